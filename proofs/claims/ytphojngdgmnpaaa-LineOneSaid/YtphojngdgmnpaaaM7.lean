/-
  M7: several texts as one: LawLine4, LawLine5, LawLine6, LawLine7, LawLine8, LawLine9, LawLine10, LawLine11, LawLine12, LawLine13. No condition beyond those that each theorem states.
-/
import Derived.Test.YtphojngdgmnpaaaM6
namespace Go.Proofs.Ytphojngdgmnpaaa
open Go Go.RowKit
set_option linter.unusedVariables false
set_option linter.unusedSimpArgs false
set_option maxRecDepth 100000
/-- a call by a number: of few keys, under way at once with others, its answer one that may be or not -/
def calN (i : Nat) (v : Int) : Cal :=
  let k := v % 1099511627776
  let o0 := lawOp (k % 4 + k / 4 % 3 * 32)
  let o : Opn := if o0.kind = 3 then { o0 with add := BitVec.ofInt 64 (1 + k / 16384 % 3) } else o0
  let c := callC o (2 * (i : Int)) (2 * (i : Int) + 1 + k / 16 % 7) Ans.zero
  if k / 128 % 8 = 7 then { c with to := -1 }
  else if large o then { c with ans := { Ans.zero with code := 2 } }
  else if o.kind = 4 ∧ k / 1024 % 2 = 0 then { c with ans := { Ans.zero with found := true, val := lawVl (k / 2048 % 3) } }
  else if o.kind ≠ 4 ∧ k / 1024 % 8 = 0 then { c with ans := { Ans.zero with code := 3 } }
  else c
def callsGo : Nat → List Int → List Cal
  | _, [] => []
  | i, v :: vs => calN i v :: callsGo (i + 1) vs
def callsC (l : List Int) (most : Nat) : List Cal := callsGo 0 (l.take most)
theorem callsGo_len : ∀ (l : List Int) (i : Nat), (callsGo i l).length = l.length
  | [], _ => rfl
  | v :: l, i => by simp [callsGo, callsGo_len l]
theorem callsC_len (l : List Int) (most : Nat) : (callsC l most).length = min most l.length := by unfold callsC; rw [callsGo_len, List.length_take]
attribute [local irreducible] OpOK AWops AW CondB Go2 AFn thenA inBlockA noGotoA orderOk wantedA
set_option maxRecDepth 100000 in
set_option maxHeartbeats 8000000 in
theorem a_calls (l : List Int) (hv : ∀ v ∈ l, -9223372036854775808 ≤ v ∧ v ≤ 9223372036854775807) (hl : l.length ≤ 1000000000000000) (most : Nat) (hm : most ≤ 100) :
    AFn Try.prog 11 [intsA l, intA (most : Nat)] (calsA (callsC l most)) := by
  refine AFn_intro Try.func11 rfl Try.ntmps11 rfl (by simp) [_] rfl fun E hE => ?_
  have hnt : (!true) = false := rfl
  have hnf : (!false) = true := rfl
  refine wSS ?_
  refine AW_go (Go2.token 5 5 26 46 rfl rfl) ?_
  refine AW_loopI (fun x : Nat × List Cal => ⟨[(0, intsA l), (1, intA (most : Nat)), (5, .sl (some 5) 27 (x.2.map Cal.av)), (6, intA (x.1 : Nat))], [(5, .tail 46 27 x.2.length)]⟩) (fun x => x.1 ≤ (l.take most).length ∧ x.2.length = x.1 ∧ x.2 ++ callsGo x.1 ((l.take most).drop x.1) = callsC l most) (fun x => (l.take most).length - x.1) (0, []) ⟨Nat.zero_le _, rfl, rfl⟩ (by (refine Go2.sub ⟨?_, ?_, ?_⟩ <;> repeat' (first | exact True.intro | rfl | apply And.intro))) (fun x hx => ?_)
  obtain ⟨i, acc⟩ := x
  obtain ⟨hi, hal, hF⟩ := hx
  dsimp only at hi hal hF ⊢
  have htl : (l.take most).length = min most l.length := List.length_take
  have end_ : (l.take most).length ≤ i → acc = callsC l most := fun h => by
    rw [List.drop_of_length_le h] at hF
    simpa [callsGo] using hF
  by_cases c1 : i < l.length
  · by_cases c2 : i < most
    · have c2i : (i : Int) < (most : Nat) := by omega
      have hlt : i < (l.take most).length := by omega
      have hvi := hv l[i] (List.getElem_mem c1)
      have hget : (l.take most)[i] = l[i] := List.getElem_take
      rw [List.drop_eq_getElem_cons hlt, hget] at hF
      have c5 := a_lplace l[i] 1099511627776 (by omega) (by omega) hvi
      unfold callsGo calN at hF
      dsimp only at hF
      obtain ⟨k, hk⟩ : ∃ k : Nat, l[i] % 1099511627776 = (k : Int) := ⟨(l[i] % 1099511627776).toNat, by omega⟩
      have hkb : k < 1099511627776 := by omega
      rw [hk] at c5 hF
      have co := a_lop ((k : Int) % 4 + (k : Int) / 4 % 3 * 32) (by omega)
      generalize lawOp ((k : Int) % 4 + (k : Int) / 4 % 3 * 32) = o0 at co hF
      have d1 := acall Try.func17 (c5) (by decide +kernel) (by decide +kernel)
      have d2 := acall Try.func26 (co) (by decide +kernel) (by decide +kernel)
--CASES
      by_cases h3 : o0.kind = 3
      · rw [if_pos h3] at hF
        refine wSS ?_
        (apply Wv; (focus (exact o_convu ⟨_, Try.underlying3⟩ Try.underlying36 rfl rfl)); (focus (first | exact want_n | exact want_g rfl (by with_reducible rfl))))
        have hkind : ({ o0 with add := BitVec.ofInt 64 (1 + (k : Int) / 16384 % 3) }).kind = o0.kind := rfl
        have cc := a_call25 ({ o0 with add := BitVec.ofInt 64 (1 + (k : Int) / 16384 % 3) }) (2 * (i : Int)) (2 * (i : Int) + 1 + (k : Int) / 16 % 7) Ans.zero
        have cl := a_ref23large ({ o0 with add := BitVec.ofInt 64 (1 + (k : Int) / 16384 % 3) })
        have d3 := acall Try.func22 (cc) (by decide +kernel) (by decide +kernel)
        by_cases h7 : (k : Int) / 128 % 8 = 7
        · rw [if_pos h7] at hF
          refine wSS ?_
          (apply Wb; (focus (exact o_bsll zero_Cal rfl rfl rfl rfl rfl rfl rfl rfl)); (focus (first | exact want_n | exact want_g rfl (by with_reducible rfl))))
          (apply Wb; (focus (exact o_app (f := Cal.av) (tk := 5) (xs := acc) (zs := [{ callC ({ o0 with add := BitVec.ofInt 64 (1 + (k : Int) / 16384 % 3) }) (2 * (i : Int)) (2 * (i : Int) + 1 + (k : Int) / 16 % 7) Ans.zero with to := -1 }]) rfl rfl rfl rfl rfl (by exact o_one Cal.av ({ callC ({ o0 with add := BitVec.ofInt 64 (1 + (k : Int) / 16384 % 3) }) (2 * (i : Int)) (2 * (i : Int) + 1 + (k : Int) / 16 % 7) Ans.zero with to := -1 }) rfl) (by simp; omega) (by simp; omega))); (focus (first | exact want_n | exact want_g rfl (by with_reducible rfl))))
          refine wSS ?_
          refine ⟨(i + 1, acc ++ [{ callC ({ o0 with add := BitVec.ofInt 64 (1 + (k : Int) / 16384 % 3) }) (2 * (i : Int)) (2 * (i : Int) + 1 + (k : Int) / 16 % 7) Ans.zero with to := -1 }]), ⟨hlt, by simp [hal], by show (acc ++ [_]) ++ _ = _; rw [List.append_assoc]; exact hF⟩, by show (l.take most).length - (i + 1) < (l.take most).length - i; omega, ?_⟩
          (refine Go2.sub ⟨?_, ?_, ?_⟩ <;> repeat' (first | exact True.intro | rfl | apply And.intro))
        rw [if_neg h7] at hF
        cases hL : large ({ o0 with add := BitVec.ofInt 64 (1 + (k : Int) / 16384 % 3) })
        case true =>
          rw [if_pos hL] at hF
          rw [hL] at cl
          have d4 := acall Try.func27 (cl) (by decide +kernel) (by decide +kernel)
          refine wSS ?_
          (apply Wb; (focus (exact o_bsll zero_Cal rfl rfl rfl rfl rfl rfl rfl rfl)); (focus (first | exact want_n | exact want_g rfl (by with_reducible rfl))))
          (apply Wb; (focus (exact o_app (f := Cal.av) (tk := 5) (xs := acc) (zs := [{ callC ({ o0 with add := BitVec.ofInt 64 (1 + (k : Int) / 16384 % 3) }) (2 * (i : Int)) (2 * (i : Int) + 1 + (k : Int) / 16 % 7) Ans.zero with ans := { Ans.zero with code := 2 } }]) rfl rfl rfl rfl rfl (by exact o_one Cal.av ({ callC ({ o0 with add := BitVec.ofInt 64 (1 + (k : Int) / 16384 % 3) }) (2 * (i : Int)) (2 * (i : Int) + 1 + (k : Int) / 16 % 7) Ans.zero with ans := { Ans.zero with code := 2 } }) rfl) (by simp; omega) (by simp; omega))); (focus (first | exact want_n | exact want_g rfl (by with_reducible rfl))))
          refine wSS ?_
          refine ⟨(i + 1, acc ++ [{ callC ({ o0 with add := BitVec.ofInt 64 (1 + (k : Int) / 16384 % 3) }) (2 * (i : Int)) (2 * (i : Int) + 1 + (k : Int) / 16 % 7) Ans.zero with ans := { Ans.zero with code := 2 } }]), ⟨hlt, by simp [hal], by show (acc ++ [_]) ++ _ = _; rw [List.append_assoc]; exact hF⟩, by show (l.take most).length - (i + 1) < (l.take most).length - i; omega, ?_⟩
          (refine Go2.sub ⟨?_, ?_, ?_⟩ <;> repeat' (first | exact True.intro | rfl | apply And.intro))
        case false =>
        rw [if_neg (by rw [hL]; simp)] at hF
        rw [hL] at cl
        have d4 := acall Try.func27 (cl) (by decide +kernel) (by decide +kernel)
        by_cases h4 : o0.kind = 4
        · exfalso; omega
        · by_cases h8 : (k : Int) / 1024 % 8 = 0
          · rw [if_neg (fun h => h4 h.1), if_pos ⟨h4, h8⟩] at hF
            refine wSS ?_
            (apply Wb; (focus (exact o_bsll zero_Cal rfl rfl rfl rfl rfl rfl rfl rfl)); (focus (first | exact want_n | exact want_g rfl (by with_reducible rfl))))
            (apply Wb; (focus (exact o_app (f := Cal.av) (tk := 5) (xs := acc) (zs := [{ callC ({ o0 with add := BitVec.ofInt 64 (1 + (k : Int) / 16384 % 3) }) (2 * (i : Int)) (2 * (i : Int) + 1 + (k : Int) / 16 % 7) Ans.zero with ans := { Ans.zero with code := 3 } }]) rfl rfl rfl rfl rfl (by exact o_one Cal.av ({ callC ({ o0 with add := BitVec.ofInt 64 (1 + (k : Int) / 16384 % 3) }) (2 * (i : Int)) (2 * (i : Int) + 1 + (k : Int) / 16 % 7) Ans.zero with ans := { Ans.zero with code := 3 } }) rfl) (by simp; omega) (by simp; omega))); (focus (first | exact want_n | exact want_g rfl (by with_reducible rfl))))
            refine wSS ?_
            refine ⟨(i + 1, acc ++ [{ callC ({ o0 with add := BitVec.ofInt 64 (1 + (k : Int) / 16384 % 3) }) (2 * (i : Int)) (2 * (i : Int) + 1 + (k : Int) / 16 % 7) Ans.zero with ans := { Ans.zero with code := 3 } }]), ⟨hlt, by simp [hal], by show (acc ++ [_]) ++ _ = _; rw [List.append_assoc]; exact hF⟩, by show (l.take most).length - (i + 1) < (l.take most).length - i; omega, ?_⟩
            (refine Go2.sub ⟨?_, ?_, ?_⟩ <;> repeat' (first | exact True.intro | rfl | apply And.intro))
          · rw [if_neg (fun h => h4 h.1), if_neg (fun h => h8 h.2)] at hF
            refine wSS ?_
            (apply Wb; (focus (exact o_bsll zero_Cal rfl rfl rfl rfl rfl rfl rfl rfl)); (focus (first | exact want_n | exact want_g rfl (by with_reducible rfl))))
            (apply Wb; (focus (exact o_app (f := Cal.av) (tk := 5) (xs := acc) (zs := [callC ({ o0 with add := BitVec.ofInt 64 (1 + (k : Int) / 16384 % 3) }) (2 * (i : Int)) (2 * (i : Int) + 1 + (k : Int) / 16 % 7) Ans.zero]) rfl rfl rfl rfl rfl (by exact o_one Cal.av (callC ({ o0 with add := BitVec.ofInt 64 (1 + (k : Int) / 16384 % 3) }) (2 * (i : Int)) (2 * (i : Int) + 1 + (k : Int) / 16 % 7) Ans.zero) rfl) (by simp; omega) (by simp; omega))); (focus (first | exact want_n | exact want_g rfl (by with_reducible rfl))))
            refine wSS ?_
            refine ⟨(i + 1, acc ++ [callC ({ o0 with add := BitVec.ofInt 64 (1 + (k : Int) / 16384 % 3) }) (2 * (i : Int)) (2 * (i : Int) + 1 + (k : Int) / 16 % 7) Ans.zero]), ⟨hlt, by simp [hal], by show (acc ++ [_]) ++ _ = _; rw [List.append_assoc]; exact hF⟩, by show (l.take most).length - (i + 1) < (l.take most).length - i; omega, ?_⟩
            (refine Go2.sub ⟨?_, ?_, ?_⟩ <;> repeat' (first | exact True.intro | rfl | apply And.intro))
      · rw [if_neg h3] at hF
        have hkind : (o0).kind = o0.kind := rfl
        have cc := a_call25 (o0) (2 * (i : Int)) (2 * (i : Int) + 1 + (k : Int) / 16 % 7) Ans.zero
        have cl := a_ref23large (o0)
        have d3 := acall Try.func22 (cc) (by decide +kernel) (by decide +kernel)
        by_cases h7 : (k : Int) / 128 % 8 = 7
        · rw [if_pos h7] at hF
          refine wSS ?_
          (apply Wb; (focus (exact o_bsll zero_Cal rfl rfl rfl rfl rfl rfl rfl rfl)); (focus (first | exact want_n | exact want_g rfl (by with_reducible rfl))))
          (apply Wb; (focus (exact o_app (f := Cal.av) (tk := 5) (xs := acc) (zs := [{ callC (o0) (2 * (i : Int)) (2 * (i : Int) + 1 + (k : Int) / 16 % 7) Ans.zero with to := -1 }]) rfl rfl rfl rfl rfl (by exact o_one Cal.av ({ callC (o0) (2 * (i : Int)) (2 * (i : Int) + 1 + (k : Int) / 16 % 7) Ans.zero with to := -1 }) rfl) (by simp; omega) (by simp; omega))); (focus (first | exact want_n | exact want_g rfl (by with_reducible rfl))))
          refine wSS ?_
          refine ⟨(i + 1, acc ++ [{ callC (o0) (2 * (i : Int)) (2 * (i : Int) + 1 + (k : Int) / 16 % 7) Ans.zero with to := -1 }]), ⟨hlt, by simp [hal], by show (acc ++ [_]) ++ _ = _; rw [List.append_assoc]; exact hF⟩, by show (l.take most).length - (i + 1) < (l.take most).length - i; omega, ?_⟩
          (refine Go2.sub ⟨?_, ?_, ?_⟩ <;> repeat' (first | exact True.intro | rfl | apply And.intro))
        rw [if_neg h7] at hF
        cases hL : large (o0)
        case true =>
          rw [if_pos hL] at hF
          rw [hL] at cl
          have d4 := acall Try.func27 (cl) (by decide +kernel) (by decide +kernel)
          refine wSS ?_
          (apply Wb; (focus (exact o_bsll zero_Cal rfl rfl rfl rfl rfl rfl rfl rfl)); (focus (first | exact want_n | exact want_g rfl (by with_reducible rfl))))
          (apply Wb; (focus (exact o_app (f := Cal.av) (tk := 5) (xs := acc) (zs := [{ callC (o0) (2 * (i : Int)) (2 * (i : Int) + 1 + (k : Int) / 16 % 7) Ans.zero with ans := { Ans.zero with code := 2 } }]) rfl rfl rfl rfl rfl (by exact o_one Cal.av ({ callC (o0) (2 * (i : Int)) (2 * (i : Int) + 1 + (k : Int) / 16 % 7) Ans.zero with ans := { Ans.zero with code := 2 } }) rfl) (by simp; omega) (by simp; omega))); (focus (first | exact want_n | exact want_g rfl (by with_reducible rfl))))
          refine wSS ?_
          refine ⟨(i + 1, acc ++ [{ callC (o0) (2 * (i : Int)) (2 * (i : Int) + 1 + (k : Int) / 16 % 7) Ans.zero with ans := { Ans.zero with code := 2 } }]), ⟨hlt, by simp [hal], by show (acc ++ [_]) ++ _ = _; rw [List.append_assoc]; exact hF⟩, by show (l.take most).length - (i + 1) < (l.take most).length - i; omega, ?_⟩
          (refine Go2.sub ⟨?_, ?_, ?_⟩ <;> repeat' (first | exact True.intro | rfl | apply And.intro))
        case false =>
        rw [if_neg (by rw [hL]; simp)] at hF
        rw [hL] at cl
        have d4 := acall Try.func27 (cl) (by decide +kernel) (by decide +kernel)
        by_cases h4 : o0.kind = 4
        · by_cases h2 : (k : Int) / 1024 % 2 = 0
          · rw [if_pos ⟨h4, h2⟩] at hF
            have cv := a_lval ((k : Int) / 2048 % 3) (by omega)
            have d5 := acall Try.func21 (cv) (by decide +kernel) (by decide +kernel)
            refine wSS ?_
            (apply Wb; (focus (exact o_bsll zero_Cal rfl rfl rfl rfl rfl rfl rfl rfl)); (focus (first | exact want_n | exact want_g rfl (by with_reducible rfl))))
            (apply Wb; (focus (exact o_app (f := Cal.av) (tk := 5) (xs := acc) (zs := [{ callC (o0) (2 * (i : Int)) (2 * (i : Int) + 1 + (k : Int) / 16 % 7) Ans.zero with ans := { Ans.zero with found := true, val := lawVl ((k : Int) / 2048 % 3) } }]) rfl rfl rfl rfl rfl (by exact o_one Cal.av ({ callC (o0) (2 * (i : Int)) (2 * (i : Int) + 1 + (k : Int) / 16 % 7) Ans.zero with ans := { Ans.zero with found := true, val := lawVl ((k : Int) / 2048 % 3) } }) rfl) (by simp; omega) (by simp; omega))); (focus (first | exact want_n | exact want_g rfl (by with_reducible rfl))))
            refine wSS ?_
            refine ⟨(i + 1, acc ++ [{ callC (o0) (2 * (i : Int)) (2 * (i : Int) + 1 + (k : Int) / 16 % 7) Ans.zero with ans := { Ans.zero with found := true, val := lawVl ((k : Int) / 2048 % 3) } }]), ⟨hlt, by simp [hal], by show (acc ++ [_]) ++ _ = _; rw [List.append_assoc]; exact hF⟩, by show (l.take most).length - (i + 1) < (l.take most).length - i; omega, ?_⟩
            (refine Go2.sub ⟨?_, ?_, ?_⟩ <;> repeat' (first | exact True.intro | rfl | apply And.intro))
          · rw [if_neg (fun h => h2 h.2), if_neg (fun h => h.1 h4)] at hF
            refine wSS ?_
            (apply Wb; (focus (exact o_bsll zero_Cal rfl rfl rfl rfl rfl rfl rfl rfl)); (focus (first | exact want_n | exact want_g rfl (by with_reducible rfl))))
            (apply Wb; (focus (exact o_app (f := Cal.av) (tk := 5) (xs := acc) (zs := [callC (o0) (2 * (i : Int)) (2 * (i : Int) + 1 + (k : Int) / 16 % 7) Ans.zero]) rfl rfl rfl rfl rfl (by exact o_one Cal.av (callC (o0) (2 * (i : Int)) (2 * (i : Int) + 1 + (k : Int) / 16 % 7) Ans.zero) rfl) (by simp; omega) (by simp; omega))); (focus (first | exact want_n | exact want_g rfl (by with_reducible rfl))))
            refine wSS ?_
            refine ⟨(i + 1, acc ++ [callC (o0) (2 * (i : Int)) (2 * (i : Int) + 1 + (k : Int) / 16 % 7) Ans.zero]), ⟨hlt, by simp [hal], by show (acc ++ [_]) ++ _ = _; rw [List.append_assoc]; exact hF⟩, by show (l.take most).length - (i + 1) < (l.take most).length - i; omega, ?_⟩
            (refine Go2.sub ⟨?_, ?_, ?_⟩ <;> repeat' (first | exact True.intro | rfl | apply And.intro))
        · by_cases h8 : (k : Int) / 1024 % 8 = 0
          · rw [if_neg (fun h => h4 h.1), if_pos ⟨h4, h8⟩] at hF
            refine wSS ?_
            (apply Wb; (focus (exact o_bsll zero_Cal rfl rfl rfl rfl rfl rfl rfl rfl)); (focus (first | exact want_n | exact want_g rfl (by with_reducible rfl))))
            (apply Wb; (focus (exact o_app (f := Cal.av) (tk := 5) (xs := acc) (zs := [{ callC (o0) (2 * (i : Int)) (2 * (i : Int) + 1 + (k : Int) / 16 % 7) Ans.zero with ans := { Ans.zero with code := 3 } }]) rfl rfl rfl rfl rfl (by exact o_one Cal.av ({ callC (o0) (2 * (i : Int)) (2 * (i : Int) + 1 + (k : Int) / 16 % 7) Ans.zero with ans := { Ans.zero with code := 3 } }) rfl) (by simp; omega) (by simp; omega))); (focus (first | exact want_n | exact want_g rfl (by with_reducible rfl))))
            refine wSS ?_
            refine ⟨(i + 1, acc ++ [{ callC (o0) (2 * (i : Int)) (2 * (i : Int) + 1 + (k : Int) / 16 % 7) Ans.zero with ans := { Ans.zero with code := 3 } }]), ⟨hlt, by simp [hal], by show (acc ++ [_]) ++ _ = _; rw [List.append_assoc]; exact hF⟩, by show (l.take most).length - (i + 1) < (l.take most).length - i; omega, ?_⟩
            (refine Go2.sub ⟨?_, ?_, ?_⟩ <;> repeat' (first | exact True.intro | rfl | apply And.intro))
          · rw [if_neg (fun h => h4 h.1), if_neg (fun h => h8 h.2)] at hF
            refine wSS ?_
            (apply Wb; (focus (exact o_bsll zero_Cal rfl rfl rfl rfl rfl rfl rfl rfl)); (focus (first | exact want_n | exact want_g rfl (by with_reducible rfl))))
            (apply Wb; (focus (exact o_app (f := Cal.av) (tk := 5) (xs := acc) (zs := [callC (o0) (2 * (i : Int)) (2 * (i : Int) + 1 + (k : Int) / 16 % 7) Ans.zero]) rfl rfl rfl rfl rfl (by exact o_one Cal.av (callC (o0) (2 * (i : Int)) (2 * (i : Int) + 1 + (k : Int) / 16 % 7) Ans.zero) rfl) (by simp; omega) (by simp; omega))); (focus (first | exact want_n | exact want_g rfl (by with_reducible rfl))))
            refine wSS ?_
            refine ⟨(i + 1, acc ++ [callC (o0) (2 * (i : Int)) (2 * (i : Int) + 1 + (k : Int) / 16 % 7) Ans.zero]), ⟨hlt, by simp [hal], by show (acc ++ [_]) ++ _ = _; rw [List.append_assoc]; exact hF⟩, by show (l.take most).length - (i + 1) < (l.take most).length - i; omega, ?_⟩
            (refine Go2.sub ⟨?_, ?_, ?_⟩ <;> repeat' (first | exact True.intro | rfl | apply And.intro))
--END
    · have c2i : ¬ (i : Int) < (most : Nat) := by omega
      rw [← end_ (by omega)]
      refine wSS ?_
      exact fin ⟨res_sl rfl, trivial⟩
  · rw [← end_ (by omega)]
    refine wSS ?_
    exact fin ⟨res_sl rfl, trivial⟩
end Go.Proofs.Ytphojngdgmnpaaa

namespace Go.Proofs.Ytphojngdgmnpaaa
open Go Go.RowKit
set_option linter.unusedVariables false
set_option linter.unusedSimpArgs false
set_option maxRecDepth 100000
section
variable {E : Env} {nt : Nat} {ops : Array Oper} {T : Nat → Option AV} {H : Hp} {d : Option Nat} {ty : TypeId} {pos : String} {af : Array Edge} {gd : Option (Nat × Bool)}
theorem oi_len {x : Operand} {t e e' : TypeId} {es bytes : Nat} {ea : Bool} {g n len : Nat} {f : Int → AV} {xs : List (Int)} (hs : tabT.ti t = some (.sl e es bytes ea)) (hd : dOk nt d = true) (hx : evalO T x = some (.own g n len .row)) (hg : H g = some (.own e' n (xs.map f))) (hl : len = xs.length) :
    OpOK Try.prog E nt ops ⟨d, .call { callee := .builtin .len, args := #[x], argTypes := #[t] }, ty, pos, af, gd⟩ T H [g] ⟨.v (.int .i64 (len : Nat)), []⟩ := ok_len_own hs hd hx hg (by simpa using hl)
theorem oi_idx {x ix : Operand} {t e : TypeId} {es bytes : Nat} {ea : Bool} {g len : Nat} {f : Int → AV} {xs : List (Int)} {k : IntKind} {n : Int} {i : Nat} (hd : dOk nt d = true) (hs : tabT.ti t = some (.sl e es bytes ea)) (hx : evalO T x = some (.own g es len .row)) (hg : H g = some (.own e es (xs.map f))) (hi : evalO T ix = some (.v (.int k n))) (hn : natOf n = some i)
    (hl : len = xs.length) (hlt : i < len) : OpOK Try.prog E nt ops ⟨d, .indexAddr t x ix, ty, pos, af, gd⟩ T H [g] ⟨.own g es len (.at (i * es) [i]), []⟩ := by
  subst hl
  exact oo_idx hd hs hx hg hi hn hlt
theorem oi_ld {x : Operand} {t e : TypeId} {g len i : Nat} {f : Int → AV} {xs : List (Int)} (hd : dOk nt d = true) (hx : evalO T x = some (.own g 1 len (.at (i * 1) [i]))) (hg : H g = some (.own e 1 (xs.map f))) (hl : len = xs.length) (hlt : i < xs.length) (hs : tabT.sa t = some (isAggA (f xs[i]), 1)) (h1 : sizeA (f xs[i]) = 1) :
    OpOK Try.prog E nt ops ⟨d, .load t x, ty, pos, af, gd⟩ T H [g] ⟨f xs[i], []⟩ := by
  subst hl
  exact oo_load hd hx hg (by omega) (by simp [subA, hlt]) (by simp [offA]) (by rw [h1]; exact hs)
theorem oi_st {x y : Operand} {t e : TypeId} {g len i : Nat} {b : Int} {f : Int → AV} {xs : List (Int)} (hx : evalO T x = some (.own g 1 len (.at (i * 1) [i]))) (hy : evalO T y = some (f b)) (hg : H g = some (.own e 1 (xs.map f))) (hl : len = xs.length) (hlt : i < xs.length) (hs : tabT.sa t = some (isAggA (f b), 1)) (h1 : ∀ a, sizeA (f a) = 1) (hdt : dataA (f b) = true) (hnt : notTup (f b) = true) :
    OpOK Try.prog E nt ops ⟨none, .store t x y, ty, pos, af, gd⟩ T H [g] ⟨.tup [], [(g, .own e 1 ((xs.set i b).map f))]⟩ := by
  subst hl
  exact oo_store hx hy hg (by omega) (old := f xs[i]) (by simp [subA, hlt]) (by simp [offA]) (by simp [setA, hlt, hdt, List.map_set]) (by rw [h1]; exact hs) (by rw [h1, h1]) hnt
end
theorem wOI {Q R : Prop} (k : R) (h : Hid R → Q := by intro kHid; (repeat (first | (first | refine Wend _ ?_ | refine AW_seq ?_ | refine AW_reg ?_ | refine AW_drw mixed ?_ | refine AW_block ?_ | refine AW_scope ?_ | refine thenA_n ?_ | refine blockA_n ?_ | refine blockA_h ?_ | refine scopeA_n ?_ | refine thenA_r ?_ | refine blockA_r ?_ | refine scopeA_r ?_ | refine thenA_e ?_ | refine scopeA_e ?_ | refine blockA_e rfl ?_ | refine AW_exit ?_ | refine AW_ret ?_ | refine AW_skip ?_ | refine AW_c rfl ?_ | with_reducible refine cb_t ?_ | with_reducible refine cb_f ?_ | with_reducible refine cb_yes (by first | assumption | omega) ?_ | with_reducible refine cb_no (by first | assumption | omega) ?_ | refine And.intro (by decide +kernel) ?_) | (first | (apply Wb; (focus (first | exact o_bsl0O rfl rfl rfl | exact oo_app0 rfl rfl rfl rfl rfl (by first | exact o_many rfl | exact o_one _ _ rfl | exact o_zero rfl) (by first | omega | (simp; omega) | (simp; done)) (by first | omega | (simp; omega) | (simp; done)))); (focus (first | exact want_n | exact want_g rfl (by with_reducible rfl)))) | (apply Wv; (focus (first | exact oi_len rfl rfl rfl rfl (by first | rfl | assumption | omega | (simp; done) | (simp; omega)) | exact oi_idx rfl rfl rfl rfl rfl rfl (by first | rfl | assumption | omega | (simp; done) | (simp; omega)) (by first | rfl | assumption | omega | (simp; done) | (simp; omega)) | exact oi_ld rfl rfl rfl (by first | rfl | assumption | omega | (simp; done) | (simp; omega)) (by first | rfl | assumption | omega | (simp; done) | (simp; omega)) rfl rfl)); (focus (first | exact want_n | exact want_g rfl (by with_reducible rfl)))) | (apply Ws; (focus (exact oi_st (f := intA) rfl rfl rfl (by first | rfl | assumption | omega | (simp; done) | (simp; omega)) (by first | rfl | assumption | omega | (simp; done) | (simp; omega)) rfl (fun _ => rfl) rfl rfl)); (focus (first | exact want_n | exact want_g rfl (by with_reducible rfl)))) | (first | (apply Wv; (focus (first | exact step_ok rfl rfl | exact o_idx rfl rfl rfl rfl (by first | assumption | omega | decide) | exact o_idx3 rfl rfl rfl rfl (by first | assumption | omega | decide) | exact o_idx2 rfl rfl rfl rfl rfl (by first | assumption | omega | decide) | exact o_idxr rfl rfl rfl rfl rfl rfl | exact o_lenm rfl rfl rfl | exact o_len rfl rfl rfl | exact o_len0 rfl rfl rfl | exact o_lens rfl rfl rfl | exact o_lent rfl rfl | exact o_add1 rfl rfl rfl (by omega) | exact o_addn rfl rfl rfl (by omega) | exact o_add rfl rfl rfl (by omega) | exact o_sub1 rfl rfl rfl (by omega) | exact o_sub rfl rfl rfl (by omega) | exact o_mul rfl rfl rfl (by omega) | exact o_rem rfl rfl rfl (by omega) | exact ok_rem rfl rfl rfl (by decide) rfl | exact o_eqKey rfl rfl rfl | exact o_neKey rfl rfl rfl | exact o_eqVl rfl rfl rfl | exact o_neVl rfl rfl rfl | exact o_eqEnt rfl rfl rfl | exact o_neEnt rfl rfl rfl | exact o_eqMsg rfl rfl rfl | exact o_neMsg rfl rfl rfl | exact o_acall rfl rfl rfl rfl (by assumption) | exact o_minn rfl rfl rfl | exact o_cutl rfl rfl rfl rfl (by omega) | exact o_cuth rfl rfl rfl rfl (by omega) | exact o_cutl3 rfl rfl rfl rfl (by omega) | exact o_cuth3 rfl rfl rfl rfl (by omega) | exact o_cutl2 rfl rfl rfl rfl rfl (by omega) | exact o_cuth2 rfl rfl rfl rfl rfl (by omega) | exact o_cutlh2 rfl rfl rfl rfl rfl rfl rfl (by omega) (by omega) | exact o_bld zero_Opn rfl rfl rfl rfl rfl rfl rfl | exact o_bld zero_Cal rfl rfl rfl rfl rfl rfl rfl | exact o_bld zero_state rfl rfl rfl rfl rfl rfl rfl | exact o_bld zero_search rfl rfl rfl rfl rfl rfl rfl | exact o_nilcr rfl rfl | exact o_nilcp rfl rfl | exact o_eqbar rfl rfl rfl (by simp) (by simp) | exact o_ldbar rfl rfl (by simp) rfl (by first | omega | (simp; omega)) rfl | exact o_idxpn rfl rfl rfl rfl (by omega) | exact o_idxvn rfl rfl rfl rfl (by omega) (by assumption) rfl | exact o_idxrn rfl rfl rfl rfl (by omega) (by assumption) | exact o_cutarr rfl rfl rfl rfl | exact o_mkfn rfl rfl rfl | exact o_callv rfl rfl rfl rfl rfl rfl (by assumption) | exact o_bld zero_Ans rfl rfl rfl rfl rfl rfl rfl | exact o_eqAns rfl rfl rfl | exact o_neAns rfl rfl rfl | exact e_bld rfl rfl rfl | exact e_bldk rfl rfl | exact z_bld0 rfl rfl rfl rfl rfl | exact z_bld rfl rfl rfl rfl rfl rfl rfl | exact o_addu rfl rfl rfl | exact z_blda rfl rfl rfl rfl rfl rfl rfl rfl rfl | exact o_idxa rfl rfl rfl rfl rfl rfl | exact o_idxra rfl rfl rfl rfl rfl rfl rfl | exact o_quo2 rfl rfl rfl (by omega) | exact o_quo rfl rfl rfl (by omega))); (focus (first | exact want_n | exact want_g rfl (by with_reducible rfl)))) | (apply Wb; (focus (first | exact o_box rfl rfl rfl rfl | exact o_app rfl rfl rfl rfl rfl (by first | exact o_many rfl | exact o_one _ _ rfl) (by first | omega | (simp; omega) | simp) (by first | omega | (simp; omega) | simp) | exact o_appn rfl rfl rfl rfl rfl (by first | exact o_many rfl | exact o_one _ _ rfl) (by first | omega | (simp; omega) | simp) (by first | omega | (simp; omega) | simp) | exact o_app1 rfl rfl rfl rfl rfl (by first | exact o_many rfl | exact o_one _ _ rfl) (by exact rfl) (by first | omega | (simp; omega) | simp) (by first | omega | (simp; omega) | simp) | exact o_app0 rfl rfl rfl rfl rfl (by first | exact o_many rfl | exact o_one _ _ rfl) (by first | omega | (simp; omega) | simp) (by first | omega | (simp; omega) | simp) | exact o_bsl0 rfl rfl rfl | exact z_bsll rfl rfl rfl rfl rfl rfl rfl rfl rfl | exact z_alloc rfl rfl rfl | exact o_alloc zero_Opn rfl rfl | exact o_alloc zero_Cal rfl rfl | exact o_alloc zero_state rfl rfl | exact o_alloc zero_b14 rfl rfl | exact o_cpents rfl rfl rfl rfl rfl rfl (by omega) | exact o_alloc zero_Ans rfl rfl | exact o_bsll zero_Ans rfl rfl rfl rfl rfl rfl rfl rfl | exact o_bsll zero_Opn rfl rfl rfl rfl rfl rfl rfl rfl)); (focus (first | exact want_n | exact want_g rfl (by with_reducible rfl)))) | (apply Ws; (focus (first | exact o_stin rfl (by simp) rfl rfl (by first | omega | (simp; omega)) rfl | exact o_stbar rfl (by simp) rfl rfl (by first | omega | (simp; omega)) rfl | exact ok_store tabT (d := none) rfl rfl rfl rfl rfl rfl rfl rfl rfl rfl)); (focus (first | exact want_n | exact want_g rfl (by with_reducible rfl)))) | (refine Wskip (by first | exact want_f rfl (by with_reducible exact b_nt) | exact want_f rfl (by with_reducible exact b_nf) | exact want_t rfl) rfl ?_) | refine Wgt rfl rfl (by first | assumption | omega | exact rfl) ?_ | refine Wgf rfl rfl (by first | assumption | omega | exact rfl) ?_ | (refine Wgb rfl rfl (by with_reducible assumption) ?_) | (refine cb_is _ (by assumption) ?_))))); exact kHid.out) : Q := h ⟨k⟩
/-- the numbers ahead of a place, but each fifth, within 0 to 6 -/
def mx (j : Nat) (l : List Int) : List Int := (List.range l.length).map fun i => if i < j ∧ 0 < i % 5 then l.getD i 0 % 7 else l.getD i 0
@[simp] theorem mx_len (j : Nat) (l : List Int) : (mx j l).length = l.length := by simp [mx]
attribute [local irreducible] OpOK AWops AW CondB Go2 AFn thenA inBlockA noGotoA orderOk wantedA
end Go.Proofs.Ytphojngdgmnpaaa

namespace Go.Proofs.Ytphojngdgmnpaaa
open Go Go.RowKit
set_option linter.unusedVariables false
set_option linter.unusedSimpArgs false
set_option maxRecDepth 100000
section
variable {E : Env} {nt : Nat} {T : Nat → Option AV} {H : Hp}
theorem Rel.tokenO {B : Blk} {a : Act} {w : World} (r : Rel E nt B T H a w) {g n : Nat} {e : TypeId} (hg : H g = none) (hn : 0 < n) : Rel E nt B T (upd H g (.own e n [])) a w := by
  have hb := r.non g hg
  have pic : Pic w w B B H (upd H g (.own e n [])) := by
    refine ⟨fun _ _ _ h => h, fun j h => ?_, fun t n len A cap h => ?_, ownPic (Evo.refl (fun _ _ => False) w) fun g' e' n' ys h => ?_⟩
    · have hj : j ≠ g := fun e => by rw [e, hg] at h; cases h
      rw [upd_ne _ _ hj]; exact h
    · obtain ⟨e', k, h1, h2⟩ := h
      have hj : t ≠ g := fun e => by rw [e, hg] at h1; cases h1
      exact ⟨e', k, by rw [upd_ne _ _ hj]; exact h1, h2⟩
    · have hne : g' ≠ g := fun e' => by rw [e', hg] at h; cases h
      exact ⟨(upd_ne _ _ hne).trans h, rfl⟩
  refine r.move (Evo.refl _ w) (fun b o _ h => (unst_none hg hb).1 h) pic r.left (fun j bj h => ?_) (fun j h => ?_) (fun j j' b h1 h2 h3 h4 => ?_)
  · by_cases hj : j = g
    · subst hj; rw [upd_same] at h; injection h with h; subst h; exact .inl ⟨hn, Tie.none (r.keep _ hg), .inl ⟨hb, rfl⟩⟩
    · rw [upd_ne _ _ hj] at h
      exact .inr ⟨h, rfl, fun _ _ _ => rfl⟩
  · by_cases hj : j = g
    · subst hj; rw [upd_same] at h; cases h
    · rw [upd_ne _ _ hj] at h; exact ⟨h, r.non j h⟩
  · have hne : ∀ j, B j = some b → j ≠ g := fun j h e => by rw [e, hb] at h; cases h
    rw [upd_ne _ _ (hne j h3)] at h1
    rw [upd_ne _ _ (hne j' h4)] at h2
    exact r.inj j j' b h1 h2 h3 h4
end
theorem Go2.tokenO {E : Env} {nt : Nat} {T : List (Nat × AV)} {H : List (Nat × Bx)} (s g n : Nat) (e : TypeId) (hs : look s T = some (.v (.slice none 0 0))) (hg : look g H = none) : Go2 E nt ⟨T, H⟩ ⟨(s, .own g (n + 1) 0 .row) :: T, (g, .own e (n + 1) []) :: H⟩ := fun B a w r => by
  have r1 := r.tokenO (g := g) (n := n + 1) (e := e) hg (Nat.succ_pos n)
  refine ⟨B, r1.nt, r1.df, fun s' x hx => ?_, fun g' bx h => ?_, fun g' h => ?_, fun g1 g2 b h1 h2 => ?_, r1.left, fun g' h => ?_⟩
  all_goals have eH : St.h ⟨(s, AV.own g (n + 1) 0 .row) :: T, (g, .own e (n + 1) []) :: H⟩ = upd (St.h ⟨T, H⟩) g (.own e (n + 1) []) := look_cons _ _ _
  · have eT : St.t ⟨(s, AV.own g (n + 1) 0 .row) :: T, (g, .own e (n + 1) []) :: H⟩ = upd (St.t ⟨T, H⟩) s (.own g (n + 1) 0 .row) := look_cons _ _ _
    rw [eH]
    rw [eT] at hx
    by_cases h : s' = s
    · subst h
      rw [upd_same] at hx
      injection hx with hx
      subst hx
      obtain ⟨v, h1, h2⟩ := r1.tmp s' _ hs
      rw [Rdv_v] at h2
      refine ⟨v, h1, ?_⟩
      rw [Rdv_not (by simp), h2.2]
      exact ⟨[_], by simp only [Rd]; exact ⟨_, ⟨e, [], upd_same _ _ _, Nat.le_refl _, rfl, fun _ => ⟨fun _ => rfl, fun b hb => by rw [r.non g hg] at hb; cases hb⟩⟩, rfl⟩, rfl⟩
    · rw [upd_ne _ _ h] at hx
      exact r1.tmp s' x hx
  · rw [eH] at h ⊢; exact r1.box g' bx h
  · rw [eH] at h; exact r1.non g' h
  · rw [eH] at h1 h2; exact r1.inj g1 g2 b h1 h2
  · rw [eH] at h; exact r1.keep g' h
theorem runC_to (ops : List Int) (wide : List (BitVec 8)) (most : Nat) (k : Nat) (hk : k < (runC ops wide most).length) : 0 ≤ (atC (runC ops wide most) k).to := by
  have h := (runGo_at wide (ops.take most) 0 [] k hk).2
  rw [← atC_get hk]
  have h : 10 * ((0 + k : Nat) : Int) + 1 ≤ (runC ops wide most)[k].to := h
  omega
def rowM (ops : List Int) (j : Nat) : List Int := (List.range j).map fun i => if i < ops.length then ops.getD i 0 else 3 + 4 * (i : Int)
@[simp] theorem rowM_len (ops : List Int) (j : Nat) : (rowM ops j).length = j := by simp [rowM]
attribute [local irreducible] OpOK AWops AW CondB Go2 AFn thenA inBlockA noGotoA orderOk wantedA
end Go.Proofs.Ytphojngdgmnpaaa

namespace Go.Proofs.Ytphojngdgmnpaaa
open Go Go.RowKit
set_option linter.unusedVariables false
set_option linter.unusedSimpArgs false
set_option maxRecDepth 100000
/-! ### the same search -/
/-! ### shifted -/
def shC (k cl : Int) (i : Nat) (c : Cal) : Cal := ⟨cl, -(i : Int), c.op, 3 * c.frm + k, 3 * c.to + k, c.ans⟩
def shL (k cl : Int) (l : List Cal) (j : Nat) : List Cal := (List.range l.length).map fun i => if i < j then shC k cl i (atC l i) else atC l i
@[simp] theorem shL_len (k cl : Int) (l : List Cal) (j : Nat) : (shL k cl l j).length = l.length := by simp [shL]
section
variable {E : Env} {nt : Nat} {ops : Array Oper} {T : Nat → Option AV} {H : Hp} {d : Option Nat} {ty : TypeId} {pos : String} {af : Array Edge} {gd : Option (Nat × Bool)}
theorem oc_idx {x ix : Operand} {t e : TypeId} {bytes : Nat} {ea : Bool} {g len : Nat} {xs : List Cal} {k : IntKind} {i : Nat} (hd : dOk nt d = true) (hs : tabT.ti t = some (.sl e 27 bytes ea)) (hx : evalO T x = some (.own g 27 len .row)) (hg : H g = some (.own e 27 (xs.map Cal.av))) (hi : evalO T ix = some (.v (.int k (i : Nat)))) (hln : len = xs.length) (hl : i < xs.length) :
    OpOK Try.prog E nt ops ⟨d, .indexAddr t x ix, ty, pos, af, gd⟩ T H [g] ⟨.own g 27 len (.at (i * 27) [i]), []⟩ := by
  have h := ok_idx_own tabT (E := E) (ops := ops) (H := H) (ty := ty) (pos := pos) (af := af) (gd := gd) hd hs hx hg (by simpa using hln) hi (by omega) (by omega)
  rw [Int.toNat_natCast] at h
  exact h
theorem oc_fld {x : Operand} {s e : TypeId} {fd n o sz : Nat} {ag : Bool} {fs : List (Nat × Nat × Bool)} {g len off : Nat} {p : List Nat} {xs : List Cal} (hd : dOk nt d = true) (hx : evalO T x = some (.own g 27 len (.at off p))) (hg : H g = some (.own e 27 (xs.map Cal.av))) (hs : tabT.ti s = some (.st n fs)) (hf : fs[fd]? = some (o, sz + 1, ag)) (hln : len = xs.length) (h0 : 0 < xs.length) :
    OpOK Try.prog E nt ops ⟨d, .fieldAddr s x fd, ty, pos, af, gd⟩ T H [g] ⟨.own g 27 len (.at (off + o) (p ++ [fd])), []⟩ :=
  ok_fld_own tabT hd hx hg (by simpa using hln) (by simpa using h0) hs hf
theorem oc_st {x y : Operand} {t e : TypeId} {g len off i fd o : Nat} {xs : List Cal} {v old : AV} (c' : Cal) (hx : evalO T x = some (.own g 27 len (.at off [i, fd]))) (hy : evalO T y = some v) (hg : H g = some (.own e 27 (xs.map Cal.av))) (hln : len = xs.length) (hl : i < xs.length) (hz : subA [fd] xs[i].av = some old) (ho : offA [fd] xs[i].av = o) (hoff : off = i * 27 + o)
    (hv : setA v [fd] xs[i].av = some c'.av) (hdv : dataA v = true) (hs : tabT.sa t = some (isAggA v, sizeA v)) (hs' : sizeA v = sizeA old) (hnt : notTup v = true) :
    OpOK Try.prog E nt ops ⟨none, .store t x y, ty, pos, af, gd⟩ T H [g] ⟨.tup [], [(g, .own e 27 ((xs.set i c').map Cal.av))]⟩ := by
  refine ok_store_own tabT (d := none) rfl hx hy hg (by simpa using hln) (by simp; omega) (old := old) ?_ ?_ ?_ hs hs' hnt
  · simp only [subA, List.getElem?_map, List.getElem?_eq_getElem hl, Option.map_some]; exact hz
  · simp only [offA, List.getD_eq_getElem?_getD, List.getElem?_map, List.getElem?_eq_getElem hl, Option.map_some, Option.getD_some]
    rw [hoff]; congr 1
  · simp only [setA, List.getElem?_map, List.getElem?_eq_getElem hl, Option.map_some, hdv]
    rw [hv]
    simp [List.map_set]
theorem oc_len {x : Operand} {t e e' : TypeId} {es bytes : Nat} {ea : Bool} {g n len : Nat} {f : Cal → AV} {xs : List Cal} (hs : tabT.ti t = some (.sl e es bytes ea)) (hd : dOk nt d = true) (hx : evalO T x = some (.own g n len .row)) (hg : H g = some (.own e' n (xs.map f))) (hl : len = xs.length) :
    OpOK Try.prog E nt ops ⟨d, .call { callee := .builtin .len, args := #[x], argTypes := #[t] }, ty, pos, af, gd⟩ T H [g] ⟨.v (.int .i64 (len : Nat)), []⟩ := ok_len_own hs hd hx hg (by simpa using hl)
end
attribute [local irreducible] OpOK AWops AW CondB Go2 AFn thenA inBlockA noGotoA orderOk wantedA
end Go.Proofs.Ytphojngdgmnpaaa

namespace Go.Proofs.Ytphojngdgmnpaaa
open Go Go.RowKit
set_option linter.unusedVariables false
set_option linter.unusedSimpArgs false
set_option maxRecDepth 100000
set_option linter.unusedSectionVars false
/-- an order that ends as soon as all that must be are done -/
def pth1 (l : List Cal) : List Bool → List Ent → List Nat → Bool
  | d, m, [] => ovr l d
  | d, m, i :: is => !ovr l d && (decide (i < l.length) && !dOf d i && rdy l i (dOf d) && (doC m (atC l i)).2) && pth1 l (d.set i true) (doC m (atC l i)).1 is
/-! ### a put without an answer, a get -/
def txK : ByteArray := { data := #[107] }
def opPv (s : ByteArray) : Opn := ⟨1, txK, s, 0#64⟩
def opGk : Opn := ⟨4, txK, .empty, 0#64⟩
def pnd (s : ByteArray) (f : Int) (a : Ans) : List Cal := [callC (opPv s) f (-1) Ans.zero, callC opGk 3 4 a]
section
variable {s : ByteArray} (hs : s.size ≤ 16)
include hs
end
section
variable {E : Env} {nt : Nat} {ops : Array Oper} {T : Nat → Option AV} {H : Hp} {d : Option Nat} {ty : TypeId} {pos : String} {af : Array Edge} {gd : Option (Nat × Bool)}
end
attribute [local irreducible] OpOK AWops AW CondB Go2 AFn thenA inBlockA noGotoA orderOk wantedA
end Go.Proofs.Ytphojngdgmnpaaa

namespace Go.Proofs.Ytphojngdgmnpaaa
open Go Go.RowKit
set_option linter.unusedVariables false
set_option linter.unusedSimpArgs false
set_option maxRecDepth 100000
set_option linter.unusedSectionVars false
def swp (sa sb : ByteArray) (c : Vl) (f t : Int) : List Cal := [callC (opPv sa) 0 1 Ans.zero, callC (opPv sb) 2 5 Ans.zero, callC opGk f t ⟨0, true, c⟩]
def swx (sa sb : ByteArray) (c : Vl) (f t : Int) : List Cal := swp sa sb c f t ++ [callC opGk 8 9 Ans.zero]
section
variable {sa sb : ByteArray} (ha : sa.size ≤ 16) (hb : sb.size ≤ 16)
include ha hb
end
end Go.Proofs.Ytphojngdgmnpaaa

namespace Go.Proofs.Ytphojngdgmnpaaa
open Go Go.RowKit
set_option linter.unusedVariables false
set_option linter.unusedSimpArgs false
set_option maxRecDepth 100000
set_option linter.unusedSectionVars false
attribute [local irreducible] OpOK AWops AW CondB Go2 AFn thenA inBlockA noGotoA orderOk wantedA
end Go.Proofs.Ytphojngdgmnpaaa

namespace Go.Proofs.Ytphojngdgmnpaaa
open Go Go.RowKit
set_option linter.unusedVariables false
set_option linter.unusedSimpArgs false
set_option maxRecDepth 100000
set_option linter.unusedSectionVars false
theorem one_only {l : List Cal} (hl : l.length ≤ 14) (ht : ∀ k, k < l.length → 0 ≤ (atC l k).to) (hb : ∀ k i, k < i → i < l.length → before (atC l k) (atC l i) = true) :
    ∀ (q : List Nat) (j : Nat) (d : List Bool) (m : List Ent), j ≤ l.length → d.length = 14 → (∀ k, k < l.length → dOf d k = decide (k < j)) → pth l d m q = true → q = List.range' j (l.length - j) ∧ Chain m (l.drop j)
  | [], j, d, m, hj, hd, hp, h => by
    have h : ovr l d = true := h
    rw [ovr_whl hl hd] at h
    unfold whl at h
    rw [List.all_eq_true] at h
    by_cases hlt : j < l.length
    · have h1 := h j (List.mem_range.2 hlt)
      unfold whlAt at h1
      rw [decide_eq_false (show ¬ (atC l j).to < 0 by have := ht j hlt; omega), Bool.false_or, hp j hlt, decide_eq_false (Nat.lt_irrefl j)] at h1
      cases h1
    · rw [show l.length - j = 0 by omega, List.drop_eq_nil_of_le (by omega)]
      exact ⟨rfl, trivial⟩
  | i :: q, j, d, m, hj, hd, hp, h => by
    rw [pth_cons] at h
    simp only [Bool.and_eq_true, decide_eq_true_eq] at h
    obtain ⟨⟨⟨⟨h1, h2⟩, h3⟩, h4⟩, h5⟩ := h
    have h2 : dOf d i = false := by simpa using h2
    rw [hp i h1] at h2
    have h2 := of_decide_eq_false h2
    have hij : i = j := by
      by_cases hlt : j < i
      · unfold rdy at h3
        rw [List.all_eq_true] at h3
        have h6 := h3 j (List.mem_range.2 (by omega))
        unfold rdyAt at h6
        rw [decide_eq_false (show ¬ j = i by omega), hb j i hlt h1, hp j (by omega), decide_eq_false (Nat.lt_irrefl j)] at h6
        cases h6
      · omega
    subst hij
    obtain ⟨e1, e2⟩ := one_only hl ht hb q (i + 1) (d.set i true) _ (by omega) (by simpa using hd) (fun k hk => by
      rw [dOf_set (by omega), hp k hk, ← Bool.decide_or, decide_eq_decide]
      omega) h5
    have e : l.drop i = l[i] :: l.drop (i + 1) := List.drop_eq_getElem_cons h1
    rw [show l.length - i = (l.length - (i + 1)) + 1 by omega, List.range'_succ, ← e1, e]
    refine ⟨rfl, ?_, ?_⟩
    · rw [atC_get h1]; exact h4
    · rw [atC_get h1]; exact e2
theorem one_is {l : List Cal} (hl : l.length ≤ 14) (ht : ∀ k, k < l.length → 0 ≤ (atC l k).to) (hb : ∀ k i, k < i → i < l.length → before (atC l k) (atC l i) = true) {q : List Nat} (h : findC l = some q) : q = List.range l.length ∧ Chain [] l := by
  have := one_only hl ht hb q 0 (inn []) [] (Nat.zero_le _) (inn_len []) (fun k hk => by rw [dOf_nil (by omega)]; simp) (findC_some h).2
  rw [List.range_eq_range']
  exact this
theorem runGo_at0 : ∀ (vs : List Int) (i : Nat) (m : List Ent) (k : Nat) (h : k < (runGo [] i m vs).length), (runGo [] i m vs)[k].frm = 10 * ((i + k : Nat) : Int) ∧ (runGo [] i m vs)[k].to = 10 * ((i + k : Nat) : Int) + 1
  | [], _, _, k, h => absurd h (Nat.not_lt_zero _)
  | v :: vs, i, m, 0, h => ⟨rfl, rfl⟩
  | v :: vs, i, m, k + 1, h => by
    have ih := runGo_at0 vs (i + 1) (mdDo m (lawOp (v.tmod 512 + 512 * ((i : Int) % 2)))).1 k (by simpa [runGo] using h)
    simp only [runGo, List.getElem_cons_succ]
    rw [show i + 1 + k = i + (k + 1) by omega] at ih
    exact ih
theorem runC0_before (ops : List Int) (most : Nat) : ∀ k i, k < i → i < (runC ops [] most).length → before (atC (runC ops [] most) k) (atC (runC ops [] most) i) = true := fun k i hk hi => by
  have hk' : k < (runC ops [] most).length := by omega
  have h1 := (runGo_at0 (ops.take most) 0 [] k hk').2
  have h2 := (runGo_at0 (ops.take most) 0 [] i hi).1
  rw [← atC_get hk', ← atC_get hi]
  have h1 : (runC ops [] most)[k].to = 10 * ((0 + k : Nat) : Int) + 1 := h1
  have h2 : (runC ops [] most)[i].frm = 10 * ((0 + i : Nat) : Int) := h2
  unfold before
  simp only [Bool.and_eq_true, decide_eq_true_eq]
  omega
theorem doC_ans {m : List Ent} {c : Cal} (ht : 0 ≤ c.to) (hc : c.ans.code = 0) (h : (doC m c).2 = true) : (mdDo m c.op).2 = c.ans := by
  unfold doC at h
  rw [if_neg (by omega), if_neg (by rw [hc]; decide), if_neg (by rw [hc]; decide)] at h
  exact of_decide_eq_true h
/-- an answer that is turned is not what the map tells -/
theorem chain_turn : ∀ (l : List Cal) (m : List Ent) (k : Nat) (hk : k < l.length) (a : Ans), 0 ≤ l[k].to → l[k].ans.code = 0 → a.code = 0 → Chain m l → Chain m (l.set k { l[k] with ans := a }) → a = l[k].ans
  | c :: cs, m, 0, hk, a, ht, hc, ha, h1, h2 => by
    have e1 := doC_ans ht hc h1.1
    have e2 := doC_ans (c := { c with ans := a }) ht ha h2.1
    exact e2.symm.trans e1
  | c :: cs, m, k + 1, hk, a, ht, hc, ha, h1, h2 => chain_turn cs (doC m c).1 k (by simpa using hk) a ht hc ha h1.2 h2.2
theorem atC_set {l : List Cal} {k i : Nat} {c : Cal} (hi : i < l.length) : atC (l.set k c) i = if k = i then c else atC l i := by
  rw [← atC_get (by simpa using hi), List.getElem_set, ← atC_get hi]
theorem before_set {l : List Cal} {k : Nat} (hk : k < l.length) (a : Ans) {i j : Nat} (hi : i < l.length) (hj : j < l.length) : before (atC (l.set k { l[k] with ans := a }) i) (atC (l.set k { l[k] with ans := a }) j) = before (atC l i) (atC l j) := by
  have key : ∀ i, i < l.length → (atC (l.set k { l[k] with ans := a }) i).to = (atC l i).to ∧ (atC (l.set k { l[k] with ans := a }) i).frm = (atC l i).frm := fun i hi => by
    rw [atC_set hi]
    by_cases e : k = i
    · subst e; rw [if_pos rfl, atC_get hk]; exact ⟨rfl, rfl⟩
    · rw [if_neg e]; exact ⟨rfl, rfl⟩
  unfold before
  rw [(key i hi).1, (key j hj).2]
/-- LineOne, the plain law: with a turned answer none, else the one order -/
theorem one_turned (ops : List Int) (most : Nat) (k : Nat) (hk : k < (runC ops [] most).length) (hl : (runC ops [] most).length ≤ 14) (a : Ans) (hc : (runC ops [] most)[k].ans.code = 0) (ha : a.code = 0) (hne : a ≠ (runC ops [] most)[k].ans) :
    findC ((runC ops [] most).set k { (runC ops [] most)[k] with ans := a }) = none := by
  have hto := runC_to ops [] most
  have hbf := runC0_before ops most
  have hch : Chain [] (runC ops [] most) := runGo_chain [] _ 0 []
  generalize runC ops [] most = l at *
  cases h : findC (l.set k { l[k] with ans := a }) with
  | none => rfl
  | some q =>
    have h2 := one_is (l := l.set k { l[k] with ans := a }) (by simpa using hl) (fun i hi => by
      have hi' : i < l.length := by simpa using hi
      rw [atC_set hi']
      by_cases e : k = i
      · subst e; rw [if_pos rfl]; show 0 ≤ l[k].to; rw [atC_get hk]; exact hto k hk
      · rw [if_neg e]; exact hto i hi') (fun i j hij hj => by
      have hj' : j < l.length := by simpa using hj
      rw [before_set hk a (by omega) hj']
      exact hbf i j hij hj') h
    exact absurd (chain_turn l [] k hk a (by rw [atC_get hk]; exact hto k hk) hc ha hch h2.2) hne
theorem one_found (ops : List Int) (most : Nat) (hl : (runC ops [] most).length ≤ 14) : findC (runC ops [] most) = some (List.range (runC ops [] most).length) := by
  obtain ⟨q, h1, _⟩ := run_found ops [] most hl
  rw [h1, (one_is hl (runC_to ops [] most) (runC0_before ops most) h1).1]
end Go.Proofs.Ytphojngdgmnpaaa

namespace Go.Proofs.Ytphojngdgmnpaaa
open Go Go.RowKit
set_option linter.unusedVariables false
set_option linter.unusedSimpArgs false
set_option maxRecDepth 100000
set_option linter.unusedSectionVars false
section
variable {E : Env} {nt : Nat} {ops : Array Oper} {T : Nat → Option AV} {H : Hp} {d : Option Nat} {ty : TypeId} {pos : String} {af : Array Edge} {gd : Option (Nat × Bool)}
theorem oc_ldp {x : Operand} {t e : TypeId} {g len off i o : Nat} {p : List Nat} {xs : List Cal} {z : AV} (hd : dOk nt d = true) (hx : evalO T x = some (.own g 27 len (.at off (i :: p)))) (hg : H g = some (.own e 27 (xs.map Cal.av))) (hln : len = xs.length) (hl : i < xs.length) (hz : subA p xs[i].av = some z) (ho : offA p xs[i].av = o) (hoff : off = i * 27 + o) (hs : tabT.sa t = some (isAggA z, sizeA z)) :
    OpOK Try.prog E nt ops ⟨d, .load t x, ty, pos, af, gd⟩ T H [g] ⟨z, []⟩ := by
  refine ok_load_own tabT hd hx hg (by simpa using hln) (by simp; omega) ?_ ?_ hs
  · simp only [subA, List.getElem?_map, List.getElem?_eq_getElem hl, Option.map_some]; exact hz
  · simp only [offA, List.getD_eq_getElem?_getD, List.getElem?_map, List.getElem?_eq_getElem hl, Option.map_some, Option.getD_some]
    rw [hoff]; congr 1
theorem oc_ldE {x : Operand} {t e : TypeId} {g len off i o : Nat} {p : List Nat} {xs : List Cal} {c : Cal} {z : AV} (hl : i < xs.length) (he : xs[i] = c) (hln : len = xs.length) (hd : dOk nt d = true) (hx : evalO T x = some (.own g 27 len (.at off (i :: p)))) (hg : H g = some (.own e 27 (xs.map Cal.av))) (hz : subA p c.av = some z) (ho : offA p c.av = o) (hoff : off = i * 27 + o) (hs : tabT.sa t = some (isAggA z, sizeA z)) :
    OpOK Try.prog E nt ops ⟨d, .load t x, ty, pos, af, gd⟩ T H [g] ⟨z, []⟩ := by
  subst he
  exact oc_ldp hd hx hg hln hl hz ho hoff hs
theorem oc_stE {x y : Operand} {t e : TypeId} {g len off i fd o : Nat} {xs : List Cal} {c : Cal} {v old : AV} (c' : Cal) (hl : i < xs.length) (he : xs[i] = c) (hln : len = xs.length) (hx : evalO T x = some (.own g 27 len (.at off [i, fd]))) (hy : evalO T y = some v) (hg : H g = some (.own e 27 (xs.map Cal.av))) (hz : subA [fd] c.av = some old) (ho : offA [fd] c.av = o) (hoff : off = i * 27 + o)
    (hv : setA v [fd] c.av = some c'.av) (hdv : dataA v = true) (hs : tabT.sa t = some (isAggA v, sizeA v)) (hs' : sizeA v = sizeA old) (hnt : notTup v = true) :
    OpOK Try.prog E nt ops ⟨none, .store t x y, ty, pos, af, gd⟩ T H [g] ⟨.tup [], [(g, .own e 27 ((xs.set i c').map Cal.av))]⟩ := by
  subst he
  exact oc_st c' hx hy hg hln hl hz ho hoff hv hdv hs hs' hnt
end
attribute [local irreducible] OpOK AWops AW CondB Go2 AFn thenA inBlockA noGotoA orderOk wantedA
set_option maxRecDepth 100000 in
set_option maxHeartbeats 4000000 in
/-- run without wide, its row handed over to the caller -/
theorem c_run (ops : List Int) (hops : ∀ v ∈ ops, -9223372036854775808 ≤ v ∧ v ≤ 9223372036854775807) (hl : ops.length ≤ 1000000000000000) (most : Nat) (hm : most ≤ 100) :
    CFn Try.prog 20 [intsA ops, .v (.slice none 0 0), intA (most : Nat)] [] (.own 7 27 (runC ops [] most).length .row) [(7, .own 46 27 ((runC ops [] most).map Cal.av))] := by
  refine CFn_intro Try.func20 rfl Try.ntmps20 rfl (by simp) [_] rfl fun E hE => ?_; have hnt : (!true) = false := rfl; have hnf : (!false) = true := rfl
  refine wSS ?_
  refine AW_go (Go2.nil 8 26 rfl) ?_
  refine AW_go (Go2.tokenO 7 7 26 46 rfl rfl) ?_
  refine AW_loopI (fun x : Nat × List Ent × List Cal => ⟨[(0, intsA ops), (1, .v (.slice none 0 0)), (2, intA (most : Nat)), (7, .own 7 27 x.2.2.length .row), (8, entsA x.2.1), (9, intA (x.1 : Nat))], [(7, .own 46 27 (x.2.2.map Cal.av))]⟩) (fun x => x.1 ≤ (ops.take most).length ∧ x.2.2.length = x.1 ∧ Lf x.2.1 ∧ x.2.1.length ≤ x.1 ∧ x.2.2 ++ runGo [] x.1 x.2.1 ((ops.take most).drop x.1) = runC ops [] most) (fun x => (ops.take most).length - x.1) (0, [], []) ⟨Nat.zero_le _, rfl, lf_nil, Nat.le_refl _, rfl⟩ (by (refine Go2.sub ⟨?_, ?_, ?_⟩ <;> repeat' (first | exact True.intro | rfl | apply And.intro))) (fun x hx => ?_)
  obtain ⟨i, m, acc⟩ := x
  obtain ⟨hi, hal, hlf, hml, hF⟩ := hx
  dsimp only at hi hal hlf hml hF ⊢
  have htl : (ops.take most).length = min most ops.length := List.length_take
  have end_ : (ops.take most).length ≤ i → acc = runC ops [] most := fun h => by
    rw [List.drop_of_length_le h] at hF
    simpa [runGo] using hF
  by_cases c1 : i < ops.length
  · by_cases c2 : i < most
    · have c2i : (i : Int) < (most : Nat) := by omega
      have hlt : i < (ops.take most).length := by omega
      have hv := hops ops[i] (List.getElem_mem c1)
      have hget : (ops.take most)[i] = ops[i] := List.getElem_take
      rw [List.drop_eq_getElem_cons hlt, hget] at hF
      have htm : -511 ≤ ops[i].tmod 512 ∧ ops[i].tmod 512 ≤ 511 := by
        have h1 := Int.tmod_lt_of_pos ops[i] (show (0 : Int) < 512 by omega)
        have h2 := Int.lt_tmod_of_pos ops[i] (show (0 : Int) < 512 by omega)
        omega
      generalize hu : ops[i].tmod 512 = u at htm
      have co := a_lop (u + 512 * ((i : Int) % 2)) (by omega)
      unfold runGo at hF
      dsimp only at hF
      rw [hu] at hF
      generalize lawOp (u + 512 * ((i : Int) % 2)) = o at co hF
      have cd := a_refdo m o hlf (by omega)
      have hlf2 := mdDo_lf hlf o
      have hln2 := mdDo_len m o
      generalize mdDo m o = r at cd hF hlf2 hln2
      obtain ⟨m2, a⟩ := r
      dsimp only at cd hF hlf2 hln2
      have cc := a_call25 o (10 * (i : Int)) (10 * (i : Int) + 1) a
      have d1 := acall Try.func26 (co) (by decide +kernel) (by decide +kernel)
      have d2 := acall Try.func39 (cd) (by decide +kernel) (by decide +kernel)
      have d3 := acall Try.func22 (cc) (by decide +kernel) (by decide +kernel)
      rw [List.getElem?_nil] at hF
      dsimp only at hF
      refine wSS ?_
      rw [hu]
      refine wSS ?_
      (apply Wb; (focus (exact o_bsll zero_Cal rfl rfl rfl rfl rfl rfl rfl rfl)); (focus (first | exact want_n | exact want_g rfl (by with_reducible rfl))))
      refine wSS ?_
      (apply Wb; (focus (exact oo_app (f := Cal.av) (xs := acc) (zs := [callC o (10 * (i : Int)) (10 * (i : Int) + 1) a]) rfl rfl rfl rfl rfl (by exact o_one Cal.av (callC o (10 * (i : Int)) (10 * (i : Int) + 1) a) rfl) (by simp; omega) (by simp; omega))); (focus (first | exact want_n | exact want_g rfl (by with_reducible rfl))))
      refine wSS ?_
      refine ⟨(i + 1, m2, acc ++ [callC o (10 * (i : Int)) (10 * (i : Int) + 1) a]), ⟨hlt, by simp [hal], hlf2, by show m2.length ≤ i + 1; omega, by show (acc ++ [_]) ++ _ = _; rw [List.append_assoc]; exact hF⟩, by show (ops.take most).length - (i + 1) < (ops.take most).length - i; omega, ?_⟩
      (refine Go2.sub ⟨?_, ?_, ?_⟩ <;> repeat' (first | exact True.intro | rfl | apply And.intro))
    · have c2i : ¬ (i : Int) < (most : Nat) := by omega
      rw [← end_ (by omega)]
      refine wSS ?_
      exact finc ⟨⟨(by repeat' (first | exact True.intro | rfl | apply And.intro)), rfl⟩, rc_of rfl rfl rfl, trivial⟩
  · rw [← end_ (by omega)]
    refine wSS ?_
    exact finc ⟨⟨(by repeat' (first | exact True.intro | rfl | apply And.intro)), rfl⟩, rc_of rfl rfl rfl, trivial⟩
end Go.Proofs.Ytphojngdgmnpaaa

namespace Go.Proofs.Ytphojngdgmnpaaa
open Go Go.RowKit
set_option linter.unusedVariables false
set_option linter.unusedSimpArgs false
set_option maxRecDepth 100000
set_option linter.unusedSectionVars false
attribute [local irreducible] OpOK AWops AW CondB Go2 AFn thenA inBlockA noGotoA orderOk wantedA
set_option maxRecDepth 100000 in
set_option maxHeartbeats 16000000 in
theorem a_lone (ops : List Int) (hv : ∀ v ∈ ops, -9223372036854775808 ≤ v ∧ v ≤ 9223372036854775807) (hl : ops.length ≤ 17592186043904) (at_ value : Int) (ha : -9223372036854775808 ≤ at_ ∧ at_ ≤ 9223372036854775807) (hval : -9223372036854775808 ≤ value ∧ value ≤ 9223372036854775807) (wrong : Bool) :
    AFn Try.prog 5 [intsA ops, intA at_, intA value, boolA wrong] (boolA true) := by
  have cr := c_run ops hv (by omega) 14 (by omega)
  have hlen := runC_len ops [] 14
  have hfound := one_found ops 14 (by rw [hlen]; exact Nat.min_le_left _ _)
  have hturn := one_turned ops 14
  have hnt : (!true) = false := rfl
  have hnf : (!false) = true := rfl
  generalize runC ops [] 14 = c at cr hlen hfound hturn
  have hc14 : c.length ≤ 14 := by rw [hlen]; exact Nat.min_le_left _ _
  have cv := a_lval value hval
  have f1 := a_find c
  rw [hfound] at f1
  have f1' : AFn Try.prog 13 [calsA c] (.tup [numsA (List.range c.length), boolA true]) := f1
  clear f1
  by_cases hz : c.length = 0
  · have hzi : (c.length : Int) = 0 := by omega
    refine AFn_intro Try.func5 rfl Try.ntmps5 rfl (by simp) [_] rfl fun E hE => ?_
    have d1 := ccall Try.func20 (cr) (by decide +kernel) (by decide +kernel)
    have d2 := acall Try.func12 (a_awake25) (by decide +kernel) (by decide +kernel)
    repeat (first | (apply Wc; (focus (exact o_ccall [(7, 17)] d1 rfl rfl rfl rfl (by repeat (first | exact .nil | refine .cons (.inl ⟨rfl, rfl⟩) ?_ | refine .cons (.inr ⟨rfl, fun _ => Wk.tok⟩) ?_)) (by repeat' (first | exact True.intro | rfl | apply And.intro)) (by repeat' (first | exact True.intro | rfl | apply And.intro)) rfl rfl rfl)); (focus (first | exact want_n | exact want_g rfl (by with_reducible rfl)))) | (apply Wv; (focus (exact oc_len (f := Cal.av) (xs := c) rfl rfl rfl rfl rfl)); (focus (first | exact want_n | exact want_g rfl (by with_reducible rfl)))) | (first | (first | refine Wend _ ?_ | refine AW_seq ?_ | refine AW_reg ?_ | refine AW_drw mixed ?_ | refine AW_block ?_ | refine AW_scope ?_ | refine thenA_n ?_ | refine blockA_n ?_ | refine blockA_h ?_ | refine scopeA_n ?_ | refine thenA_r ?_ | refine blockA_r ?_ | refine scopeA_r ?_ | refine thenA_e ?_ | refine scopeA_e ?_ | refine blockA_e rfl ?_ | refine AW_exit ?_ | refine AW_ret ?_ | refine AW_skip ?_ | refine AW_c rfl ?_ | with_reducible refine cb_t ?_ | with_reducible refine cb_f ?_ | with_reducible refine cb_yes (by first | assumption | omega) ?_ | with_reducible refine cb_no (by first | assumption | omega) ?_ | refine And.intro (by decide +kernel) ?_) | (first | (apply Wb; (focus (first | exact o_bsl0O rfl rfl rfl | exact oo_app0 rfl rfl rfl rfl rfl (by first | exact o_many rfl | exact o_one _ _ rfl | exact o_zero rfl) (by first | omega | (simp; omega) | (simp; done)) (by first | omega | (simp; omega) | (simp; done)))); (focus (first | exact want_n | exact want_g rfl (by with_reducible rfl)))) | (apply Wv; (focus (first | exact oi_len rfl rfl rfl rfl (by first | rfl | assumption | omega | (simp; done) | (simp; omega)) | exact oi_idx rfl rfl rfl rfl rfl rfl (by first | rfl | assumption | omega | (simp; done) | (simp; omega)) (by first | rfl | assumption | omega | (simp; done) | (simp; omega)) | exact oi_ld rfl rfl rfl (by first | rfl | assumption | omega | (simp; done) | (simp; omega)) (by first | rfl | assumption | omega | (simp; done) | (simp; omega)) rfl rfl)); (focus (first | exact want_n | exact want_g rfl (by with_reducible rfl)))) | (apply Ws; (focus (exact oi_st (f := intA) rfl rfl rfl (by first | rfl | assumption | omega | (simp; done) | (simp; omega)) (by first | rfl | assumption | omega | (simp; done) | (simp; omega)) rfl (fun _ => rfl) rfl rfl)); (focus (first | exact want_n | exact want_g rfl (by with_reducible rfl)))) | (first | (apply Wv; (focus (first | exact step_ok rfl rfl | exact o_idx rfl rfl rfl rfl (by first | assumption | omega | decide) | exact o_idx3 rfl rfl rfl rfl (by first | assumption | omega | decide) | exact o_idx2 rfl rfl rfl rfl rfl (by first | assumption | omega | decide) | exact o_idxr rfl rfl rfl rfl rfl rfl | exact o_lenm rfl rfl rfl | exact o_len rfl rfl rfl | exact o_len0 rfl rfl rfl | exact o_lens rfl rfl rfl | exact o_lent rfl rfl | exact o_add1 rfl rfl rfl (by omega) | exact o_addn rfl rfl rfl (by omega) | exact o_add rfl rfl rfl (by omega) | exact o_sub1 rfl rfl rfl (by omega) | exact o_sub rfl rfl rfl (by omega) | exact o_mul rfl rfl rfl (by omega) | exact o_rem rfl rfl rfl (by omega) | exact ok_rem rfl rfl rfl (by decide) rfl | exact o_eqKey rfl rfl rfl | exact o_neKey rfl rfl rfl | exact o_eqVl rfl rfl rfl | exact o_neVl rfl rfl rfl | exact o_eqEnt rfl rfl rfl | exact o_neEnt rfl rfl rfl | exact o_eqMsg rfl rfl rfl | exact o_neMsg rfl rfl rfl | exact o_acall rfl rfl rfl rfl (by assumption) | exact o_minn rfl rfl rfl | exact o_cutl rfl rfl rfl rfl (by omega) | exact o_cuth rfl rfl rfl rfl (by omega) | exact o_cutl3 rfl rfl rfl rfl (by omega) | exact o_cuth3 rfl rfl rfl rfl (by omega) | exact o_cutl2 rfl rfl rfl rfl rfl (by omega) | exact o_cuth2 rfl rfl rfl rfl rfl (by omega) | exact o_cutlh2 rfl rfl rfl rfl rfl rfl rfl (by omega) (by omega) | exact o_bld zero_Opn rfl rfl rfl rfl rfl rfl rfl | exact o_bld zero_Cal rfl rfl rfl rfl rfl rfl rfl | exact o_bld zero_state rfl rfl rfl rfl rfl rfl rfl | exact o_bld zero_search rfl rfl rfl rfl rfl rfl rfl | exact o_nilcr rfl rfl | exact o_nilcp rfl rfl | exact o_eqbar rfl rfl rfl (by simp) (by simp) | exact o_ldbar rfl rfl (by simp) rfl (by first | omega | (simp; omega)) rfl | exact o_idxpn rfl rfl rfl rfl (by omega) | exact o_idxvn rfl rfl rfl rfl (by omega) (by assumption) rfl | exact o_idxrn rfl rfl rfl rfl (by omega) (by assumption) | exact o_cutarr rfl rfl rfl rfl | exact o_mkfn rfl rfl rfl | exact o_callv rfl rfl rfl rfl rfl rfl (by assumption) | exact o_bld zero_Ans rfl rfl rfl rfl rfl rfl rfl | exact o_eqAns rfl rfl rfl | exact o_neAns rfl rfl rfl | exact e_bld rfl rfl rfl | exact e_bldk rfl rfl | exact z_bld0 rfl rfl rfl rfl rfl | exact z_bld rfl rfl rfl rfl rfl rfl rfl | exact o_addu rfl rfl rfl | exact z_blda rfl rfl rfl rfl rfl rfl rfl rfl rfl | exact o_idxa rfl rfl rfl rfl rfl rfl | exact o_idxra rfl rfl rfl rfl rfl rfl rfl | exact o_quo2 rfl rfl rfl (by omega) | exact o_quo rfl rfl rfl (by omega))); (focus (first | exact want_n | exact want_g rfl (by with_reducible rfl)))) | (apply Wb; (focus (first | exact o_box rfl rfl rfl rfl | exact o_app rfl rfl rfl rfl rfl (by first | exact o_many rfl | exact o_one _ _ rfl) (by first | omega | (simp; omega) | simp) (by first | omega | (simp; omega) | simp) | exact o_appn rfl rfl rfl rfl rfl (by first | exact o_many rfl | exact o_one _ _ rfl) (by first | omega | (simp; omega) | simp) (by first | omega | (simp; omega) | simp) | exact o_app1 rfl rfl rfl rfl rfl (by first | exact o_many rfl | exact o_one _ _ rfl) (by exact rfl) (by first | omega | (simp; omega) | simp) (by first | omega | (simp; omega) | simp) | exact o_app0 rfl rfl rfl rfl rfl (by first | exact o_many rfl | exact o_one _ _ rfl) (by first | omega | (simp; omega) | simp) (by first | omega | (simp; omega) | simp) | exact o_bsl0 rfl rfl rfl | exact z_bsll rfl rfl rfl rfl rfl rfl rfl rfl rfl | exact z_alloc rfl rfl rfl | exact o_alloc zero_Opn rfl rfl | exact o_alloc zero_Cal rfl rfl | exact o_alloc zero_state rfl rfl | exact o_alloc zero_b14 rfl rfl | exact o_cpents rfl rfl rfl rfl rfl rfl (by omega) | exact o_alloc zero_Ans rfl rfl | exact o_bsll zero_Ans rfl rfl rfl rfl rfl rfl rfl rfl | exact o_bsll zero_Opn rfl rfl rfl rfl rfl rfl rfl rfl)); (focus (first | exact want_n | exact want_g rfl (by with_reducible rfl)))) | (apply Ws; (focus (first | exact o_stin rfl (by simp) rfl rfl (by first | omega | (simp; omega)) rfl | exact o_stbar rfl (by simp) rfl rfl (by first | omega | (simp; omega)) rfl | exact ok_store tabT (d := none) rfl rfl rfl rfl rfl rfl rfl rfl rfl rfl)); (focus (first | exact want_n | exact want_g rfl (by with_reducible rfl)))) | (refine Wskip (by first | exact want_f rfl (by with_reducible exact b_nt) | exact want_f rfl (by with_reducible exact b_nf) | exact want_t rfl) rfl ?_) | refine Wgt rfl rfl (by first | assumption | omega | exact rfl) ?_ | refine Wgf rfl rfl (by first | assumption | omega | exact rfl) ?_ | (refine Wgb rfl rfl (by with_reducible assumption) ?_) | (refine cb_is _ (by assumption) ?_)))))
    exact fin ⟨res_of rfl rfl rfl, trivial⟩
  · have hzi : ¬ (c.length : Int) = 0 := by omega
    obtain ⟨k, hk⟩ : ∃ k : Nat, at_ % (c.length : Int) = (k : Int) := ⟨(at_ % (c.length : Int)).toNat, (Int.toNat_of_nonneg (Int.emod_nonneg _ (by omega))).symm⟩
    have hkc : k < c.length := by
      have := Int.emod_lt_of_pos at_ (show (0 : Int) < (c.length : Nat) by omega)
      rw [hk] at this; omega
    have cp := a_lplace at_ (c.length : Nat) (by omega) (by omega) ha
    rw [hk] at cp
    have hself : c[k] = c[k] := rfl
    have plain : (wrong = false ∨ c[k].op.kind ≠ 4 ∨ c[k].ans.code ≠ 0) → AFn Try.prog 5 [intsA ops, intA at_, intA value, boolA wrong] (boolA true) := by
      intro hcase
      cases wrong
      ·
        refine AFn_intro Try.func5 rfl Try.ntmps5 rfl (by simp) [_] rfl fun E hE => ?_
        have d1 := ccall Try.func20 (cr) (by decide +kernel) (by decide +kernel)
        have d2 := acall Try.func12 (a_awake25) (by decide +kernel) (by decide +kernel)
        have d3 := acall Try.func17 (cp) (by decide +kernel) (by decide +kernel)
        have d4 := acall Try.func13 (f1') (by decide +kernel) (by decide +kernel)
        repeat (first | (apply Wc; (focus (exact o_ccall [(7, 17)] d1 rfl rfl rfl rfl (by repeat (first | exact .nil | refine .cons (.inl ⟨rfl, rfl⟩) ?_ | refine .cons (.inr ⟨rfl, fun _ => Wk.tok⟩) ?_)) (by repeat' (first | exact True.intro | rfl | apply And.intro)) (by repeat' (first | exact True.intro | rfl | apply And.intro)) rfl rfl rfl)); (focus (first | exact want_n | exact want_g rfl (by with_reducible rfl)))) | (refine AW_go (S' := ⟨[(9, .own 17 27 c.length .row), (10, intA (k : Nat)), (11, boolA false), (44, boolA false)], [(17, .own 46 27 (c.map Cal.av))]⟩) ?_ ?_; (focus ((refine Go2.sub ⟨?_, ?_, ?_⟩ <;> repeat' (first | exact True.intro | rfl | apply And.intro)); done)); rw [show (AV.own 17 27 c.length .row) = AV.own 17 27 (c.map Cal.av).length .row by rw [List.length_map]]; refine AW_go (Go2.thaw (S' := ⟨[(9, .sl (some 17) 27 (c.map Cal.av)), (10, intA (k : Nat)), (11, boolA false), (44, boolA false)], [(17, .tail 46 27 (c.map Cal.av).length)]⟩) 17 rfl (by repeat' (first | exact True.intro | rfl | apply And.intro | (simp; done))) (by repeat' (first | exact True.intro | rfl | apply And.intro | (simp; done))) rfl) ?_) | (apply Wv; (focus (first | exact oc_len (f := Cal.av) (xs := c) rfl rfl rfl rfl rfl | exact oc_idx (xs := c) rfl rfl rfl rfl rfl rfl hkc | exact oc_fld (xs := c) rfl rfl rfl rfl rfl rfl (by omega) | exact oc_ldE (o := 2) hkc hself rfl rfl rfl rfl rfl rfl (by omega) rfl | exact oc_ldE (o := 8) hkc hself rfl rfl rfl rfl rfl rfl (by omega) rfl)); (focus (first | exact want_n | exact want_g rfl (by with_reducible rfl)))) | (first | (first | refine Wend _ ?_ | refine AW_seq ?_ | refine AW_reg ?_ | refine AW_drw mixed ?_ | refine AW_block ?_ | refine AW_scope ?_ | refine thenA_n ?_ | refine blockA_n ?_ | refine blockA_h ?_ | refine scopeA_n ?_ | refine thenA_r ?_ | refine blockA_r ?_ | refine scopeA_r ?_ | refine thenA_e ?_ | refine scopeA_e ?_ | refine blockA_e rfl ?_ | refine AW_exit ?_ | refine AW_ret ?_ | refine AW_skip ?_ | refine AW_c rfl ?_ | with_reducible refine cb_t ?_ | with_reducible refine cb_f ?_ | with_reducible refine cb_yes (by first | assumption | omega) ?_ | with_reducible refine cb_no (by first | assumption | omega) ?_ | refine And.intro (by decide +kernel) ?_) | (first | (apply Wb; (focus (first | exact o_bsl0O rfl rfl rfl | exact oo_app0 rfl rfl rfl rfl rfl (by first | exact o_many rfl | exact o_one _ _ rfl | exact o_zero rfl) (by first | omega | (simp; omega) | (simp; done)) (by first | omega | (simp; omega) | (simp; done)))); (focus (first | exact want_n | exact want_g rfl (by with_reducible rfl)))) | (apply Wv; (focus (first | exact oi_len rfl rfl rfl rfl (by first | rfl | assumption | omega | (simp; done) | (simp; omega)) | exact oi_idx rfl rfl rfl rfl rfl rfl (by first | rfl | assumption | omega | (simp; done) | (simp; omega)) (by first | rfl | assumption | omega | (simp; done) | (simp; omega)) | exact oi_ld rfl rfl rfl (by first | rfl | assumption | omega | (simp; done) | (simp; omega)) (by first | rfl | assumption | omega | (simp; done) | (simp; omega)) rfl rfl)); (focus (first | exact want_n | exact want_g rfl (by with_reducible rfl)))) | (apply Ws; (focus (exact oi_st (f := intA) rfl rfl rfl (by first | rfl | assumption | omega | (simp; done) | (simp; omega)) (by first | rfl | assumption | omega | (simp; done) | (simp; omega)) rfl (fun _ => rfl) rfl rfl)); (focus (first | exact want_n | exact want_g rfl (by with_reducible rfl)))) | (first | (apply Wv; (focus (first | exact step_ok rfl rfl | exact o_idx rfl rfl rfl rfl (by first | assumption | omega | decide) | exact o_idx3 rfl rfl rfl rfl (by first | assumption | omega | decide) | exact o_idx2 rfl rfl rfl rfl rfl (by first | assumption | omega | decide) | exact o_idxr rfl rfl rfl rfl rfl rfl | exact o_lenm rfl rfl rfl | exact o_len rfl rfl rfl | exact o_len0 rfl rfl rfl | exact o_lens rfl rfl rfl | exact o_lent rfl rfl | exact o_add1 rfl rfl rfl (by omega) | exact o_addn rfl rfl rfl (by omega) | exact o_add rfl rfl rfl (by omega) | exact o_sub1 rfl rfl rfl (by omega) | exact o_sub rfl rfl rfl (by omega) | exact o_mul rfl rfl rfl (by omega) | exact o_rem rfl rfl rfl (by omega) | exact ok_rem rfl rfl rfl (by decide) rfl | exact o_eqKey rfl rfl rfl | exact o_neKey rfl rfl rfl | exact o_eqVl rfl rfl rfl | exact o_neVl rfl rfl rfl | exact o_eqEnt rfl rfl rfl | exact o_neEnt rfl rfl rfl | exact o_eqMsg rfl rfl rfl | exact o_neMsg rfl rfl rfl | exact o_acall rfl rfl rfl rfl (by assumption) | exact o_minn rfl rfl rfl | exact o_cutl rfl rfl rfl rfl (by omega) | exact o_cuth rfl rfl rfl rfl (by omega) | exact o_cutl3 rfl rfl rfl rfl (by omega) | exact o_cuth3 rfl rfl rfl rfl (by omega) | exact o_cutl2 rfl rfl rfl rfl rfl (by omega) | exact o_cuth2 rfl rfl rfl rfl rfl (by omega) | exact o_cutlh2 rfl rfl rfl rfl rfl rfl rfl (by omega) (by omega) | exact o_bld zero_Opn rfl rfl rfl rfl rfl rfl rfl | exact o_bld zero_Cal rfl rfl rfl rfl rfl rfl rfl | exact o_bld zero_state rfl rfl rfl rfl rfl rfl rfl | exact o_bld zero_search rfl rfl rfl rfl rfl rfl rfl | exact o_nilcr rfl rfl | exact o_nilcp rfl rfl | exact o_eqbar rfl rfl rfl (by simp) (by simp) | exact o_ldbar rfl rfl (by simp) rfl (by first | omega | (simp; omega)) rfl | exact o_idxpn rfl rfl rfl rfl (by omega) | exact o_idxvn rfl rfl rfl rfl (by omega) (by assumption) rfl | exact o_idxrn rfl rfl rfl rfl (by omega) (by assumption) | exact o_cutarr rfl rfl rfl rfl | exact o_mkfn rfl rfl rfl | exact o_callv rfl rfl rfl rfl rfl rfl (by assumption) | exact o_bld zero_Ans rfl rfl rfl rfl rfl rfl rfl | exact o_eqAns rfl rfl rfl | exact o_neAns rfl rfl rfl | exact e_bld rfl rfl rfl | exact e_bldk rfl rfl | exact z_bld0 rfl rfl rfl rfl rfl | exact z_bld rfl rfl rfl rfl rfl rfl rfl | exact o_addu rfl rfl rfl | exact z_blda rfl rfl rfl rfl rfl rfl rfl rfl rfl | exact o_idxa rfl rfl rfl rfl rfl rfl | exact o_idxra rfl rfl rfl rfl rfl rfl rfl | exact o_quo2 rfl rfl rfl (by omega) | exact o_quo rfl rfl rfl (by omega))); (focus (first | exact want_n | exact want_g rfl (by with_reducible rfl)))) | (apply Wb; (focus (first | exact o_box rfl rfl rfl rfl | exact o_app rfl rfl rfl rfl rfl (by first | exact o_many rfl | exact o_one _ _ rfl) (by first | omega | (simp; omega) | simp) (by first | omega | (simp; omega) | simp) | exact o_appn rfl rfl rfl rfl rfl (by first | exact o_many rfl | exact o_one _ _ rfl) (by first | omega | (simp; omega) | simp) (by first | omega | (simp; omega) | simp) | exact o_app1 rfl rfl rfl rfl rfl (by first | exact o_many rfl | exact o_one _ _ rfl) (by exact rfl) (by first | omega | (simp; omega) | simp) (by first | omega | (simp; omega) | simp) | exact o_app0 rfl rfl rfl rfl rfl (by first | exact o_many rfl | exact o_one _ _ rfl) (by first | omega | (simp; omega) | simp) (by first | omega | (simp; omega) | simp) | exact o_bsl0 rfl rfl rfl | exact z_bsll rfl rfl rfl rfl rfl rfl rfl rfl rfl | exact z_alloc rfl rfl rfl | exact o_alloc zero_Opn rfl rfl | exact o_alloc zero_Cal rfl rfl | exact o_alloc zero_state rfl rfl | exact o_alloc zero_b14 rfl rfl | exact o_cpents rfl rfl rfl rfl rfl rfl (by omega) | exact o_alloc zero_Ans rfl rfl | exact o_bsll zero_Ans rfl rfl rfl rfl rfl rfl rfl rfl | exact o_bsll zero_Opn rfl rfl rfl rfl rfl rfl rfl rfl)); (focus (first | exact want_n | exact want_g rfl (by with_reducible rfl)))) | (apply Ws; (focus (first | exact o_stin rfl (by simp) rfl rfl (by first | omega | (simp; omega)) rfl | exact o_stbar rfl (by simp) rfl rfl (by first | omega | (simp; omega)) rfl | exact ok_store tabT (d := none) rfl rfl rfl rfl rfl rfl rfl rfl rfl rfl)); (focus (first | exact want_n | exact want_g rfl (by with_reducible rfl)))) | (refine Wskip (by first | exact want_f rfl (by with_reducible exact b_nt) | exact want_f rfl (by with_reducible exact b_nf) | exact want_t rfl) rfl ?_) | refine Wgt rfl rfl (by first | assumption | omega | exact rfl) ?_ | refine Wgf rfl rfl (by first | assumption | omega | exact rfl) ?_ | (refine Wgb rfl rfl (by with_reducible assumption) ?_) | (refine cb_is _ (by assumption) ?_)))))
        refine AW_loopI (fun i : Nat => ⟨[(9, .sl (some 17) 27 (c.map Cal.av)), (13, numsA (List.range c.length)), (14, boolA true), (15, intA (i : Nat))], [(17, .tail 46 27 (c.map Cal.av).length)]⟩) (fun i => i ≤ c.length) (fun i => c.length - i) 0 (Nat.zero_le _) (by (refine Go2.sub ⟨?_, ?_, ?_⟩ <;> repeat' (first | exact True.intro | rfl | apply And.intro))) (fun i hi => ?_)
        have hrl : (List.range c.length).length = c.length := List.length_range
        by_cases q1 : i < c.length
        · have q2 : i < (List.range c.length).length := by omega
          have q2i : (i : Int) < ((List.range c.length).length : Nat) := by omega
          have q3 : (List.range c.length)[i] = i := List.getElem_range q2
          have q4 : ¬ (((List.range c.length)[i] : Nat) : Int) ≠ (i : Nat) := by rw [q3]; omega
          refine wOI ?_
          refine ⟨i + 1, q1, by omega, ?_⟩
          (refine Go2.sub ⟨?_, ?_, ?_⟩ <;> repeat' (first | exact True.intro | rfl | apply And.intro))
        · have q2 : ¬ (i : Int) < ((List.range c.length).length : Nat) := by omega
          have q5 : (((List.range c.length).length : Nat) : Int) = (c.length : Nat) := by omega
          refine wOI ?_
          exact fin ⟨res_of rfl rfl rfl, trivial⟩
      · by_cases hk4 : c[k].op.kind = 4
        · have hc0 : ¬ c[k].ans.code = 0 := hcase.elim (fun h => absurd h (by decide)) (fun h => h.elim (fun h => absurd hk4 h) id)
          refine AFn_intro Try.func5 rfl Try.ntmps5 rfl (by simp) [_] rfl fun E hE => ?_
          have d1 := ccall Try.func20 (cr) (by decide +kernel) (by decide +kernel)
          have d2 := acall Try.func12 (a_awake25) (by decide +kernel) (by decide +kernel)
          have d3 := acall Try.func17 (cp) (by decide +kernel) (by decide +kernel)
          have d4 := acall Try.func13 (f1') (by decide +kernel) (by decide +kernel)
          repeat (first | (apply Wc; (focus (exact o_ccall [(7, 17)] d1 rfl rfl rfl rfl (by repeat (first | exact .nil | refine .cons (.inl ⟨rfl, rfl⟩) ?_ | refine .cons (.inr ⟨rfl, fun _ => Wk.tok⟩) ?_)) (by repeat' (first | exact True.intro | rfl | apply And.intro)) (by repeat' (first | exact True.intro | rfl | apply And.intro)) rfl rfl rfl)); (focus (first | exact want_n | exact want_g rfl (by with_reducible rfl)))) | (refine AW_go (S' := ⟨[(9, .own 17 27 c.length .row), (10, intA (k : Nat)), (11, boolA false), (44, .v (.bool (decide (c[k].ans.code = 0))))], [(17, .own 46 27 (c.map Cal.av))]⟩) ?_ ?_; (focus ((refine Go2.sub ⟨?_, ?_, ?_⟩ <;> repeat' (first | exact True.intro | rfl | apply And.intro)); done)); rw [show (AV.own 17 27 c.length .row) = AV.own 17 27 (c.map Cal.av).length .row by rw [List.length_map]]; refine AW_go (Go2.thaw (S' := ⟨[(9, .sl (some 17) 27 (c.map Cal.av)), (10, intA (k : Nat)), (11, boolA false), (44, .v (.bool (decide (c[k].ans.code = 0))))], [(17, .tail 46 27 (c.map Cal.av).length)]⟩) 17 rfl (by repeat' (first | exact True.intro | rfl | apply And.intro | (simp; done))) (by repeat' (first | exact True.intro | rfl | apply And.intro | (simp; done))) rfl) ?_) | (apply Wv; (focus (first | exact oc_len (f := Cal.av) (xs := c) rfl rfl rfl rfl rfl | exact oc_idx (xs := c) rfl rfl rfl rfl rfl rfl hkc | exact oc_fld (xs := c) rfl rfl rfl rfl rfl rfl (by omega) | exact oc_ldE (o := 2) hkc hself rfl rfl rfl rfl rfl rfl (by omega) rfl | exact oc_ldE (o := 8) hkc hself rfl rfl rfl rfl rfl rfl (by omega) rfl)); (focus (first | exact want_n | exact want_g rfl (by with_reducible rfl)))) | (first | (first | refine Wend _ ?_ | refine AW_seq ?_ | refine AW_reg ?_ | refine AW_drw mixed ?_ | refine AW_block ?_ | refine AW_scope ?_ | refine thenA_n ?_ | refine blockA_n ?_ | refine blockA_h ?_ | refine scopeA_n ?_ | refine thenA_r ?_ | refine blockA_r ?_ | refine scopeA_r ?_ | refine thenA_e ?_ | refine scopeA_e ?_ | refine blockA_e rfl ?_ | refine AW_exit ?_ | refine AW_ret ?_ | refine AW_skip ?_ | refine AW_c rfl ?_ | with_reducible refine cb_t ?_ | with_reducible refine cb_f ?_ | with_reducible refine cb_yes (by first | assumption | omega) ?_ | with_reducible refine cb_no (by first | assumption | omega) ?_ | refine And.intro (by decide +kernel) ?_) | (first | (apply Wb; (focus (first | exact o_bsl0O rfl rfl rfl | exact oo_app0 rfl rfl rfl rfl rfl (by first | exact o_many rfl | exact o_one _ _ rfl | exact o_zero rfl) (by first | omega | (simp; omega) | (simp; done)) (by first | omega | (simp; omega) | (simp; done)))); (focus (first | exact want_n | exact want_g rfl (by with_reducible rfl)))) | (apply Wv; (focus (first | exact oi_len rfl rfl rfl rfl (by first | rfl | assumption | omega | (simp; done) | (simp; omega)) | exact oi_idx rfl rfl rfl rfl rfl rfl (by first | rfl | assumption | omega | (simp; done) | (simp; omega)) (by first | rfl | assumption | omega | (simp; done) | (simp; omega)) | exact oi_ld rfl rfl rfl (by first | rfl | assumption | omega | (simp; done) | (simp; omega)) (by first | rfl | assumption | omega | (simp; done) | (simp; omega)) rfl rfl)); (focus (first | exact want_n | exact want_g rfl (by with_reducible rfl)))) | (apply Ws; (focus (exact oi_st (f := intA) rfl rfl rfl (by first | rfl | assumption | omega | (simp; done) | (simp; omega)) (by first | rfl | assumption | omega | (simp; done) | (simp; omega)) rfl (fun _ => rfl) rfl rfl)); (focus (first | exact want_n | exact want_g rfl (by with_reducible rfl)))) | (first | (apply Wv; (focus (first | exact step_ok rfl rfl | exact o_idx rfl rfl rfl rfl (by first | assumption | omega | decide) | exact o_idx3 rfl rfl rfl rfl (by first | assumption | omega | decide) | exact o_idx2 rfl rfl rfl rfl rfl (by first | assumption | omega | decide) | exact o_idxr rfl rfl rfl rfl rfl rfl | exact o_lenm rfl rfl rfl | exact o_len rfl rfl rfl | exact o_len0 rfl rfl rfl | exact o_lens rfl rfl rfl | exact o_lent rfl rfl | exact o_add1 rfl rfl rfl (by omega) | exact o_addn rfl rfl rfl (by omega) | exact o_add rfl rfl rfl (by omega) | exact o_sub1 rfl rfl rfl (by omega) | exact o_sub rfl rfl rfl (by omega) | exact o_mul rfl rfl rfl (by omega) | exact o_rem rfl rfl rfl (by omega) | exact ok_rem rfl rfl rfl (by decide) rfl | exact o_eqKey rfl rfl rfl | exact o_neKey rfl rfl rfl | exact o_eqVl rfl rfl rfl | exact o_neVl rfl rfl rfl | exact o_eqEnt rfl rfl rfl | exact o_neEnt rfl rfl rfl | exact o_eqMsg rfl rfl rfl | exact o_neMsg rfl rfl rfl | exact o_acall rfl rfl rfl rfl (by assumption) | exact o_minn rfl rfl rfl | exact o_cutl rfl rfl rfl rfl (by omega) | exact o_cuth rfl rfl rfl rfl (by omega) | exact o_cutl3 rfl rfl rfl rfl (by omega) | exact o_cuth3 rfl rfl rfl rfl (by omega) | exact o_cutl2 rfl rfl rfl rfl rfl (by omega) | exact o_cuth2 rfl rfl rfl rfl rfl (by omega) | exact o_cutlh2 rfl rfl rfl rfl rfl rfl rfl (by omega) (by omega) | exact o_bld zero_Opn rfl rfl rfl rfl rfl rfl rfl | exact o_bld zero_Cal rfl rfl rfl rfl rfl rfl rfl | exact o_bld zero_state rfl rfl rfl rfl rfl rfl rfl | exact o_bld zero_search rfl rfl rfl rfl rfl rfl rfl | exact o_nilcr rfl rfl | exact o_nilcp rfl rfl | exact o_eqbar rfl rfl rfl (by simp) (by simp) | exact o_ldbar rfl rfl (by simp) rfl (by first | omega | (simp; omega)) rfl | exact o_idxpn rfl rfl rfl rfl (by omega) | exact o_idxvn rfl rfl rfl rfl (by omega) (by assumption) rfl | exact o_idxrn rfl rfl rfl rfl (by omega) (by assumption) | exact o_cutarr rfl rfl rfl rfl | exact o_mkfn rfl rfl rfl | exact o_callv rfl rfl rfl rfl rfl rfl (by assumption) | exact o_bld zero_Ans rfl rfl rfl rfl rfl rfl rfl | exact o_eqAns rfl rfl rfl | exact o_neAns rfl rfl rfl | exact e_bld rfl rfl rfl | exact e_bldk rfl rfl | exact z_bld0 rfl rfl rfl rfl rfl | exact z_bld rfl rfl rfl rfl rfl rfl rfl | exact o_addu rfl rfl rfl | exact z_blda rfl rfl rfl rfl rfl rfl rfl rfl rfl | exact o_idxa rfl rfl rfl rfl rfl rfl | exact o_idxra rfl rfl rfl rfl rfl rfl rfl | exact o_quo2 rfl rfl rfl (by omega) | exact o_quo rfl rfl rfl (by omega))); (focus (first | exact want_n | exact want_g rfl (by with_reducible rfl)))) | (apply Wb; (focus (first | exact o_box rfl rfl rfl rfl | exact o_app rfl rfl rfl rfl rfl (by first | exact o_many rfl | exact o_one _ _ rfl) (by first | omega | (simp; omega) | simp) (by first | omega | (simp; omega) | simp) | exact o_appn rfl rfl rfl rfl rfl (by first | exact o_many rfl | exact o_one _ _ rfl) (by first | omega | (simp; omega) | simp) (by first | omega | (simp; omega) | simp) | exact o_app1 rfl rfl rfl rfl rfl (by first | exact o_many rfl | exact o_one _ _ rfl) (by exact rfl) (by first | omega | (simp; omega) | simp) (by first | omega | (simp; omega) | simp) | exact o_app0 rfl rfl rfl rfl rfl (by first | exact o_many rfl | exact o_one _ _ rfl) (by first | omega | (simp; omega) | simp) (by first | omega | (simp; omega) | simp) | exact o_bsl0 rfl rfl rfl | exact z_bsll rfl rfl rfl rfl rfl rfl rfl rfl rfl | exact z_alloc rfl rfl rfl | exact o_alloc zero_Opn rfl rfl | exact o_alloc zero_Cal rfl rfl | exact o_alloc zero_state rfl rfl | exact o_alloc zero_b14 rfl rfl | exact o_cpents rfl rfl rfl rfl rfl rfl (by omega) | exact o_alloc zero_Ans rfl rfl | exact o_bsll zero_Ans rfl rfl rfl rfl rfl rfl rfl rfl | exact o_bsll zero_Opn rfl rfl rfl rfl rfl rfl rfl rfl)); (focus (first | exact want_n | exact want_g rfl (by with_reducible rfl)))) | (apply Ws; (focus (first | exact o_stin rfl (by simp) rfl rfl (by first | omega | (simp; omega)) rfl | exact o_stbar rfl (by simp) rfl rfl (by first | omega | (simp; omega)) rfl | exact ok_store tabT (d := none) rfl rfl rfl rfl rfl rfl rfl rfl rfl rfl)); (focus (first | exact want_n | exact want_g rfl (by with_reducible rfl)))) | (refine Wskip (by first | exact want_f rfl (by with_reducible exact b_nt) | exact want_f rfl (by with_reducible exact b_nf) | exact want_t rfl) rfl ?_) | refine Wgt rfl rfl (by first | assumption | omega | exact rfl) ?_ | refine Wgf rfl rfl (by first | assumption | omega | exact rfl) ?_ | (refine Wgb rfl rfl (by with_reducible assumption) ?_) | (refine cb_is _ (by assumption) ?_)))))
          refine AW_loopI (fun i : Nat => ⟨[(9, .sl (some 17) 27 (c.map Cal.av)), (13, numsA (List.range c.length)), (14, boolA true), (15, intA (i : Nat))], [(17, .tail 46 27 (c.map Cal.av).length)]⟩) (fun i => i ≤ c.length) (fun i => c.length - i) 0 (Nat.zero_le _) (by (refine Go2.sub ⟨?_, ?_, ?_⟩ <;> repeat' (first | exact True.intro | rfl | apply And.intro))) (fun i hi => ?_)
          have hrl : (List.range c.length).length = c.length := List.length_range
          by_cases q1 : i < c.length
          · have q2 : i < (List.range c.length).length := by omega
            have q2i : (i : Int) < ((List.range c.length).length : Nat) := by omega
            have q3 : (List.range c.length)[i] = i := List.getElem_range q2
            have q4 : ¬ (((List.range c.length)[i] : Nat) : Int) ≠ (i : Nat) := by rw [q3]; omega
            refine wOI ?_
            refine ⟨i + 1, q1, by omega, ?_⟩
            (refine Go2.sub ⟨?_, ?_, ?_⟩ <;> repeat' (first | exact True.intro | rfl | apply And.intro))
          · have q2 : ¬ (i : Int) < ((List.range c.length).length : Nat) := by omega
            have q5 : (((List.range c.length).length : Nat) : Int) = (c.length : Nat) := by omega
            refine wOI ?_
            exact fin ⟨res_of rfl rfl rfl, trivial⟩
        ·
          refine AFn_intro Try.func5 rfl Try.ntmps5 rfl (by simp) [_] rfl fun E hE => ?_
          have d1 := ccall Try.func20 (cr) (by decide +kernel) (by decide +kernel)
          have d2 := acall Try.func12 (a_awake25) (by decide +kernel) (by decide +kernel)
          have d3 := acall Try.func17 (cp) (by decide +kernel) (by decide +kernel)
          have d4 := acall Try.func13 (f1') (by decide +kernel) (by decide +kernel)
          repeat (first | (apply Wc; (focus (exact o_ccall [(7, 17)] d1 rfl rfl rfl rfl (by repeat (first | exact .nil | refine .cons (.inl ⟨rfl, rfl⟩) ?_ | refine .cons (.inr ⟨rfl, fun _ => Wk.tok⟩) ?_)) (by repeat' (first | exact True.intro | rfl | apply And.intro)) (by repeat' (first | exact True.intro | rfl | apply And.intro)) rfl rfl rfl)); (focus (first | exact want_n | exact want_g rfl (by with_reducible rfl)))) | (refine AW_go (S' := ⟨[(9, .own 17 27 c.length .row), (10, intA (k : Nat)), (11, boolA false), (44, boolA false)], [(17, .own 46 27 (c.map Cal.av))]⟩) ?_ ?_; (focus ((refine Go2.sub ⟨?_, ?_, ?_⟩ <;> repeat' (first | exact True.intro | rfl | apply And.intro)); done)); rw [show (AV.own 17 27 c.length .row) = AV.own 17 27 (c.map Cal.av).length .row by rw [List.length_map]]; refine AW_go (Go2.thaw (S' := ⟨[(9, .sl (some 17) 27 (c.map Cal.av)), (10, intA (k : Nat)), (11, boolA false), (44, boolA false)], [(17, .tail 46 27 (c.map Cal.av).length)]⟩) 17 rfl (by repeat' (first | exact True.intro | rfl | apply And.intro | (simp; done))) (by repeat' (first | exact True.intro | rfl | apply And.intro | (simp; done))) rfl) ?_) | (apply Wv; (focus (first | exact oc_len (f := Cal.av) (xs := c) rfl rfl rfl rfl rfl | exact oc_idx (xs := c) rfl rfl rfl rfl rfl rfl hkc | exact oc_fld (xs := c) rfl rfl rfl rfl rfl rfl (by omega) | exact oc_ldE (o := 2) hkc hself rfl rfl rfl rfl rfl rfl (by omega) rfl | exact oc_ldE (o := 8) hkc hself rfl rfl rfl rfl rfl rfl (by omega) rfl)); (focus (first | exact want_n | exact want_g rfl (by with_reducible rfl)))) | (first | (first | refine Wend _ ?_ | refine AW_seq ?_ | refine AW_reg ?_ | refine AW_drw mixed ?_ | refine AW_block ?_ | refine AW_scope ?_ | refine thenA_n ?_ | refine blockA_n ?_ | refine blockA_h ?_ | refine scopeA_n ?_ | refine thenA_r ?_ | refine blockA_r ?_ | refine scopeA_r ?_ | refine thenA_e ?_ | refine scopeA_e ?_ | refine blockA_e rfl ?_ | refine AW_exit ?_ | refine AW_ret ?_ | refine AW_skip ?_ | refine AW_c rfl ?_ | with_reducible refine cb_t ?_ | with_reducible refine cb_f ?_ | with_reducible refine cb_yes (by first | assumption | omega) ?_ | with_reducible refine cb_no (by first | assumption | omega) ?_ | refine And.intro (by decide +kernel) ?_) | (first | (apply Wb; (focus (first | exact o_bsl0O rfl rfl rfl | exact oo_app0 rfl rfl rfl rfl rfl (by first | exact o_many rfl | exact o_one _ _ rfl | exact o_zero rfl) (by first | omega | (simp; omega) | (simp; done)) (by first | omega | (simp; omega) | (simp; done)))); (focus (first | exact want_n | exact want_g rfl (by with_reducible rfl)))) | (apply Wv; (focus (first | exact oi_len rfl rfl rfl rfl (by first | rfl | assumption | omega | (simp; done) | (simp; omega)) | exact oi_idx rfl rfl rfl rfl rfl rfl (by first | rfl | assumption | omega | (simp; done) | (simp; omega)) (by first | rfl | assumption | omega | (simp; done) | (simp; omega)) | exact oi_ld rfl rfl rfl (by first | rfl | assumption | omega | (simp; done) | (simp; omega)) (by first | rfl | assumption | omega | (simp; done) | (simp; omega)) rfl rfl)); (focus (first | exact want_n | exact want_g rfl (by with_reducible rfl)))) | (apply Ws; (focus (exact oi_st (f := intA) rfl rfl rfl (by first | rfl | assumption | omega | (simp; done) | (simp; omega)) (by first | rfl | assumption | omega | (simp; done) | (simp; omega)) rfl (fun _ => rfl) rfl rfl)); (focus (first | exact want_n | exact want_g rfl (by with_reducible rfl)))) | (first | (apply Wv; (focus (first | exact step_ok rfl rfl | exact o_idx rfl rfl rfl rfl (by first | assumption | omega | decide) | exact o_idx3 rfl rfl rfl rfl (by first | assumption | omega | decide) | exact o_idx2 rfl rfl rfl rfl rfl (by first | assumption | omega | decide) | exact o_idxr rfl rfl rfl rfl rfl rfl | exact o_lenm rfl rfl rfl | exact o_len rfl rfl rfl | exact o_len0 rfl rfl rfl | exact o_lens rfl rfl rfl | exact o_lent rfl rfl | exact o_add1 rfl rfl rfl (by omega) | exact o_addn rfl rfl rfl (by omega) | exact o_add rfl rfl rfl (by omega) | exact o_sub1 rfl rfl rfl (by omega) | exact o_sub rfl rfl rfl (by omega) | exact o_mul rfl rfl rfl (by omega) | exact o_rem rfl rfl rfl (by omega) | exact ok_rem rfl rfl rfl (by decide) rfl | exact o_eqKey rfl rfl rfl | exact o_neKey rfl rfl rfl | exact o_eqVl rfl rfl rfl | exact o_neVl rfl rfl rfl | exact o_eqEnt rfl rfl rfl | exact o_neEnt rfl rfl rfl | exact o_eqMsg rfl rfl rfl | exact o_neMsg rfl rfl rfl | exact o_acall rfl rfl rfl rfl (by assumption) | exact o_minn rfl rfl rfl | exact o_cutl rfl rfl rfl rfl (by omega) | exact o_cuth rfl rfl rfl rfl (by omega) | exact o_cutl3 rfl rfl rfl rfl (by omega) | exact o_cuth3 rfl rfl rfl rfl (by omega) | exact o_cutl2 rfl rfl rfl rfl rfl (by omega) | exact o_cuth2 rfl rfl rfl rfl rfl (by omega) | exact o_cutlh2 rfl rfl rfl rfl rfl rfl rfl (by omega) (by omega) | exact o_bld zero_Opn rfl rfl rfl rfl rfl rfl rfl | exact o_bld zero_Cal rfl rfl rfl rfl rfl rfl rfl | exact o_bld zero_state rfl rfl rfl rfl rfl rfl rfl | exact o_bld zero_search rfl rfl rfl rfl rfl rfl rfl | exact o_nilcr rfl rfl | exact o_nilcp rfl rfl | exact o_eqbar rfl rfl rfl (by simp) (by simp) | exact o_ldbar rfl rfl (by simp) rfl (by first | omega | (simp; omega)) rfl | exact o_idxpn rfl rfl rfl rfl (by omega) | exact o_idxvn rfl rfl rfl rfl (by omega) (by assumption) rfl | exact o_idxrn rfl rfl rfl rfl (by omega) (by assumption) | exact o_cutarr rfl rfl rfl rfl | exact o_mkfn rfl rfl rfl | exact o_callv rfl rfl rfl rfl rfl rfl (by assumption) | exact o_bld zero_Ans rfl rfl rfl rfl rfl rfl rfl | exact o_eqAns rfl rfl rfl | exact o_neAns rfl rfl rfl | exact e_bld rfl rfl rfl | exact e_bldk rfl rfl | exact z_bld0 rfl rfl rfl rfl rfl | exact z_bld rfl rfl rfl rfl rfl rfl rfl | exact o_addu rfl rfl rfl | exact z_blda rfl rfl rfl rfl rfl rfl rfl rfl rfl | exact o_idxa rfl rfl rfl rfl rfl rfl | exact o_idxra rfl rfl rfl rfl rfl rfl rfl | exact o_quo2 rfl rfl rfl (by omega) | exact o_quo rfl rfl rfl (by omega))); (focus (first | exact want_n | exact want_g rfl (by with_reducible rfl)))) | (apply Wb; (focus (first | exact o_box rfl rfl rfl rfl | exact o_app rfl rfl rfl rfl rfl (by first | exact o_many rfl | exact o_one _ _ rfl) (by first | omega | (simp; omega) | simp) (by first | omega | (simp; omega) | simp) | exact o_appn rfl rfl rfl rfl rfl (by first | exact o_many rfl | exact o_one _ _ rfl) (by first | omega | (simp; omega) | simp) (by first | omega | (simp; omega) | simp) | exact o_app1 rfl rfl rfl rfl rfl (by first | exact o_many rfl | exact o_one _ _ rfl) (by exact rfl) (by first | omega | (simp; omega) | simp) (by first | omega | (simp; omega) | simp) | exact o_app0 rfl rfl rfl rfl rfl (by first | exact o_many rfl | exact o_one _ _ rfl) (by first | omega | (simp; omega) | simp) (by first | omega | (simp; omega) | simp) | exact o_bsl0 rfl rfl rfl | exact z_bsll rfl rfl rfl rfl rfl rfl rfl rfl rfl | exact z_alloc rfl rfl rfl | exact o_alloc zero_Opn rfl rfl | exact o_alloc zero_Cal rfl rfl | exact o_alloc zero_state rfl rfl | exact o_alloc zero_b14 rfl rfl | exact o_cpents rfl rfl rfl rfl rfl rfl (by omega) | exact o_alloc zero_Ans rfl rfl | exact o_bsll zero_Ans rfl rfl rfl rfl rfl rfl rfl rfl | exact o_bsll zero_Opn rfl rfl rfl rfl rfl rfl rfl rfl)); (focus (first | exact want_n | exact want_g rfl (by with_reducible rfl)))) | (apply Ws; (focus (first | exact o_stin rfl (by simp) rfl rfl (by first | omega | (simp; omega)) rfl | exact o_stbar rfl (by simp) rfl rfl (by first | omega | (simp; omega)) rfl | exact ok_store tabT (d := none) rfl rfl rfl rfl rfl rfl rfl rfl rfl rfl)); (focus (first | exact want_n | exact want_g rfl (by with_reducible rfl)))) | (refine Wskip (by first | exact want_f rfl (by with_reducible exact b_nt) | exact want_f rfl (by with_reducible exact b_nf) | exact want_t rfl) rfl ?_) | refine Wgt rfl rfl (by first | assumption | omega | exact rfl) ?_ | refine Wgf rfl rfl (by first | assumption | omega | exact rfl) ?_ | (refine Wgb rfl rfl (by with_reducible assumption) ?_) | (refine cb_is _ (by assumption) ?_)))))
          refine AW_loopI (fun i : Nat => ⟨[(9, .sl (some 17) 27 (c.map Cal.av)), (13, numsA (List.range c.length)), (14, boolA true), (15, intA (i : Nat))], [(17, .tail 46 27 (c.map Cal.av).length)]⟩) (fun i => i ≤ c.length) (fun i => c.length - i) 0 (Nat.zero_le _) (by (refine Go2.sub ⟨?_, ?_, ?_⟩ <;> repeat' (first | exact True.intro | rfl | apply And.intro))) (fun i hi => ?_)
          have hrl : (List.range c.length).length = c.length := List.length_range
          by_cases q1 : i < c.length
          · have q2 : i < (List.range c.length).length := by omega
            have q2i : (i : Int) < ((List.range c.length).length : Nat) := by omega
            have q3 : (List.range c.length)[i] = i := List.getElem_range q2
            have q4 : ¬ (((List.range c.length)[i] : Nat) : Int) ≠ (i : Nat) := by rw [q3]; omega
            refine wOI ?_
            refine ⟨i + 1, q1, by omega, ?_⟩
            (refine Go2.sub ⟨?_, ?_, ?_⟩ <;> repeat' (first | exact True.intro | rfl | apply And.intro))
          · have q2 : ¬ (i : Int) < ((List.range c.length).length : Nat) := by omega
            have q5 : (((List.range c.length).length : Nat) : Int) = (c.length : Nat) := by omega
            refine wOI ?_
            exact fin ⟨res_of rfl rfl rfl, trivial⟩
    by_cases hcase : wrong = false ∨ c[k].op.kind ≠ 4 ∨ c[k].ans.code ≠ 0
    · exact plain hcase
    have hw : wrong = true := (Bool.eq_false_or_eq_true wrong).elim id (fun h => absurd (.inl h) hcase)
    have hk4 : c[k].op.kind = 4 := Classical.byContradiction fun h => hcase (.inr (.inl h))
    have hc0 : c[k].ans.code = 0 := Classical.byContradiction fun h => hcase (.inr (.inr h))
    subst hw
    clear plain hcase
    have hset' : (⟨0, true, lawVl value⟩ : Ans) = c[k].ans → c.set k { c[k] with ans := ⟨0, true, lawVl value⟩ } = c := fun h => by rw [h]; exact List.set_getElem_self hkc
    have hnone := fun h => hturn k hkc hc14 ⟨0, true, lawVl value⟩ hc0 rfl h
    clear hturn
    generalize lawVl value = V at *
    have hln' : c.length = (c.set k { c[k] with ans := ⟨0, true, V⟩ }).length := List.length_set.symm
    have hkc' : k < (c.set k { c[k] with ans := ⟨0, true, V⟩ }).length := by rw [← hln']; exact hkc
    have h0' : 0 < (c.set k { c[k] with ans := ⟨0, true, V⟩ }).length := by omega
    have hself' : (c.set k { c[k] with ans := ⟨0, true, V⟩ })[k] = { c[k] with ans := ⟨0, true, V⟩ } := List.getElem_set_self hkc'
    by_cases hA1 : (⟨0, true, V⟩ : Ans) = c[k].ans
    · have hA2 : ¬ (⟨0, true, V⟩ : Ans) ≠ c[k].ans := fun h => h hA1
      have e := hset' hA1
      refine AFn_intro Try.func5 rfl Try.ntmps5 rfl (by simp) [_] rfl fun E hE => ?_
      have d1 := ccall Try.func20 (cr) (by decide +kernel) (by decide +kernel)
      have d2 := acall Try.func12 (a_awake25) (by decide +kernel) (by decide +kernel)
      have d3 := acall Try.func17 (cp) (by decide +kernel) (by decide +kernel)
      have d4 := acall Try.func13 (f1') (by decide +kernel) (by decide +kernel)
      have d5 := acall Try.func21 (cv) (by decide +kernel) (by decide +kernel)
      repeat (first | (apply Wc; (focus (exact o_ccall [(7, 17)] d1 rfl rfl rfl rfl (by repeat (first | exact .nil | refine .cons (.inl ⟨rfl, rfl⟩) ?_ | refine .cons (.inr ⟨rfl, fun _ => Wk.tok⟩) ?_)) (by repeat' (first | exact True.intro | rfl | apply And.intro)) (by repeat' (first | exact True.intro | rfl | apply And.intro)) rfl rfl rfl)); (focus (first | exact want_n | exact want_g rfl (by with_reducible rfl)))) | (refine AW_go (S' := ⟨[(9, .own 17 27 c.length .row), (11, .v (.bool (decide ((⟨0, true, V⟩ : Ans) ≠ c[k].ans)))), (63, .v (.bool (decide ((⟨0, true, V⟩ : Ans) ≠ c[k].ans))))], [(17, .own 46 27 ((c.set k { c[k] with ans := ⟨0, true, V⟩ }).map Cal.av))]⟩) ?_ ?_; (focus ((refine Go2.sub ⟨?_, ?_, ?_⟩ <;> repeat' (first | exact True.intro | rfl | apply And.intro)); done)); rw [e]; rw [show (AV.own 17 27 c.length .row) = AV.own 17 27 (c.map Cal.av).length .row by rw [List.length_map]]; refine AW_go (Go2.thaw (S' := ⟨[(9, .sl (some 17) 27 (c.map Cal.av)), (11, .v (.bool (decide ((⟨0, true, V⟩ : Ans) ≠ c[k].ans)))), (63, .v (.bool (decide ((⟨0, true, V⟩ : Ans) ≠ c[k].ans))))], [(17, .tail 46 27 (c.map Cal.av).length)]⟩) 17 rfl (by repeat' (first | exact True.intro | rfl | apply And.intro | (simp; done))) (by repeat' (first | exact True.intro | rfl | apply And.intro | (simp; done))) rfl) ?_) | (apply Wv; (focus (first | exact oc_len (f := Cal.av) (xs := c) rfl rfl rfl rfl rfl | exact oc_idx (xs := c) rfl rfl rfl rfl rfl rfl hkc | exact oc_fld (xs := c) rfl rfl rfl rfl rfl rfl (by omega) | exact oc_ldE (o := 2) hkc hself rfl rfl rfl rfl rfl rfl (by omega) rfl | exact oc_ldE (o := 8) hkc hself rfl rfl rfl rfl rfl rfl (by omega) rfl)); (focus (first | exact want_n | exact want_g rfl (by with_reducible rfl)))) | (apply Ws; (focus (exact oc_stE ({ c[k] with ans := ⟨0, true, V⟩ }) (o := 8) hkc hself rfl rfl rfl rfl rfl rfl (by omega) rfl rfl rfl rfl rfl)); (focus (first | exact want_n | exact want_g rfl (by with_reducible rfl)))) | (apply Wv; (focus (first | exact oc_idx (xs := c.set k { c[k] with ans := ⟨0, true, V⟩ }) rfl rfl rfl rfl rfl hln' hkc' | exact oc_fld (xs := c.set k { c[k] with ans := ⟨0, true, V⟩ }) rfl rfl rfl rfl rfl hln' h0' | exact oc_ldE (xs := c.set k { c[k] with ans := ⟨0, true, V⟩ }) (o := 8) hkc' hself' hln' rfl rfl rfl rfl rfl (by omega) rfl)); (focus (first | exact want_n | exact want_g rfl (by with_reducible rfl)))) | (first | (first | refine Wend _ ?_ | refine AW_seq ?_ | refine AW_reg ?_ | refine AW_drw mixed ?_ | refine AW_block ?_ | refine AW_scope ?_ | refine thenA_n ?_ | refine blockA_n ?_ | refine blockA_h ?_ | refine scopeA_n ?_ | refine thenA_r ?_ | refine blockA_r ?_ | refine scopeA_r ?_ | refine thenA_e ?_ | refine scopeA_e ?_ | refine blockA_e rfl ?_ | refine AW_exit ?_ | refine AW_ret ?_ | refine AW_skip ?_ | refine AW_c rfl ?_ | with_reducible refine cb_t ?_ | with_reducible refine cb_f ?_ | with_reducible refine cb_yes (by first | assumption | omega) ?_ | with_reducible refine cb_no (by first | assumption | omega) ?_ | refine And.intro (by decide +kernel) ?_) | (first | (apply Wb; (focus (first | exact o_bsl0O rfl rfl rfl | exact oo_app0 rfl rfl rfl rfl rfl (by first | exact o_many rfl | exact o_one _ _ rfl | exact o_zero rfl) (by first | omega | (simp; omega) | (simp; done)) (by first | omega | (simp; omega) | (simp; done)))); (focus (first | exact want_n | exact want_g rfl (by with_reducible rfl)))) | (apply Wv; (focus (first | exact oi_len rfl rfl rfl rfl (by first | rfl | assumption | omega | (simp; done) | (simp; omega)) | exact oi_idx rfl rfl rfl rfl rfl rfl (by first | rfl | assumption | omega | (simp; done) | (simp; omega)) (by first | rfl | assumption | omega | (simp; done) | (simp; omega)) | exact oi_ld rfl rfl rfl (by first | rfl | assumption | omega | (simp; done) | (simp; omega)) (by first | rfl | assumption | omega | (simp; done) | (simp; omega)) rfl rfl)); (focus (first | exact want_n | exact want_g rfl (by with_reducible rfl)))) | (apply Ws; (focus (exact oi_st (f := intA) rfl rfl rfl (by first | rfl | assumption | omega | (simp; done) | (simp; omega)) (by first | rfl | assumption | omega | (simp; done) | (simp; omega)) rfl (fun _ => rfl) rfl rfl)); (focus (first | exact want_n | exact want_g rfl (by with_reducible rfl)))) | (first | (apply Wv; (focus (first | exact step_ok rfl rfl | exact o_idx rfl rfl rfl rfl (by first | assumption | omega | decide) | exact o_idx3 rfl rfl rfl rfl (by first | assumption | omega | decide) | exact o_idx2 rfl rfl rfl rfl rfl (by first | assumption | omega | decide) | exact o_idxr rfl rfl rfl rfl rfl rfl | exact o_lenm rfl rfl rfl | exact o_len rfl rfl rfl | exact o_len0 rfl rfl rfl | exact o_lens rfl rfl rfl | exact o_lent rfl rfl | exact o_add1 rfl rfl rfl (by omega) | exact o_addn rfl rfl rfl (by omega) | exact o_add rfl rfl rfl (by omega) | exact o_sub1 rfl rfl rfl (by omega) | exact o_sub rfl rfl rfl (by omega) | exact o_mul rfl rfl rfl (by omega) | exact o_rem rfl rfl rfl (by omega) | exact ok_rem rfl rfl rfl (by decide) rfl | exact o_eqKey rfl rfl rfl | exact o_neKey rfl rfl rfl | exact o_eqVl rfl rfl rfl | exact o_neVl rfl rfl rfl | exact o_eqEnt rfl rfl rfl | exact o_neEnt rfl rfl rfl | exact o_eqMsg rfl rfl rfl | exact o_neMsg rfl rfl rfl | exact o_acall rfl rfl rfl rfl (by assumption) | exact o_minn rfl rfl rfl | exact o_cutl rfl rfl rfl rfl (by omega) | exact o_cuth rfl rfl rfl rfl (by omega) | exact o_cutl3 rfl rfl rfl rfl (by omega) | exact o_cuth3 rfl rfl rfl rfl (by omega) | exact o_cutl2 rfl rfl rfl rfl rfl (by omega) | exact o_cuth2 rfl rfl rfl rfl rfl (by omega) | exact o_cutlh2 rfl rfl rfl rfl rfl rfl rfl (by omega) (by omega) | exact o_bld zero_Opn rfl rfl rfl rfl rfl rfl rfl | exact o_bld zero_Cal rfl rfl rfl rfl rfl rfl rfl | exact o_bld zero_state rfl rfl rfl rfl rfl rfl rfl | exact o_bld zero_search rfl rfl rfl rfl rfl rfl rfl | exact o_nilcr rfl rfl | exact o_nilcp rfl rfl | exact o_eqbar rfl rfl rfl (by simp) (by simp) | exact o_ldbar rfl rfl (by simp) rfl (by first | omega | (simp; omega)) rfl | exact o_idxpn rfl rfl rfl rfl (by omega) | exact o_idxvn rfl rfl rfl rfl (by omega) (by assumption) rfl | exact o_idxrn rfl rfl rfl rfl (by omega) (by assumption) | exact o_cutarr rfl rfl rfl rfl | exact o_mkfn rfl rfl rfl | exact o_callv rfl rfl rfl rfl rfl rfl (by assumption) | exact o_bld zero_Ans rfl rfl rfl rfl rfl rfl rfl | exact o_eqAns rfl rfl rfl | exact o_neAns rfl rfl rfl | exact e_bld rfl rfl rfl | exact e_bldk rfl rfl | exact z_bld0 rfl rfl rfl rfl rfl | exact z_bld rfl rfl rfl rfl rfl rfl rfl | exact o_addu rfl rfl rfl | exact z_blda rfl rfl rfl rfl rfl rfl rfl rfl rfl | exact o_idxa rfl rfl rfl rfl rfl rfl | exact o_idxra rfl rfl rfl rfl rfl rfl rfl | exact o_quo2 rfl rfl rfl (by omega) | exact o_quo rfl rfl rfl (by omega))); (focus (first | exact want_n | exact want_g rfl (by with_reducible rfl)))) | (apply Wb; (focus (first | exact o_box rfl rfl rfl rfl | exact o_app rfl rfl rfl rfl rfl (by first | exact o_many rfl | exact o_one _ _ rfl) (by first | omega | (simp; omega) | simp) (by first | omega | (simp; omega) | simp) | exact o_appn rfl rfl rfl rfl rfl (by first | exact o_many rfl | exact o_one _ _ rfl) (by first | omega | (simp; omega) | simp) (by first | omega | (simp; omega) | simp) | exact o_app1 rfl rfl rfl rfl rfl (by first | exact o_many rfl | exact o_one _ _ rfl) (by exact rfl) (by first | omega | (simp; omega) | simp) (by first | omega | (simp; omega) | simp) | exact o_app0 rfl rfl rfl rfl rfl (by first | exact o_many rfl | exact o_one _ _ rfl) (by first | omega | (simp; omega) | simp) (by first | omega | (simp; omega) | simp) | exact o_bsl0 rfl rfl rfl | exact z_bsll rfl rfl rfl rfl rfl rfl rfl rfl rfl | exact z_alloc rfl rfl rfl | exact o_alloc zero_Opn rfl rfl | exact o_alloc zero_Cal rfl rfl | exact o_alloc zero_state rfl rfl | exact o_alloc zero_b14 rfl rfl | exact o_cpents rfl rfl rfl rfl rfl rfl (by omega) | exact o_alloc zero_Ans rfl rfl | exact o_bsll zero_Ans rfl rfl rfl rfl rfl rfl rfl rfl | exact o_bsll zero_Opn rfl rfl rfl rfl rfl rfl rfl rfl)); (focus (first | exact want_n | exact want_g rfl (by with_reducible rfl)))) | (apply Ws; (focus (first | exact o_stin rfl (by simp) rfl rfl (by first | omega | (simp; omega)) rfl | exact o_stbar rfl (by simp) rfl rfl (by first | omega | (simp; omega)) rfl | exact ok_store tabT (d := none) rfl rfl rfl rfl rfl rfl rfl rfl rfl rfl)); (focus (first | exact want_n | exact want_g rfl (by with_reducible rfl)))) | (refine Wskip (by first | exact want_f rfl (by with_reducible exact b_nt) | exact want_f rfl (by with_reducible exact b_nf) | exact want_t rfl) rfl ?_) | refine Wgt rfl rfl (by first | assumption | omega | exact rfl) ?_ | refine Wgf rfl rfl (by first | assumption | omega | exact rfl) ?_ | (refine Wgb rfl rfl (by with_reducible assumption) ?_) | (refine cb_is _ (by assumption) ?_)))))
      refine AW_loopI (fun i : Nat => ⟨[(9, .sl (some 17) 27 (c.map Cal.av)), (13, numsA (List.range c.length)), (14, boolA true), (15, intA (i : Nat))], [(17, .tail 46 27 (c.map Cal.av).length)]⟩) (fun i => i ≤ c.length) (fun i => c.length - i) 0 (Nat.zero_le _) (by (refine Go2.sub ⟨?_, ?_, ?_⟩ <;> repeat' (first | exact True.intro | rfl | apply And.intro))) (fun i hi => ?_)
      have hrl : (List.range c.length).length = c.length := List.length_range
      by_cases q1 : i < c.length
      · have q2 : i < (List.range c.length).length := by omega
        have q2i : (i : Int) < ((List.range c.length).length : Nat) := by omega
        have q3 : (List.range c.length)[i] = i := List.getElem_range q2
        have q4 : ¬ (((List.range c.length)[i] : Nat) : Int) ≠ (i : Nat) := by rw [q3]; omega
        refine wOI ?_
        refine ⟨i + 1, q1, by omega, ?_⟩
        (refine Go2.sub ⟨?_, ?_, ?_⟩ <;> repeat' (first | exact True.intro | rfl | apply And.intro))
      · have q2 : ¬ (i : Int) < ((List.range c.length).length : Nat) := by omega
        have q5 : (((List.range c.length).length : Nat) : Int) = (c.length : Nat) := by omega
        refine wOI ?_
        exact fin ⟨res_of rfl rfl rfl, trivial⟩
    · have hA2 : (⟨0, true, V⟩ : Ans) ≠ c[k].ans := hA1
      have f2 := a_find (c.set k { c[k] with ans := ⟨0, true, V⟩ })
      rw [hnone hA2] at f2
      have f2' : AFn Try.prog 13 [.sl none 27 ((c.set k { c[k] with ans := ⟨0, true, V⟩ }).map Cal.av)] (.tup [.sl none 1 [], boolA false]) := f2
      clear f2
      refine AFn_intro Try.func5 rfl Try.ntmps5 rfl (by simp) [_] rfl fun E hE => ?_
      have d1 := ccall Try.func20 (cr) (by decide +kernel) (by decide +kernel)
      have d2 := acall Try.func12 (a_awake25) (by decide +kernel) (by decide +kernel)
      have d3 := acall Try.func17 (cp) (by decide +kernel) (by decide +kernel)
      have d4 := acall Try.func13 (f2') (by decide +kernel) (by decide +kernel)
      have d5 := acall Try.func21 (cv) (by decide +kernel) (by decide +kernel)
      repeat (first | (apply Wc; (focus (exact o_ccall [(7, 17)] d1 rfl rfl rfl rfl (by repeat (first | exact .nil | refine .cons (.inl ⟨rfl, rfl⟩) ?_ | refine .cons (.inr ⟨rfl, fun _ => Wk.tok⟩) ?_)) (by repeat' (first | exact True.intro | rfl | apply And.intro)) (by repeat' (first | exact True.intro | rfl | apply And.intro)) rfl rfl rfl)); (focus (first | exact want_n | exact want_g rfl (by with_reducible rfl)))) | (refine AW_go (S' := ⟨[(9, .own 17 27 c.length .row), (11, .v (.bool (decide ((⟨0, true, V⟩ : Ans) ≠ c[k].ans)))), (63, .v (.bool (decide ((⟨0, true, V⟩ : Ans) ≠ c[k].ans))))], [(17, .own 46 27 ((c.set k { c[k] with ans := ⟨0, true, V⟩ }).map Cal.av))]⟩) ?_ ?_; (focus ((refine Go2.sub ⟨?_, ?_, ?_⟩ <;> repeat' (first | exact True.intro | rfl | apply And.intro)); done)); rw [show (AV.own 17 27 c.length .row) = AV.own 17 27 ((c.set k { c[k] with ans := ⟨0, true, V⟩ }).map Cal.av).length .row by rw [List.length_map, List.length_set]]; refine AW_go (Go2.thaw (S' := ⟨[(9, .sl (some 17) 27 ((c.set k { c[k] with ans := ⟨0, true, V⟩ }).map Cal.av)), (11, .v (.bool (decide ((⟨0, true, V⟩ : Ans) ≠ c[k].ans)))), (63, .v (.bool (decide ((⟨0, true, V⟩ : Ans) ≠ c[k].ans))))], [(17, .tail 46 27 ((c.set k { c[k] with ans := ⟨0, true, V⟩ }).map Cal.av).length)]⟩) 17 rfl (by repeat' (first | exact True.intro | rfl | apply And.intro | (simp; done))) (by repeat' (first | exact True.intro | rfl | apply And.intro | (simp; done))) rfl) ?_) | (apply Wv; (focus (first | exact oc_len (f := Cal.av) (xs := c) rfl rfl rfl rfl rfl | exact oc_idx (xs := c) rfl rfl rfl rfl rfl rfl hkc | exact oc_fld (xs := c) rfl rfl rfl rfl rfl rfl (by omega) | exact oc_ldE (o := 2) hkc hself rfl rfl rfl rfl rfl rfl (by omega) rfl | exact oc_ldE (o := 8) hkc hself rfl rfl rfl rfl rfl rfl (by omega) rfl)); (focus (first | exact want_n | exact want_g rfl (by with_reducible rfl)))) | (apply Ws; (focus (exact oc_stE ({ c[k] with ans := ⟨0, true, V⟩ }) (o := 8) hkc hself rfl rfl rfl rfl rfl rfl (by omega) rfl rfl rfl rfl rfl)); (focus (first | exact want_n | exact want_g rfl (by with_reducible rfl)))) | (apply Wv; (focus (first | exact oc_idx (xs := c.set k { c[k] with ans := ⟨0, true, V⟩ }) rfl rfl rfl rfl rfl hln' hkc' | exact oc_fld (xs := c.set k { c[k] with ans := ⟨0, true, V⟩ }) rfl rfl rfl rfl rfl hln' h0' | exact oc_ldE (xs := c.set k { c[k] with ans := ⟨0, true, V⟩ }) (o := 8) hkc' hself' hln' rfl rfl rfl rfl rfl (by omega) rfl)); (focus (first | exact want_n | exact want_g rfl (by with_reducible rfl)))) | (first | (first | refine Wend _ ?_ | refine AW_seq ?_ | refine AW_reg ?_ | refine AW_drw mixed ?_ | refine AW_block ?_ | refine AW_scope ?_ | refine thenA_n ?_ | refine blockA_n ?_ | refine blockA_h ?_ | refine scopeA_n ?_ | refine thenA_r ?_ | refine blockA_r ?_ | refine scopeA_r ?_ | refine thenA_e ?_ | refine scopeA_e ?_ | refine blockA_e rfl ?_ | refine AW_exit ?_ | refine AW_ret ?_ | refine AW_skip ?_ | refine AW_c rfl ?_ | with_reducible refine cb_t ?_ | with_reducible refine cb_f ?_ | with_reducible refine cb_yes (by first | assumption | omega) ?_ | with_reducible refine cb_no (by first | assumption | omega) ?_ | refine And.intro (by decide +kernel) ?_) | (first | (apply Wb; (focus (first | exact o_bsl0O rfl rfl rfl | exact oo_app0 rfl rfl rfl rfl rfl (by first | exact o_many rfl | exact o_one _ _ rfl | exact o_zero rfl) (by first | omega | (simp; omega) | (simp; done)) (by first | omega | (simp; omega) | (simp; done)))); (focus (first | exact want_n | exact want_g rfl (by with_reducible rfl)))) | (apply Wv; (focus (first | exact oi_len rfl rfl rfl rfl (by first | rfl | assumption | omega | (simp; done) | (simp; omega)) | exact oi_idx rfl rfl rfl rfl rfl rfl (by first | rfl | assumption | omega | (simp; done) | (simp; omega)) (by first | rfl | assumption | omega | (simp; done) | (simp; omega)) | exact oi_ld rfl rfl rfl (by first | rfl | assumption | omega | (simp; done) | (simp; omega)) (by first | rfl | assumption | omega | (simp; done) | (simp; omega)) rfl rfl)); (focus (first | exact want_n | exact want_g rfl (by with_reducible rfl)))) | (apply Ws; (focus (exact oi_st (f := intA) rfl rfl rfl (by first | rfl | assumption | omega | (simp; done) | (simp; omega)) (by first | rfl | assumption | omega | (simp; done) | (simp; omega)) rfl (fun _ => rfl) rfl rfl)); (focus (first | exact want_n | exact want_g rfl (by with_reducible rfl)))) | (first | (apply Wv; (focus (first | exact step_ok rfl rfl | exact o_idx rfl rfl rfl rfl (by first | assumption | omega | decide) | exact o_idx3 rfl rfl rfl rfl (by first | assumption | omega | decide) | exact o_idx2 rfl rfl rfl rfl rfl (by first | assumption | omega | decide) | exact o_idxr rfl rfl rfl rfl rfl rfl | exact o_lenm rfl rfl rfl | exact o_len rfl rfl rfl | exact o_len0 rfl rfl rfl | exact o_lens rfl rfl rfl | exact o_lent rfl rfl | exact o_add1 rfl rfl rfl (by omega) | exact o_addn rfl rfl rfl (by omega) | exact o_add rfl rfl rfl (by omega) | exact o_sub1 rfl rfl rfl (by omega) | exact o_sub rfl rfl rfl (by omega) | exact o_mul rfl rfl rfl (by omega) | exact o_rem rfl rfl rfl (by omega) | exact ok_rem rfl rfl rfl (by decide) rfl | exact o_eqKey rfl rfl rfl | exact o_neKey rfl rfl rfl | exact o_eqVl rfl rfl rfl | exact o_neVl rfl rfl rfl | exact o_eqEnt rfl rfl rfl | exact o_neEnt rfl rfl rfl | exact o_eqMsg rfl rfl rfl | exact o_neMsg rfl rfl rfl | exact o_acall rfl rfl rfl rfl (by assumption) | exact o_minn rfl rfl rfl | exact o_cutl rfl rfl rfl rfl (by omega) | exact o_cuth rfl rfl rfl rfl (by omega) | exact o_cutl3 rfl rfl rfl rfl (by omega) | exact o_cuth3 rfl rfl rfl rfl (by omega) | exact o_cutl2 rfl rfl rfl rfl rfl (by omega) | exact o_cuth2 rfl rfl rfl rfl rfl (by omega) | exact o_cutlh2 rfl rfl rfl rfl rfl rfl rfl (by omega) (by omega) | exact o_bld zero_Opn rfl rfl rfl rfl rfl rfl rfl | exact o_bld zero_Cal rfl rfl rfl rfl rfl rfl rfl | exact o_bld zero_state rfl rfl rfl rfl rfl rfl rfl | exact o_bld zero_search rfl rfl rfl rfl rfl rfl rfl | exact o_nilcr rfl rfl | exact o_nilcp rfl rfl | exact o_eqbar rfl rfl rfl (by simp) (by simp) | exact o_ldbar rfl rfl (by simp) rfl (by first | omega | (simp; omega)) rfl | exact o_idxpn rfl rfl rfl rfl (by omega) | exact o_idxvn rfl rfl rfl rfl (by omega) (by assumption) rfl | exact o_idxrn rfl rfl rfl rfl (by omega) (by assumption) | exact o_cutarr rfl rfl rfl rfl | exact o_mkfn rfl rfl rfl | exact o_callv rfl rfl rfl rfl rfl rfl (by assumption) | exact o_bld zero_Ans rfl rfl rfl rfl rfl rfl rfl | exact o_eqAns rfl rfl rfl | exact o_neAns rfl rfl rfl | exact e_bld rfl rfl rfl | exact e_bldk rfl rfl | exact z_bld0 rfl rfl rfl rfl rfl | exact z_bld rfl rfl rfl rfl rfl rfl rfl | exact o_addu rfl rfl rfl | exact z_blda rfl rfl rfl rfl rfl rfl rfl rfl rfl | exact o_idxa rfl rfl rfl rfl rfl rfl | exact o_idxra rfl rfl rfl rfl rfl rfl rfl | exact o_quo2 rfl rfl rfl (by omega) | exact o_quo rfl rfl rfl (by omega))); (focus (first | exact want_n | exact want_g rfl (by with_reducible rfl)))) | (apply Wb; (focus (first | exact o_box rfl rfl rfl rfl | exact o_app rfl rfl rfl rfl rfl (by first | exact o_many rfl | exact o_one _ _ rfl) (by first | omega | (simp; omega) | simp) (by first | omega | (simp; omega) | simp) | exact o_appn rfl rfl rfl rfl rfl (by first | exact o_many rfl | exact o_one _ _ rfl) (by first | omega | (simp; omega) | simp) (by first | omega | (simp; omega) | simp) | exact o_app1 rfl rfl rfl rfl rfl (by first | exact o_many rfl | exact o_one _ _ rfl) (by exact rfl) (by first | omega | (simp; omega) | simp) (by first | omega | (simp; omega) | simp) | exact o_app0 rfl rfl rfl rfl rfl (by first | exact o_many rfl | exact o_one _ _ rfl) (by first | omega | (simp; omega) | simp) (by first | omega | (simp; omega) | simp) | exact o_bsl0 rfl rfl rfl | exact z_bsll rfl rfl rfl rfl rfl rfl rfl rfl rfl | exact z_alloc rfl rfl rfl | exact o_alloc zero_Opn rfl rfl | exact o_alloc zero_Cal rfl rfl | exact o_alloc zero_state rfl rfl | exact o_alloc zero_b14 rfl rfl | exact o_cpents rfl rfl rfl rfl rfl rfl (by omega) | exact o_alloc zero_Ans rfl rfl | exact o_bsll zero_Ans rfl rfl rfl rfl rfl rfl rfl rfl | exact o_bsll zero_Opn rfl rfl rfl rfl rfl rfl rfl rfl)); (focus (first | exact want_n | exact want_g rfl (by with_reducible rfl)))) | (apply Ws; (focus (first | exact o_stin rfl (by simp) rfl rfl (by first | omega | (simp; omega)) rfl | exact o_stbar rfl (by simp) rfl rfl (by first | omega | (simp; omega)) rfl | exact ok_store tabT (d := none) rfl rfl rfl rfl rfl rfl rfl rfl rfl rfl)); (focus (first | exact want_n | exact want_g rfl (by with_reducible rfl)))) | (refine Wskip (by first | exact want_f rfl (by with_reducible exact b_nt) | exact want_f rfl (by with_reducible exact b_nf) | exact want_t rfl) rfl ?_) | refine Wgt rfl rfl (by first | assumption | omega | exact rfl) ?_ | refine Wgf rfl rfl (by first | assumption | omega | exact rfl) ?_ | (refine Wgb rfl rfl (by with_reducible assumption) ?_) | (refine cb_is _ (by assumption) ?_)))))
      exact fin ⟨res_of rfl rfl rfl, trivial⟩
theorem lineOne_walk (v0 : Value) (l0 : List (Int)) (n1 : Int) (n2 : Int) (c3 : Bool) (w : World) (s0 : Sl ie 1 w v0 l0) (g0 : ∀ n ∈ l0, -9223372036854775808 ≤ n ∧ n ≤ 9223372036854775807) (z0 : l0.length ≤ 17592186043904) (b1 : -9223372036854775808 ≤ n1 ∧ n1 ≤ 9223372036854775807) (b2 : -9223372036854775808 ≤ n2 ∧ n2 ≤ 9223372036854775807) :
    Calls Try.prog 5 #[v0, .int .i64 n1, .int .i64 n2, .bool c3] w (Is w (.bool true)) :=
  law_of (a_lone l0 g0 z0 n1 n2 b1 b2 c3) (rdp_cons rfl (ints_in s0) (rdp_cons rfl int_in (rdp_cons rfl int_in (rdp_cons rfl (Rdv_v.2 ⟨rfl, rfl⟩) rdp_nil'))))
end Go.Proofs.Ytphojngdgmnpaaa
