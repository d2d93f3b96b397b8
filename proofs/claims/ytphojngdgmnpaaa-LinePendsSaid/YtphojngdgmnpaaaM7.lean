/-
  M7: several texts as one: LawLine4, LawLine5, LawLine6, LawLine7, LawLine8. No condition beyond those that each theorem states.
-/
import Derived.Test.YtphojngdgmnpaaaM6
namespace Go.Proofs.Ytphojngdgmnpaaa
open Go Go.RowKit
set_option linter.unusedVariables false
set_option linter.unusedSimpArgs false
set_option maxRecDepth 100000
/-- a call by a number: of few keys, under way at once with others, its answer one that may be or not -/
def calN (i : Nat) (v : Int) : Cal :=
  let k := v % 1099511627776
  let o0 := lawOp (k % 4 + k / 4 % 3 * 32)
  let o : Opn := if o0.kind = 3 then { o0 with add := BitVec.ofInt 64 (1 + k / 16384 % 3) } else o0
  let c := callC o (2 * (i : Int)) (2 * (i : Int) + 1 + k / 16 % 7) Ans.zero
  if k / 128 % 8 = 7 then { c with to := -1 }
  else if large o then { c with ans := { Ans.zero with code := 2 } }
  else if o.kind = 4 ∧ k / 1024 % 2 = 0 then { c with ans := { Ans.zero with found := true, val := lawVl (k / 2048 % 3) } }
  else if o.kind ≠ 4 ∧ k / 1024 % 8 = 0 then { c with ans := { Ans.zero with code := 3 } }
  else c
def callsGo : Nat → List Int → List Cal
  | _, [] => []
  | i, v :: vs => calN i v :: callsGo (i + 1) vs
def callsC (l : List Int) (most : Nat) : List Cal := callsGo 0 (l.take most)
theorem callsGo_len : ∀ (l : List Int) (i : Nat), (callsGo i l).length = l.length
  | [], _ => rfl
  | v :: l, i => by simp [callsGo, callsGo_len l]
theorem callsC_len (l : List Int) (most : Nat) : (callsC l most).length = min most l.length := by unfold callsC; rw [callsGo_len, List.length_take]
attribute [local irreducible] OpOK AWops AW CondB Go2 AFn thenA inBlockA noGotoA orderOk wantedA
set_option maxRecDepth 100000 in
set_option maxHeartbeats 8000000 in
theorem a_calls (l : List Int) (hv : ∀ v ∈ l, -9223372036854775808 ≤ v ∧ v ≤ 9223372036854775807) (hl : l.length ≤ 1000000000000000) (most : Nat) (hm : most ≤ 100) :
    AFn Try.prog 11 [intsA l, intA (most : Nat)] (calsA (callsC l most)) := by
  refine AFn_intro Try.func11 rfl Try.ntmps11 rfl (by simp) [_] rfl fun E hE => ?_
  have hnt : (!true) = false := rfl
  have hnf : (!false) = true := rfl
  refine wSS ?_
  refine AW_go (Go2.token 5 5 26 46 rfl rfl) ?_
  refine AW_loopI (fun x : Nat × List Cal => ⟨[(0, intsA l), (1, intA (most : Nat)), (5, .sl (some 5) 27 (x.2.map Cal.av)), (6, intA (x.1 : Nat))], [(5, .tail 46 27 x.2.length)]⟩) (fun x => x.1 ≤ (l.take most).length ∧ x.2.length = x.1 ∧ x.2 ++ callsGo x.1 ((l.take most).drop x.1) = callsC l most) (fun x => (l.take most).length - x.1) (0, []) ⟨Nat.zero_le _, rfl, rfl⟩ (by (refine Go2.sub ⟨?_, ?_, ?_⟩ <;> repeat' (first | exact True.intro | rfl | apply And.intro))) (fun x hx => ?_)
  obtain ⟨i, acc⟩ := x
  obtain ⟨hi, hal, hF⟩ := hx
  dsimp only at hi hal hF ⊢
  have htl : (l.take most).length = min most l.length := List.length_take
  have end_ : (l.take most).length ≤ i → acc = callsC l most := fun h => by
    rw [List.drop_of_length_le h] at hF
    simpa [callsGo] using hF
  by_cases c1 : i < l.length
  · by_cases c2 : i < most
    · have c2i : (i : Int) < (most : Nat) := by omega
      have hlt : i < (l.take most).length := by omega
      have hvi := hv l[i] (List.getElem_mem c1)
      have hget : (l.take most)[i] = l[i] := List.getElem_take
      rw [List.drop_eq_getElem_cons hlt, hget] at hF
      have c5 := a_lplace l[i] 1099511627776 (by omega) (by omega) hvi
      unfold callsGo calN at hF
      dsimp only at hF
      obtain ⟨k, hk⟩ : ∃ k : Nat, l[i] % 1099511627776 = (k : Int) := ⟨(l[i] % 1099511627776).toNat, by omega⟩
      have hkb : k < 1099511627776 := by omega
      rw [hk] at c5 hF
      have co := a_lop ((k : Int) % 4 + (k : Int) / 4 % 3 * 32) (by omega)
      generalize lawOp ((k : Int) % 4 + (k : Int) / 4 % 3 * 32) = o0 at co hF
      have d1 := acall Try.func17 (c5) (by decide +kernel) (by decide +kernel)
      have d2 := acall Try.func26 (co) (by decide +kernel) (by decide +kernel)
--CASES
      by_cases h3 : o0.kind = 3
      · rw [if_pos h3] at hF
        refine wSS ?_
        (apply Wv; (focus (exact o_convu ⟨_, Try.underlying3⟩ Try.underlying36 rfl rfl)); (focus (first | exact want_n | exact want_g rfl (by with_reducible rfl))))
        have hkind : ({ o0 with add := BitVec.ofInt 64 (1 + (k : Int) / 16384 % 3) }).kind = o0.kind := rfl
        have cc := a_call25 ({ o0 with add := BitVec.ofInt 64 (1 + (k : Int) / 16384 % 3) }) (2 * (i : Int)) (2 * (i : Int) + 1 + (k : Int) / 16 % 7) Ans.zero
        have cl := a_ref23large ({ o0 with add := BitVec.ofInt 64 (1 + (k : Int) / 16384 % 3) })
        have d3 := acall Try.func22 (cc) (by decide +kernel) (by decide +kernel)
        by_cases h7 : (k : Int) / 128 % 8 = 7
        · rw [if_pos h7] at hF
          refine wSS ?_
          (apply Wb; (focus (exact o_bsll zero_Cal rfl rfl rfl rfl rfl rfl rfl rfl)); (focus (first | exact want_n | exact want_g rfl (by with_reducible rfl))))
          (apply Wb; (focus (exact o_app (f := Cal.av) (tk := 5) (xs := acc) (zs := [{ callC ({ o0 with add := BitVec.ofInt 64 (1 + (k : Int) / 16384 % 3) }) (2 * (i : Int)) (2 * (i : Int) + 1 + (k : Int) / 16 % 7) Ans.zero with to := -1 }]) rfl rfl rfl rfl rfl (by exact o_one Cal.av ({ callC ({ o0 with add := BitVec.ofInt 64 (1 + (k : Int) / 16384 % 3) }) (2 * (i : Int)) (2 * (i : Int) + 1 + (k : Int) / 16 % 7) Ans.zero with to := -1 }) rfl) (by simp; omega) (by simp; omega))); (focus (first | exact want_n | exact want_g rfl (by with_reducible rfl))))
          refine wSS ?_
          refine ⟨(i + 1, acc ++ [{ callC ({ o0 with add := BitVec.ofInt 64 (1 + (k : Int) / 16384 % 3) }) (2 * (i : Int)) (2 * (i : Int) + 1 + (k : Int) / 16 % 7) Ans.zero with to := -1 }]), ⟨hlt, by simp [hal], by show (acc ++ [_]) ++ _ = _; rw [List.append_assoc]; exact hF⟩, by show (l.take most).length - (i + 1) < (l.take most).length - i; omega, ?_⟩
          (refine Go2.sub ⟨?_, ?_, ?_⟩ <;> repeat' (first | exact True.intro | rfl | apply And.intro))
        rw [if_neg h7] at hF
        cases hL : large ({ o0 with add := BitVec.ofInt 64 (1 + (k : Int) / 16384 % 3) })
        case true =>
          rw [if_pos hL] at hF
          rw [hL] at cl
          have d4 := acall Try.func27 (cl) (by decide +kernel) (by decide +kernel)
          refine wSS ?_
          (apply Wb; (focus (exact o_bsll zero_Cal rfl rfl rfl rfl rfl rfl rfl rfl)); (focus (first | exact want_n | exact want_g rfl (by with_reducible rfl))))
          (apply Wb; (focus (exact o_app (f := Cal.av) (tk := 5) (xs := acc) (zs := [{ callC ({ o0 with add := BitVec.ofInt 64 (1 + (k : Int) / 16384 % 3) }) (2 * (i : Int)) (2 * (i : Int) + 1 + (k : Int) / 16 % 7) Ans.zero with ans := { Ans.zero with code := 2 } }]) rfl rfl rfl rfl rfl (by exact o_one Cal.av ({ callC ({ o0 with add := BitVec.ofInt 64 (1 + (k : Int) / 16384 % 3) }) (2 * (i : Int)) (2 * (i : Int) + 1 + (k : Int) / 16 % 7) Ans.zero with ans := { Ans.zero with code := 2 } }) rfl) (by simp; omega) (by simp; omega))); (focus (first | exact want_n | exact want_g rfl (by with_reducible rfl))))
          refine wSS ?_
          refine ⟨(i + 1, acc ++ [{ callC ({ o0 with add := BitVec.ofInt 64 (1 + (k : Int) / 16384 % 3) }) (2 * (i : Int)) (2 * (i : Int) + 1 + (k : Int) / 16 % 7) Ans.zero with ans := { Ans.zero with code := 2 } }]), ⟨hlt, by simp [hal], by show (acc ++ [_]) ++ _ = _; rw [List.append_assoc]; exact hF⟩, by show (l.take most).length - (i + 1) < (l.take most).length - i; omega, ?_⟩
          (refine Go2.sub ⟨?_, ?_, ?_⟩ <;> repeat' (first | exact True.intro | rfl | apply And.intro))
        case false =>
        rw [if_neg (by rw [hL]; simp)] at hF
        rw [hL] at cl
        have d4 := acall Try.func27 (cl) (by decide +kernel) (by decide +kernel)
        by_cases h4 : o0.kind = 4
        · exfalso; omega
        · by_cases h8 : (k : Int) / 1024 % 8 = 0
          · rw [if_neg (fun h => h4 h.1), if_pos ⟨h4, h8⟩] at hF
            refine wSS ?_
            (apply Wb; (focus (exact o_bsll zero_Cal rfl rfl rfl rfl rfl rfl rfl rfl)); (focus (first | exact want_n | exact want_g rfl (by with_reducible rfl))))
            (apply Wb; (focus (exact o_app (f := Cal.av) (tk := 5) (xs := acc) (zs := [{ callC ({ o0 with add := BitVec.ofInt 64 (1 + (k : Int) / 16384 % 3) }) (2 * (i : Int)) (2 * (i : Int) + 1 + (k : Int) / 16 % 7) Ans.zero with ans := { Ans.zero with code := 3 } }]) rfl rfl rfl rfl rfl (by exact o_one Cal.av ({ callC ({ o0 with add := BitVec.ofInt 64 (1 + (k : Int) / 16384 % 3) }) (2 * (i : Int)) (2 * (i : Int) + 1 + (k : Int) / 16 % 7) Ans.zero with ans := { Ans.zero with code := 3 } }) rfl) (by simp; omega) (by simp; omega))); (focus (first | exact want_n | exact want_g rfl (by with_reducible rfl))))
            refine wSS ?_
            refine ⟨(i + 1, acc ++ [{ callC ({ o0 with add := BitVec.ofInt 64 (1 + (k : Int) / 16384 % 3) }) (2 * (i : Int)) (2 * (i : Int) + 1 + (k : Int) / 16 % 7) Ans.zero with ans := { Ans.zero with code := 3 } }]), ⟨hlt, by simp [hal], by show (acc ++ [_]) ++ _ = _; rw [List.append_assoc]; exact hF⟩, by show (l.take most).length - (i + 1) < (l.take most).length - i; omega, ?_⟩
            (refine Go2.sub ⟨?_, ?_, ?_⟩ <;> repeat' (first | exact True.intro | rfl | apply And.intro))
          · rw [if_neg (fun h => h4 h.1), if_neg (fun h => h8 h.2)] at hF
            refine wSS ?_
            (apply Wb; (focus (exact o_bsll zero_Cal rfl rfl rfl rfl rfl rfl rfl rfl)); (focus (first | exact want_n | exact want_g rfl (by with_reducible rfl))))
            (apply Wb; (focus (exact o_app (f := Cal.av) (tk := 5) (xs := acc) (zs := [callC ({ o0 with add := BitVec.ofInt 64 (1 + (k : Int) / 16384 % 3) }) (2 * (i : Int)) (2 * (i : Int) + 1 + (k : Int) / 16 % 7) Ans.zero]) rfl rfl rfl rfl rfl (by exact o_one Cal.av (callC ({ o0 with add := BitVec.ofInt 64 (1 + (k : Int) / 16384 % 3) }) (2 * (i : Int)) (2 * (i : Int) + 1 + (k : Int) / 16 % 7) Ans.zero) rfl) (by simp; omega) (by simp; omega))); (focus (first | exact want_n | exact want_g rfl (by with_reducible rfl))))
            refine wSS ?_
            refine ⟨(i + 1, acc ++ [callC ({ o0 with add := BitVec.ofInt 64 (1 + (k : Int) / 16384 % 3) }) (2 * (i : Int)) (2 * (i : Int) + 1 + (k : Int) / 16 % 7) Ans.zero]), ⟨hlt, by simp [hal], by show (acc ++ [_]) ++ _ = _; rw [List.append_assoc]; exact hF⟩, by show (l.take most).length - (i + 1) < (l.take most).length - i; omega, ?_⟩
            (refine Go2.sub ⟨?_, ?_, ?_⟩ <;> repeat' (first | exact True.intro | rfl | apply And.intro))
      · rw [if_neg h3] at hF
        have hkind : (o0).kind = o0.kind := rfl
        have cc := a_call25 (o0) (2 * (i : Int)) (2 * (i : Int) + 1 + (k : Int) / 16 % 7) Ans.zero
        have cl := a_ref23large (o0)
        have d3 := acall Try.func22 (cc) (by decide +kernel) (by decide +kernel)
        by_cases h7 : (k : Int) / 128 % 8 = 7
        · rw [if_pos h7] at hF
          refine wSS ?_
          (apply Wb; (focus (exact o_bsll zero_Cal rfl rfl rfl rfl rfl rfl rfl rfl)); (focus (first | exact want_n | exact want_g rfl (by with_reducible rfl))))
          (apply Wb; (focus (exact o_app (f := Cal.av) (tk := 5) (xs := acc) (zs := [{ callC (o0) (2 * (i : Int)) (2 * (i : Int) + 1 + (k : Int) / 16 % 7) Ans.zero with to := -1 }]) rfl rfl rfl rfl rfl (by exact o_one Cal.av ({ callC (o0) (2 * (i : Int)) (2 * (i : Int) + 1 + (k : Int) / 16 % 7) Ans.zero with to := -1 }) rfl) (by simp; omega) (by simp; omega))); (focus (first | exact want_n | exact want_g rfl (by with_reducible rfl))))
          refine wSS ?_
          refine ⟨(i + 1, acc ++ [{ callC (o0) (2 * (i : Int)) (2 * (i : Int) + 1 + (k : Int) / 16 % 7) Ans.zero with to := -1 }]), ⟨hlt, by simp [hal], by show (acc ++ [_]) ++ _ = _; rw [List.append_assoc]; exact hF⟩, by show (l.take most).length - (i + 1) < (l.take most).length - i; omega, ?_⟩
          (refine Go2.sub ⟨?_, ?_, ?_⟩ <;> repeat' (first | exact True.intro | rfl | apply And.intro))
        rw [if_neg h7] at hF
        cases hL : large (o0)
        case true =>
          rw [if_pos hL] at hF
          rw [hL] at cl
          have d4 := acall Try.func27 (cl) (by decide +kernel) (by decide +kernel)
          refine wSS ?_
          (apply Wb; (focus (exact o_bsll zero_Cal rfl rfl rfl rfl rfl rfl rfl rfl)); (focus (first | exact want_n | exact want_g rfl (by with_reducible rfl))))
          (apply Wb; (focus (exact o_app (f := Cal.av) (tk := 5) (xs := acc) (zs := [{ callC (o0) (2 * (i : Int)) (2 * (i : Int) + 1 + (k : Int) / 16 % 7) Ans.zero with ans := { Ans.zero with code := 2 } }]) rfl rfl rfl rfl rfl (by exact o_one Cal.av ({ callC (o0) (2 * (i : Int)) (2 * (i : Int) + 1 + (k : Int) / 16 % 7) Ans.zero with ans := { Ans.zero with code := 2 } }) rfl) (by simp; omega) (by simp; omega))); (focus (first | exact want_n | exact want_g rfl (by with_reducible rfl))))
          refine wSS ?_
          refine ⟨(i + 1, acc ++ [{ callC (o0) (2 * (i : Int)) (2 * (i : Int) + 1 + (k : Int) / 16 % 7) Ans.zero with ans := { Ans.zero with code := 2 } }]), ⟨hlt, by simp [hal], by show (acc ++ [_]) ++ _ = _; rw [List.append_assoc]; exact hF⟩, by show (l.take most).length - (i + 1) < (l.take most).length - i; omega, ?_⟩
          (refine Go2.sub ⟨?_, ?_, ?_⟩ <;> repeat' (first | exact True.intro | rfl | apply And.intro))
        case false =>
        rw [if_neg (by rw [hL]; simp)] at hF
        rw [hL] at cl
        have d4 := acall Try.func27 (cl) (by decide +kernel) (by decide +kernel)
        by_cases h4 : o0.kind = 4
        · by_cases h2 : (k : Int) / 1024 % 2 = 0
          · rw [if_pos ⟨h4, h2⟩] at hF
            have cv := a_lval ((k : Int) / 2048 % 3) (by omega)
            have d5 := acall Try.func21 (cv) (by decide +kernel) (by decide +kernel)
            refine wSS ?_
            (apply Wb; (focus (exact o_bsll zero_Cal rfl rfl rfl rfl rfl rfl rfl rfl)); (focus (first | exact want_n | exact want_g rfl (by with_reducible rfl))))
            (apply Wb; (focus (exact o_app (f := Cal.av) (tk := 5) (xs := acc) (zs := [{ callC (o0) (2 * (i : Int)) (2 * (i : Int) + 1 + (k : Int) / 16 % 7) Ans.zero with ans := { Ans.zero with found := true, val := lawVl ((k : Int) / 2048 % 3) } }]) rfl rfl rfl rfl rfl (by exact o_one Cal.av ({ callC (o0) (2 * (i : Int)) (2 * (i : Int) + 1 + (k : Int) / 16 % 7) Ans.zero with ans := { Ans.zero with found := true, val := lawVl ((k : Int) / 2048 % 3) } }) rfl) (by simp; omega) (by simp; omega))); (focus (first | exact want_n | exact want_g rfl (by with_reducible rfl))))
            refine wSS ?_
            refine ⟨(i + 1, acc ++ [{ callC (o0) (2 * (i : Int)) (2 * (i : Int) + 1 + (k : Int) / 16 % 7) Ans.zero with ans := { Ans.zero with found := true, val := lawVl ((k : Int) / 2048 % 3) } }]), ⟨hlt, by simp [hal], by show (acc ++ [_]) ++ _ = _; rw [List.append_assoc]; exact hF⟩, by show (l.take most).length - (i + 1) < (l.take most).length - i; omega, ?_⟩
            (refine Go2.sub ⟨?_, ?_, ?_⟩ <;> repeat' (first | exact True.intro | rfl | apply And.intro))
          · rw [if_neg (fun h => h2 h.2), if_neg (fun h => h.1 h4)] at hF
            refine wSS ?_
            (apply Wb; (focus (exact o_bsll zero_Cal rfl rfl rfl rfl rfl rfl rfl rfl)); (focus (first | exact want_n | exact want_g rfl (by with_reducible rfl))))
            (apply Wb; (focus (exact o_app (f := Cal.av) (tk := 5) (xs := acc) (zs := [callC (o0) (2 * (i : Int)) (2 * (i : Int) + 1 + (k : Int) / 16 % 7) Ans.zero]) rfl rfl rfl rfl rfl (by exact o_one Cal.av (callC (o0) (2 * (i : Int)) (2 * (i : Int) + 1 + (k : Int) / 16 % 7) Ans.zero) rfl) (by simp; omega) (by simp; omega))); (focus (first | exact want_n | exact want_g rfl (by with_reducible rfl))))
            refine wSS ?_
            refine ⟨(i + 1, acc ++ [callC (o0) (2 * (i : Int)) (2 * (i : Int) + 1 + (k : Int) / 16 % 7) Ans.zero]), ⟨hlt, by simp [hal], by show (acc ++ [_]) ++ _ = _; rw [List.append_assoc]; exact hF⟩, by show (l.take most).length - (i + 1) < (l.take most).length - i; omega, ?_⟩
            (refine Go2.sub ⟨?_, ?_, ?_⟩ <;> repeat' (first | exact True.intro | rfl | apply And.intro))
        · by_cases h8 : (k : Int) / 1024 % 8 = 0
          · rw [if_neg (fun h => h4 h.1), if_pos ⟨h4, h8⟩] at hF
            refine wSS ?_
            (apply Wb; (focus (exact o_bsll zero_Cal rfl rfl rfl rfl rfl rfl rfl rfl)); (focus (first | exact want_n | exact want_g rfl (by with_reducible rfl))))
            (apply Wb; (focus (exact o_app (f := Cal.av) (tk := 5) (xs := acc) (zs := [{ callC (o0) (2 * (i : Int)) (2 * (i : Int) + 1 + (k : Int) / 16 % 7) Ans.zero with ans := { Ans.zero with code := 3 } }]) rfl rfl rfl rfl rfl (by exact o_one Cal.av ({ callC (o0) (2 * (i : Int)) (2 * (i : Int) + 1 + (k : Int) / 16 % 7) Ans.zero with ans := { Ans.zero with code := 3 } }) rfl) (by simp; omega) (by simp; omega))); (focus (first | exact want_n | exact want_g rfl (by with_reducible rfl))))
            refine wSS ?_
            refine ⟨(i + 1, acc ++ [{ callC (o0) (2 * (i : Int)) (2 * (i : Int) + 1 + (k : Int) / 16 % 7) Ans.zero with ans := { Ans.zero with code := 3 } }]), ⟨hlt, by simp [hal], by show (acc ++ [_]) ++ _ = _; rw [List.append_assoc]; exact hF⟩, by show (l.take most).length - (i + 1) < (l.take most).length - i; omega, ?_⟩
            (refine Go2.sub ⟨?_, ?_, ?_⟩ <;> repeat' (first | exact True.intro | rfl | apply And.intro))
          · rw [if_neg (fun h => h4 h.1), if_neg (fun h => h8 h.2)] at hF
            refine wSS ?_
            (apply Wb; (focus (exact o_bsll zero_Cal rfl rfl rfl rfl rfl rfl rfl rfl)); (focus (first | exact want_n | exact want_g rfl (by with_reducible rfl))))
            (apply Wb; (focus (exact o_app (f := Cal.av) (tk := 5) (xs := acc) (zs := [callC (o0) (2 * (i : Int)) (2 * (i : Int) + 1 + (k : Int) / 16 % 7) Ans.zero]) rfl rfl rfl rfl rfl (by exact o_one Cal.av (callC (o0) (2 * (i : Int)) (2 * (i : Int) + 1 + (k : Int) / 16 % 7) Ans.zero) rfl) (by simp; omega) (by simp; omega))); (focus (first | exact want_n | exact want_g rfl (by with_reducible rfl))))
            refine wSS ?_
            refine ⟨(i + 1, acc ++ [callC (o0) (2 * (i : Int)) (2 * (i : Int) + 1 + (k : Int) / 16 % 7) Ans.zero]), ⟨hlt, by simp [hal], by show (acc ++ [_]) ++ _ = _; rw [List.append_assoc]; exact hF⟩, by show (l.take most).length - (i + 1) < (l.take most).length - i; omega, ?_⟩
            (refine Go2.sub ⟨?_, ?_, ?_⟩ <;> repeat' (first | exact True.intro | rfl | apply And.intro))
--END
    · have c2i : ¬ (i : Int) < (most : Nat) := by omega
      rw [← end_ (by omega)]
      refine wSS ?_
      exact fin ⟨res_sl rfl, trivial⟩
  · rw [← end_ (by omega)]
    refine wSS ?_
    exact fin ⟨res_sl rfl, trivial⟩
end Go.Proofs.Ytphojngdgmnpaaa

namespace Go.Proofs.Ytphojngdgmnpaaa
open Go Go.RowKit
set_option linter.unusedVariables false
set_option linter.unusedSimpArgs false
set_option maxRecDepth 100000
section
variable {E : Env} {nt : Nat} {ops : Array Oper} {T : Nat → Option AV} {H : Hp} {d : Option Nat} {ty : TypeId} {pos : String} {af : Array Edge} {gd : Option (Nat × Bool)}
theorem oi_len {x : Operand} {t e e' : TypeId} {es bytes : Nat} {ea : Bool} {g n len : Nat} {f : Int → AV} {xs : List (Int)} (hs : tabT.ti t = some (.sl e es bytes ea)) (hd : dOk nt d = true) (hx : evalO T x = some (.own g n len .row)) (hg : H g = some (.own e' n (xs.map f))) (hl : len = xs.length) :
    OpOK Try.prog E nt ops ⟨d, .call { callee := .builtin .len, args := #[x], argTypes := #[t] }, ty, pos, af, gd⟩ T H [g] ⟨.v (.int .i64 (len : Nat)), []⟩ := ok_len_own hs hd hx hg (by simpa using hl)
theorem oi_idx {x ix : Operand} {t e : TypeId} {es bytes : Nat} {ea : Bool} {g len : Nat} {f : Int → AV} {xs : List (Int)} {k : IntKind} {n : Int} {i : Nat} (hd : dOk nt d = true) (hs : tabT.ti t = some (.sl e es bytes ea)) (hx : evalO T x = some (.own g es len .row)) (hg : H g = some (.own e es (xs.map f))) (hi : evalO T ix = some (.v (.int k n))) (hn : natOf n = some i)
    (hl : len = xs.length) (hlt : i < len) : OpOK Try.prog E nt ops ⟨d, .indexAddr t x ix, ty, pos, af, gd⟩ T H [g] ⟨.own g es len (.at (i * es) [i]), []⟩ := by
  subst hl
  exact oo_idx hd hs hx hg hi hn hlt
theorem oi_ld {x : Operand} {t e : TypeId} {g len i : Nat} {f : Int → AV} {xs : List (Int)} (hd : dOk nt d = true) (hx : evalO T x = some (.own g 1 len (.at (i * 1) [i]))) (hg : H g = some (.own e 1 (xs.map f))) (hl : len = xs.length) (hlt : i < xs.length) (hs : tabT.sa t = some (isAggA (f xs[i]), 1)) (h1 : sizeA (f xs[i]) = 1) :
    OpOK Try.prog E nt ops ⟨d, .load t x, ty, pos, af, gd⟩ T H [g] ⟨f xs[i], []⟩ := by
  subst hl
  exact oo_load hd hx hg (by omega) (by simp [subA, hlt]) (by simp [offA]) (by rw [h1]; exact hs)
theorem oi_st {x y : Operand} {t e : TypeId} {g len i : Nat} {b : Int} {f : Int → AV} {xs : List (Int)} (hx : evalO T x = some (.own g 1 len (.at (i * 1) [i]))) (hy : evalO T y = some (f b)) (hg : H g = some (.own e 1 (xs.map f))) (hl : len = xs.length) (hlt : i < xs.length) (hs : tabT.sa t = some (isAggA (f b), 1)) (h1 : ∀ a, sizeA (f a) = 1) (hdt : dataA (f b) = true) (hnt : notTup (f b) = true) :
    OpOK Try.prog E nt ops ⟨none, .store t x y, ty, pos, af, gd⟩ T H [g] ⟨.tup [], [(g, .own e 1 ((xs.set i b).map f))]⟩ := by
  subst hl
  exact oo_store hx hy hg (by omega) (old := f xs[i]) (by simp [subA, hlt]) (by simp [offA]) (by simp [setA, hlt, hdt, List.map_set]) (by rw [h1]; exact hs) (by rw [h1, h1]) hnt
end
/-- the numbers ahead of a place, but each fifth, within 0 to 6 -/
def mx (j : Nat) (l : List Int) : List Int := (List.range l.length).map fun i => if i < j ∧ 0 < i % 5 then l.getD i 0 % 7 else l.getD i 0
@[simp] theorem mx_len (j : Nat) (l : List Int) : (mx j l).length = l.length := by simp [mx]
attribute [local irreducible] OpOK AWops AW CondB Go2 AFn thenA inBlockA noGotoA orderOk wantedA
end Go.Proofs.Ytphojngdgmnpaaa

namespace Go.Proofs.Ytphojngdgmnpaaa
open Go Go.RowKit
set_option linter.unusedVariables false
set_option linter.unusedSimpArgs false
set_option maxRecDepth 100000
section
variable {E : Env} {nt : Nat} {T : Nat → Option AV} {H : Hp}
end
def rowM (ops : List Int) (j : Nat) : List Int := (List.range j).map fun i => if i < ops.length then ops.getD i 0 else 3 + 4 * (i : Int)
@[simp] theorem rowM_len (ops : List Int) (j : Nat) : (rowM ops j).length = j := by simp [rowM]
attribute [local irreducible] OpOK AWops AW CondB Go2 AFn thenA inBlockA noGotoA orderOk wantedA
end Go.Proofs.Ytphojngdgmnpaaa

namespace Go.Proofs.Ytphojngdgmnpaaa
open Go Go.RowKit
set_option linter.unusedVariables false
set_option linter.unusedSimpArgs false
set_option maxRecDepth 100000
/-! ### the same search -/
/-! ### shifted -/
def shC (k cl : Int) (i : Nat) (c : Cal) : Cal := ⟨cl, -(i : Int), c.op, 3 * c.frm + k, 3 * c.to + k, c.ans⟩
def shL (k cl : Int) (l : List Cal) (j : Nat) : List Cal := (List.range l.length).map fun i => if i < j then shC k cl i (atC l i) else atC l i
@[simp] theorem shL_len (k cl : Int) (l : List Cal) (j : Nat) : (shL k cl l j).length = l.length := by simp [shL]
section
variable {E : Env} {nt : Nat} {ops : Array Oper} {T : Nat → Option AV} {H : Hp} {d : Option Nat} {ty : TypeId} {pos : String} {af : Array Edge} {gd : Option (Nat × Bool)}
end
attribute [local irreducible] OpOK AWops AW CondB Go2 AFn thenA inBlockA noGotoA orderOk wantedA
end Go.Proofs.Ytphojngdgmnpaaa

namespace Go.Proofs.Ytphojngdgmnpaaa
open Go Go.RowKit
set_option linter.unusedVariables false
set_option linter.unusedSimpArgs false
set_option maxRecDepth 100000
set_option linter.unusedSectionVars false
/-- an order that ends as soon as all that must be are done -/
def pth1 (l : List Cal) : List Bool → List Ent → List Nat → Bool
  | d, m, [] => ovr l d
  | d, m, i :: is => !ovr l d && (decide (i < l.length) && !dOf d i && rdy l i (dOf d) && (doC m (atC l i)).2) && pth1 l (d.set i true) (doC m (atC l i)).1 is
theorem fmL_sound1 {l : List Cal} {R : List Bool → List Ent → List Ky → Rs} {d : List Bool} {m : List Ent} (h0 : ovr l d = false)
    (hR : ∀ i m' T' s T'', R (d.set i true) m' T' = (some s, T'') → pth1 l (d.set i true) m' s = true) :
    ∀ (is : List Nat) (T : List Ky) (s : List Nat) (T' : List Ky), (∀ i ∈ is, i < l.length) → fmL l R d m is T = (some s, T') → pth1 l d m s = true
  | [], T, s, T', _, h => by simp [fmL] at h
  | i :: is, T, s, T', hi, h => by
    have ih := fun T0 => fmL_sound1 (m := m) h0 hR is T0 s T' (fun i h => hi i (by simp [h]))
    unfold fmL at h
    split at h
    · exact ih _ h
    · rename_i h1
      split at h
      · rename_i h2
        split at h
        · rename_i q T2 he
          injection h with h3 h4
          injection h3 with h3
          subst h3
          have hlt := hi i (by simp)
          have h5 : dOf d i = false ∧ rdy l i (dOf d) = true := by cases e1 : dOf d i <;> cases e2 : rdy l i (dOf d) <;> simp_all
          unfold pth1
          rw [h0, decide_eq_true hlt, h5.1, h5.2, h2, hR _ _ _ _ _ he]
          rfl
        · exact ih _ h
      · exact ih _ h
theorem fmB_sound1 {l : List Cal} {R : List Bool → List Ent → List Ky → Rs} {d : List Bool} {m : List Ent} {T : List Ky} {s : List Nat} {T' : List Ky}
    (hR : ∀ i m' T' s T'', R (d.set i true) m' T' = (some s, T'') → pth1 l (d.set i true) m' s = true) (h : fmB l R d m T = (some s, T')) : pth1 l d m s = true := by
  unfold fmB at h
  split at h
  · rename_i h1
    injection h with h2 _
    injection h2 with h2
    subst h2
    exact h1
  · rename_i h1
    split at h
    · injection h with h2 _; cases h2
    · exact fmL_sound1 (Bool.eq_false_iff.mpr h1) hR _ _ _ _ (fun i hi => List.mem_range.1 hi) h
theorem fm_sound1 {l : List Cal} : ∀ (f : Nat) (d : List Bool) (m : List Ent) (T : List Ky) (s : List Nat) (T' : List Ky), fm l f d m T = (some s, T') → pth1 l d m s = true
  | 0, d, m, T, s, T', h => fmB_sound1 (fun i m' T' s T'' h => by cases h) h
  | f + 1, d, m, T, s, T', h => fmB_sound1 (R := fm l f) (fun i m' T' s T'' h => fm_sound1 f _ _ _ _ _ h) h
theorem findC_some1 {l : List Cal} {s : List Nat} (h : findC l = some s) : pth1 l (inn []) [] s = true := by
  unfold findC at h
  split at h
  · cases h
  · rcases he : fm l 14 (inn []) [] [] with ⟨r, T'⟩
    rw [he] at h
    have h : r = some s := h
    subst h
    exact fm_sound1 14 _ _ _ _ _ he
theorem pth1_cons {l : List Cal} {d : List Bool} {m : List Ent} {i : Nat} {is : List Nat} (h : pth1 l d m (i :: is) = true) : ovr l d = false ∧ i < l.length ∧ dOf d i = false ∧ rdy l i (dOf d) = true ∧ (doC m (atC l i)).2 = true ∧ pth1 l (d.set i true) (doC m (atC l i)).1 is = true := by
  unfold pth1 at h
  simp only [Bool.and_eq_true, decide_eq_true_eq, Bool.not_eq_true'] at h
  obtain ⟨⟨h1, ⟨⟨⟨h2, h3⟩, h4⟩, h5⟩⟩, h6⟩ := h
  exact ⟨h1, h2, h3, h4, h5, h6⟩
/-! ### a put without an answer, a get -/
def txK : ByteArray := { data := #[107] }
def opPv (s : ByteArray) : Opn := ⟨1, txK, s, 0#64⟩
def opGk : Opn := ⟨4, txK, .empty, 0#64⟩
def pnd (s : ByteArray) (f : Int) (a : Ans) : List Cal := [callC (opPv s) f (-1) Ans.zero, callC opGk 3 4 a]
theorem doC_pend (m : List Ent) (o : Opn) (f : Int) (a : Ans) : doC m (callC o f (-1) a) = ((mdDo m o).1, true) := by
  unfold doC callC
  dsimp only
  rw [if_pos (by decide)]
theorem put_k (s : ByteArray) (hs : s.size ≤ 16) : mdDo [] (opPv s) = ([⟨(keyOf txK).1, (vlOf s).1⟩], ⟨0, false, Vl.zero⟩) := do_put0 txK s (by decide) hs
theorem doC_getk (V : Vl) (f t : Int) (ht : 0 ≤ t) (a : Ans) (hc : a.code = 0) : doC [⟨(keyOf txK).1, V⟩] (callC opGk f t a) = ([⟨(keyOf txK).1, V⟩], decide ((⟨0, true, V⟩ : Ans) = a)) := by
  unfold doC callC
  dsimp only
  rw [if_neg (by omega), if_neg (by rw [hc]; decide), if_neg (by rw [hc]; decide), show mdDo [⟨(keyOf txK).1, V⟩] opGk = ([⟨(keyOf txK).1, V⟩], ⟨0, true, V⟩) from do_get1 txK .empty V 0#64 (by decide)]
theorem get0_k : mdDo [] opGk = ([], ⟨0, false, Vl.zero⟩) := by
  unfold mdDo large
  rw [if_neg (by decide), if_pos (show opGk.kind = 4 from rfl)]
  rfl
theorem doC_getk0 (f t : Int) (ht : 0 ≤ t) (a : Ans) (hc : a.code = 0) : doC [] (callC opGk f t a) = ([], decide ((⟨0, false, Vl.zero⟩ : Ans) = a)) := by
  unfold doC callC
  dsimp only
  rw [if_neg (by omega), if_neg (by rw [hc]; decide), if_neg (by rw [hc]; decide), get0_k]
section
variable {s : ByteArray} (hs : s.size ≤ 16)
include hs
/-- begun behind the get that tells its value -/
theorem pnd_late (h : ∃ q, pth1 (pnd s 9 ⟨0, true, (vlOf s).1⟩) (inn []) [] q = true) : False := by
  obtain ⟨q, h⟩ := h
  match q with
  | [] => exact absurd (show false = true from h) (by decide)
  | 0 :: r => exact absurd (show false = true from (pth1_cons h).2.2.2.1) (by decide)
  | 1 :: r =>
    have h1 := (pth1_cons h).2.2.2.2.1
    rw [show atC (pnd s 9 ⟨0, true, (vlOf s).1⟩) 1 = callC opGk 3 4 ⟨0, true, (vlOf s).1⟩ from rfl, doC_getk0 3 4 (by decide) _ rfl] at h1
    dsimp only at h1
    have := of_decide_eq_true h1
    injection this with _ e _
    cases e
  | (k + 2) :: r => have := (pth1_cons h).2.1; have : k + 2 < 2 := this; omega
/-- a get that tells nothing -/
theorem pnd_none {f : Int} (hf : f = 0 ∨ f = 9) {q : List Nat} (h : pth1 (pnd s f Ans.zero) (inn []) [] q = true) : q = [1] := by
  match q with
  | [] => exact absurd (show false = true from h) (by decide)
  | 0 :: r =>
    have h1 := pth1_cons h
    rcases hf with rfl | rfl
    · have h2 := h1.2.2.2.2.2
      rw [show atC (pnd s 0 Ans.zero) 0 = callC (opPv s) 0 (-1) Ans.zero from rfl, doC_pend, put_k s hs] at h2
      match r with
      | [] => exact absurd (show false = true from h2) (by decide)
      | 0 :: r => exact absurd (show true = false from (pth1_cons h2).2.2.1) (by decide)
      | 1 :: r =>
        have h3 := (pth1_cons h2).2.2.2.2.1
        rw [show atC (pnd s 0 Ans.zero) 1 = callC opGk 3 4 Ans.zero from rfl, doC_getk _ 3 4 (by decide) _ rfl] at h3
        dsimp only at h3
        have := of_decide_eq_true h3
        injection this with _ e _
        cases e
      | (k + 2) :: r => have := (pth1_cons h2).2.1; have : k + 2 < 2 := this; omega
    · exact absurd (show false = true from h1.2.2.2.1) (by decide)
  | 1 :: r =>
    have h1 := (pth1_cons h).2.2.2.2.2
    match r with
    | [] => rfl
    | k :: r => exact absurd (show true = false from (pth1_cons h1).1) (by decide)
  | (k + 2) :: r => have := (pth1_cons h).2.1; have : k + 2 < 2 := this; omega
theorem pnd_none_is {f : Int} (hf : f = 0 ∨ f = 9) : findC (pnd s f Ans.zero) = some [1] := by
  have hp : pth (pnd s f Ans.zero) (inn []) [] [1] = true := by
    rw [pth_cons, show atC (pnd s f Ans.zero) 1 = callC opGk 3 4 Ans.zero from rfl, doC_getk0 3 4 (by decide) _ rfl]
    rcases hf with rfl | rfl <;> rfl
  obtain ⟨q, h1, _⟩ := findC_is (l := pnd s f Ans.zero) (show 2 ≤ 14 by decide) hp
  rw [h1, pnd_none hs hf (findC_some1 h1)]
/-- a get that tells its value -/
theorem pnd_seen {q : List Nat} (h : pth1 (pnd s 0 ⟨0, true, (vlOf s).1⟩) (inn []) [] q = true) : q = [0, 1] := by
  match q with
  | [] => exact absurd (show false = true from h) (by decide)
  | 0 :: r =>
    have h2 := (pth1_cons h).2.2.2.2.2
    rw [show atC (pnd s 0 ⟨0, true, (vlOf s).1⟩) 0 = callC (opPv s) 0 (-1) Ans.zero from rfl, doC_pend, put_k s hs] at h2
    match r with
    | [] => exact absurd (show false = true from h2) (by decide)
    | 0 :: r => exact absurd (show true = false from (pth1_cons h2).2.2.1) (by decide)
    | 1 :: r =>
      have h3 := (pth1_cons h2).2.2.2.2.2
      match r with
      | [] => rfl
      | k :: r => exact absurd (show true = false from (pth1_cons h3).1) (by decide)
    | (k + 2) :: r => have := (pth1_cons h2).2.1; have : k + 2 < 2 := this; omega
  | 1 :: r =>
    have h1 := (pth1_cons h).2.2.2.2.1
    rw [show atC (pnd s 0 ⟨0, true, (vlOf s).1⟩) 1 = callC opGk 3 4 ⟨0, true, (vlOf s).1⟩ from rfl, doC_getk0 3 4 (by decide) _ rfl] at h1
    dsimp only at h1
    have := of_decide_eq_true h1
    injection this with _ e _
    cases e
  | (k + 2) :: r => have := (pth1_cons h).2.1; have : k + 2 < 2 := this; omega
theorem pnd_seen_is : findC (pnd s 0 ⟨0, true, (vlOf s).1⟩) = some [0, 1] := by
  have hp : pth (pnd s 0 ⟨0, true, (vlOf s).1⟩) (inn []) [] [0, 1] = true := by
    rw [pth_cons, show atC (pnd s 0 ⟨0, true, (vlOf s).1⟩) 0 = callC (opPv s) 0 (-1) Ans.zero from rfl, doC_pend, put_k s hs, pth_cons, show atC (pnd s 0 ⟨0, true, (vlOf s).1⟩) 1 = callC opGk 3 4 ⟨0, true, (vlOf s).1⟩ from rfl, doC_getk _ 3 4 (by decide) _ rfl, decide_eq_true rfl]
    rfl
  obtain ⟨q, h1, _⟩ := findC_is (l := pnd s 0 ⟨0, true, (vlOf s).1⟩) (show 2 ≤ 14 by decide) hp
  rw [h1, pnd_seen hs (findC_some1 h1)]
theorem pnd_late_is : findC (pnd s 9 ⟨0, true, (vlOf s).1⟩) = none := by
  cases h : findC (pnd s 9 ⟨0, true, (vlOf s).1⟩) with
  | none => rfl
  | some q => exact (pnd_late hs ⟨q, findC_some1 h⟩).elim
end
theorem vl_text (l : List (BitVec 8)) (h : l.length ≤ 16) : (vlOf (bytesOf l)).1 = mkVl l ∧ (bytesOf l).size ≤ 16 := by
  have hs : (bytesOf l).size = l.length := by
    have := congrArg List.length (bits_bytes l)
    unfold bitsOf at this
    rw [List.length_map] at this
    exact this
  unfold vlOf
  rw [if_pos (by omega), bits_bytes]
  exact ⟨rfl, by omega⟩
section
variable {E : Env} {nt : Nat} {ops : Array Oper} {T : Nat → Option AV} {H : Hp} {d : Option Nat} {ty : TypeId} {pos : String} {af : Array Edge} {gd : Option (Nat × Bool)}
theorem ob_cutfh {t e : TypeId} {tn len : Nat} {ea : Bool} {x hi : Operand} {g off m : Nat} {p : List Nat} {y : AV} {k : IntKind} {n : Int} {f : BitVec 8 → AV} {xs : List (BitVec 8)} (hd : dOk nt d = true) (hs : tabT.ti t = some (.arr tn (len + 1) 1 ea e)) (hx : evalO T x = some (.ptr g off p)) (hg : H g = some (.froz y)) (hp : subA p y = some (.arr m 1 (xs.map f))) (ho : offA p y = off)
    (hhi : evalO T hi = some (.v (.int k n))) (hn : 0 ≤ n ∧ n ≤ (len : Int) + 1) (hxl : xs.length = len + 1) (hl : len < 9223372036854775807) :
    OpOK Try.prog E nt ops ⟨d, .slice t x none (some hi) none, ty, pos, af, gd⟩ T H [g] ⟨.sl none 1 ((xs.take n.toNat).map f), []⟩ := by
  have := ok_cut_arrf tabT (E := E) (ops := ops) (H := H) (ty := ty) (pos := pos) (af := af) (gd := gd) (hi := some hi) (h := n.toNat) hd hs hx hg hp ho (bnd_int _ hhi (by omega)) (by omega) (by simpa using hxl) hl
  rwa [← List.map_take] at this
end
theorem vl_take (l : List (BitVec 8)) (h : l.length ≤ 16) : (mkVl l).b.toList.take (mkVl l).n.toNat = l := by
  have h1 : (mkVl l).n.toNat = l.length := by unfold mkVl; exact Int.toNat_natCast _
  rw [h1]
  apply List.ext_getElem
  · rw [List.length_take]; simp; omega
  · intro i h2 h3
    rw [List.getElem_take, Vector.getElem_toList]
    unfold mkVl
    dsimp only
    rw [padded_get _ _ _ (by omega), List.getD_eq_getElem?_getD, List.getElem?_eq_getElem h3]; rfl
attribute [local irreducible] OpOK AWops AW CondB Go2 AFn thenA inBlockA noGotoA orderOk wantedA
set_option maxRecDepth 100000 in
set_option maxHeartbeats 8000000 in
theorem a_lpends (v : Int) (hv : -9223372036854775808 ≤ v ∧ v ≤ 9223372036854775807) (seen late : Bool) :
    AFn Try.prog 6 [intA v, boolA seen, boolA late] (boolA true) := by
  have cv := a_lval v hv
  obtain ⟨l, hlen, hV⟩ : ∃ l : List (BitVec 8), l.length ≤ 16 ∧ lawVl v = mkVl l := ⟨vText (v % 1099511627776).toNat, by rw [vText_len]; omega, rfl⟩
  obtain ⟨ht1, ht2⟩ := vl_text l hlen
  have htk := vl_take l hlen
  have hn0 : 0 ≤ (mkVl l).n ∧ (mkVl l).n ≤ 15 + 1 := by unfold mkVl; dsimp only; omega
  have hbl : (mkVl l).b.toList.length = 15 + 1 := by simp
  rw [hV] at cv
  rw [← ht1] at cv htk hn0 hbl
  have k1 := a_call25 (opPv (bytesOf l)) 0 (-1) Ans.zero
  have k2 := a_call25 opGk 3 4 Ans.zero
  refine AFn_intro Try.func6 rfl Try.ntmps6 rfl (by simp) [_] rfl fun E hE => ?_
  have hnt : (!true) = false := rfl
  have hnf : (!false) = true := rfl
  have d1 := acall Try.func21 (cv) (by decide +kernel) (by decide +kernel)
  have d2 := acall Try.func22 (k1) (by decide +kernel) (by decide +kernel)
  have d3 := acall Try.func22 (k2) (by decide +kernel) (by decide +kernel)
  have d6 := acall Try.func12 (a_awake25) (by decide +kernel) (by decide +kernel)
  cases seen
  · have f0 := a_find (pnd (bytesOf l) 0 Ans.zero)
    have f9 := a_find (pnd (bytesOf l) 9 Ans.zero)
    rw [pnd_none_is ht2 (.inl rfl)] at f0
    rw [pnd_none_is ht2 (.inr rfl)] at f9
    have f0' : AFn Try.prog 13 [.sl none 27 ((pnd (bytesOf l) 0 Ans.zero).map Cal.av)] (.tup [.sl none 1 [intA 1], .v (.bool true)]) := f0
    have f9' : AFn Try.prog 13 [.sl none 27 ((pnd (bytesOf l) 9 Ans.zero).map Cal.av)] (.tup [.sl none 1 [intA 1], .v (.bool true)]) := f9
    cases late
    · have d4 := acall Try.func13 (f0') (by decide +kernel) (by decide +kernel)
      repeat (first | (refine AW_go (S' := ⟨[(1, boolA false), (2, boolA false), (7, .ptr 7 0 [])], [(7, .var ((vlOf (bytesOf l)).1).av)]⟩) ?_ ?_; (focus ((refine Go2.sub ⟨?_, ?_, ?_⟩ <;> repeat' (first | exact True.intro | rfl | apply And.intro)); done)); refine AW_go (Go2.froz hE 7 rfl) ?_) | (apply Wv; (focus (exact ob_cutfh (f := byteA) (xs := (vlOf (bytesOf l)).1.b.toList) rfl rfl rfl rfl rfl rfl rfl hn0 hbl (by decide))); (focus (first | exact want_n | exact want_g rfl (by with_reducible rfl)))) | (apply Wv; (focus (exact o_convs Try.underlying33 Try.underlying5 Try.underlying9 rfl rfl)); (focus (first | exact want_n | exact want_g rfl (by with_reducible rfl))); rw [htk]) | (apply Wb; (focus (exact o_bsll zero_Cal rfl rfl rfl rfl rfl rfl rfl rfl)); (focus (first | exact want_n | exact want_g rfl (by with_reducible rfl)))) | (first | (first | refine Wend _ ?_ | refine AW_seq ?_ | refine AW_reg ?_ | refine AW_drw mixed ?_ | refine AW_block ?_ | refine AW_scope ?_ | refine thenA_n ?_ | refine blockA_n ?_ | refine blockA_h ?_ | refine scopeA_n ?_ | refine thenA_r ?_ | refine blockA_r ?_ | refine scopeA_r ?_ | refine thenA_e ?_ | refine scopeA_e ?_ | refine blockA_e rfl ?_ | refine AW_exit ?_ | refine AW_ret ?_ | refine AW_skip ?_ | refine AW_c rfl ?_ | with_reducible refine cb_t ?_ | with_reducible refine cb_f ?_ | with_reducible refine cb_yes (by first | assumption | omega) ?_ | with_reducible refine cb_no (by first | assumption | omega) ?_ | refine And.intro (by decide +kernel) ?_) | (first | (apply Wb; (focus (first | exact o_bsl0O rfl rfl rfl | exact oo_app0 rfl rfl rfl rfl rfl (by first | exact o_many rfl | exact o_one _ _ rfl | exact o_zero rfl) (by first | omega | (simp; omega) | (simp; done)) (by first | omega | (simp; omega) | (simp; done)))); (focus (first | exact want_n | exact want_g rfl (by with_reducible rfl)))) | (apply Wv; (focus (first | exact oi_len rfl rfl rfl rfl (by first | rfl | assumption | omega | (simp; done) | (simp; omega)) | exact oi_idx rfl rfl rfl rfl rfl rfl (by first | rfl | assumption | omega | (simp; done) | (simp; omega)) (by first | rfl | assumption | omega | (simp; done) | (simp; omega)) | exact oi_ld rfl rfl rfl (by first | rfl | assumption | omega | (simp; done) | (simp; omega)) (by first | rfl | assumption | omega | (simp; done) | (simp; omega)) rfl rfl)); (focus (first | exact want_n | exact want_g rfl (by with_reducible rfl)))) | (apply Ws; (focus (exact oi_st (f := intA) rfl rfl rfl (by first | rfl | assumption | omega | (simp; done) | (simp; omega)) (by first | rfl | assumption | omega | (simp; done) | (simp; omega)) rfl (fun _ => rfl) rfl rfl)); (focus (first | exact want_n | exact want_g rfl (by with_reducible rfl)))) | (first | (apply Wv; (focus (first | exact step_ok rfl rfl | exact o_idx rfl rfl rfl rfl (by first | assumption | omega | decide) | exact o_idx3 rfl rfl rfl rfl (by first | assumption | omega | decide) | exact o_idx2 rfl rfl rfl rfl rfl (by first | assumption | omega | decide) | exact o_idxr rfl rfl rfl rfl rfl rfl | exact o_lenm rfl rfl rfl | exact o_len rfl rfl rfl | exact o_len0 rfl rfl rfl | exact o_lens rfl rfl rfl | exact o_lent rfl rfl | exact o_add1 rfl rfl rfl (by omega) | exact o_addn rfl rfl rfl (by omega) | exact o_add rfl rfl rfl (by omega) | exact o_sub1 rfl rfl rfl (by omega) | exact o_sub rfl rfl rfl (by omega) | exact o_mul rfl rfl rfl (by omega) | exact o_rem rfl rfl rfl (by omega) | exact ok_rem rfl rfl rfl (by decide) rfl | exact o_eqKey rfl rfl rfl | exact o_neKey rfl rfl rfl | exact o_eqVl rfl rfl rfl | exact o_neVl rfl rfl rfl | exact o_eqEnt rfl rfl rfl | exact o_neEnt rfl rfl rfl | exact o_eqMsg rfl rfl rfl | exact o_neMsg rfl rfl rfl | exact o_acall rfl rfl rfl rfl (by assumption) | exact o_minn rfl rfl rfl | exact o_cutl rfl rfl rfl rfl (by omega) | exact o_cuth rfl rfl rfl rfl (by omega) | exact o_cutl3 rfl rfl rfl rfl (by omega) | exact o_cuth3 rfl rfl rfl rfl (by omega) | exact o_cutl2 rfl rfl rfl rfl rfl (by omega) | exact o_cuth2 rfl rfl rfl rfl rfl (by omega) | exact o_cutlh2 rfl rfl rfl rfl rfl rfl rfl (by omega) (by omega) | exact o_bld zero_Opn rfl rfl rfl rfl rfl rfl rfl | exact o_bld zero_Cal rfl rfl rfl rfl rfl rfl rfl | exact o_bld zero_state rfl rfl rfl rfl rfl rfl rfl | exact o_bld zero_search rfl rfl rfl rfl rfl rfl rfl | exact o_nilcr rfl rfl | exact o_nilcp rfl rfl | exact o_eqbar rfl rfl rfl (by simp) (by simp) | exact o_ldbar rfl rfl (by simp) rfl (by first | omega | (simp; omega)) rfl | exact o_idxpn rfl rfl rfl rfl (by omega) | exact o_idxvn rfl rfl rfl rfl (by omega) (by assumption) rfl | exact o_idxrn rfl rfl rfl rfl (by omega) (by assumption) | exact o_cutarr rfl rfl rfl rfl | exact o_mkfn rfl rfl rfl | exact o_callv rfl rfl rfl rfl rfl rfl (by assumption) | exact o_bld zero_Ans rfl rfl rfl rfl rfl rfl rfl | exact o_eqAns rfl rfl rfl | exact o_neAns rfl rfl rfl | exact e_bld rfl rfl rfl | exact e_bldk rfl rfl | exact z_bld0 rfl rfl rfl rfl rfl | exact z_bld rfl rfl rfl rfl rfl rfl rfl | exact o_addu rfl rfl rfl | exact z_blda rfl rfl rfl rfl rfl rfl rfl rfl rfl | exact o_idxa rfl rfl rfl rfl rfl rfl | exact o_idxra rfl rfl rfl rfl rfl rfl rfl | exact o_quo2 rfl rfl rfl (by omega) | exact o_quo rfl rfl rfl (by omega))); (focus (first | exact want_n | exact want_g rfl (by with_reducible rfl)))) | (apply Wb; (focus (first | exact o_box rfl rfl rfl rfl | exact o_app rfl rfl rfl rfl rfl (by first | exact o_many rfl | exact o_one _ _ rfl) (by first | omega | (simp; omega) | simp) (by first | omega | (simp; omega) | simp) | exact o_appn rfl rfl rfl rfl rfl (by first | exact o_many rfl | exact o_one _ _ rfl) (by first | omega | (simp; omega) | simp) (by first | omega | (simp; omega) | simp) | exact o_app1 rfl rfl rfl rfl rfl (by first | exact o_many rfl | exact o_one _ _ rfl) (by exact rfl) (by first | omega | (simp; omega) | simp) (by first | omega | (simp; omega) | simp) | exact o_app0 rfl rfl rfl rfl rfl (by first | exact o_many rfl | exact o_one _ _ rfl) (by first | omega | (simp; omega) | simp) (by first | omega | (simp; omega) | simp) | exact o_bsl0 rfl rfl rfl | exact z_bsll rfl rfl rfl rfl rfl rfl rfl rfl rfl | exact z_alloc rfl rfl rfl | exact o_alloc zero_Opn rfl rfl | exact o_alloc zero_Cal rfl rfl | exact o_alloc zero_state rfl rfl | exact o_alloc zero_b14 rfl rfl | exact o_cpents rfl rfl rfl rfl rfl rfl (by omega) | exact o_alloc zero_Ans rfl rfl | exact o_bsll zero_Ans rfl rfl rfl rfl rfl rfl rfl rfl | exact o_bsll zero_Opn rfl rfl rfl rfl rfl rfl rfl rfl)); (focus (first | exact want_n | exact want_g rfl (by with_reducible rfl)))) | (apply Ws; (focus (first | exact o_stin rfl (by simp) rfl rfl (by first | omega | (simp; omega)) rfl | exact o_stbar rfl (by simp) rfl rfl (by first | omega | (simp; omega)) rfl | exact ok_store tabT (d := none) rfl rfl rfl rfl rfl rfl rfl rfl rfl rfl)); (focus (first | exact want_n | exact want_g rfl (by with_reducible rfl)))) | (refine Wskip (by first | exact want_f rfl (by with_reducible exact b_nt) | exact want_f rfl (by with_reducible exact b_nf) | exact want_t rfl) rfl ?_) | refine Wgt rfl rfl (by first | assumption | omega | exact rfl) ?_ | refine Wgf rfl rfl (by first | assumption | omega | exact rfl) ?_ | (refine Wgb rfl rfl (by with_reducible assumption) ?_) | (refine cb_is _ (by assumption) ?_)))))
      exact fin ⟨res_of rfl rfl rfl, trivial⟩
    · have d4 := acall Try.func13 (f9') (by decide +kernel) (by decide +kernel)
      repeat (first | (refine AW_go (S' := ⟨[(1, boolA false), (2, boolA true), (7, .ptr 7 0 [])], [(7, .var ((vlOf (bytesOf l)).1).av)]⟩) ?_ ?_; (focus ((refine Go2.sub ⟨?_, ?_, ?_⟩ <;> repeat' (first | exact True.intro | rfl | apply And.intro)); done)); refine AW_go (Go2.froz hE 7 rfl) ?_) | (apply Wv; (focus (exact ob_cutfh (f := byteA) (xs := (vlOf (bytesOf l)).1.b.toList) rfl rfl rfl rfl rfl rfl rfl hn0 hbl (by decide))); (focus (first | exact want_n | exact want_g rfl (by with_reducible rfl)))) | (apply Wv; (focus (exact o_convs Try.underlying33 Try.underlying5 Try.underlying9 rfl rfl)); (focus (first | exact want_n | exact want_g rfl (by with_reducible rfl))); rw [htk]) | (apply Wb; (focus (exact o_bsll zero_Cal rfl rfl rfl rfl rfl rfl rfl rfl)); (focus (first | exact want_n | exact want_g rfl (by with_reducible rfl)))) | (first | (first | refine Wend _ ?_ | refine AW_seq ?_ | refine AW_reg ?_ | refine AW_drw mixed ?_ | refine AW_block ?_ | refine AW_scope ?_ | refine thenA_n ?_ | refine blockA_n ?_ | refine blockA_h ?_ | refine scopeA_n ?_ | refine thenA_r ?_ | refine blockA_r ?_ | refine scopeA_r ?_ | refine thenA_e ?_ | refine scopeA_e ?_ | refine blockA_e rfl ?_ | refine AW_exit ?_ | refine AW_ret ?_ | refine AW_skip ?_ | refine AW_c rfl ?_ | with_reducible refine cb_t ?_ | with_reducible refine cb_f ?_ | with_reducible refine cb_yes (by first | assumption | omega) ?_ | with_reducible refine cb_no (by first | assumption | omega) ?_ | refine And.intro (by decide +kernel) ?_) | (first | (apply Wb; (focus (first | exact o_bsl0O rfl rfl rfl | exact oo_app0 rfl rfl rfl rfl rfl (by first | exact o_many rfl | exact o_one _ _ rfl | exact o_zero rfl) (by first | omega | (simp; omega) | (simp; done)) (by first | omega | (simp; omega) | (simp; done)))); (focus (first | exact want_n | exact want_g rfl (by with_reducible rfl)))) | (apply Wv; (focus (first | exact oi_len rfl rfl rfl rfl (by first | rfl | assumption | omega | (simp; done) | (simp; omega)) | exact oi_idx rfl rfl rfl rfl rfl rfl (by first | rfl | assumption | omega | (simp; done) | (simp; omega)) (by first | rfl | assumption | omega | (simp; done) | (simp; omega)) | exact oi_ld rfl rfl rfl (by first | rfl | assumption | omega | (simp; done) | (simp; omega)) (by first | rfl | assumption | omega | (simp; done) | (simp; omega)) rfl rfl)); (focus (first | exact want_n | exact want_g rfl (by with_reducible rfl)))) | (apply Ws; (focus (exact oi_st (f := intA) rfl rfl rfl (by first | rfl | assumption | omega | (simp; done) | (simp; omega)) (by first | rfl | assumption | omega | (simp; done) | (simp; omega)) rfl (fun _ => rfl) rfl rfl)); (focus (first | exact want_n | exact want_g rfl (by with_reducible rfl)))) | (first | (apply Wv; (focus (first | exact step_ok rfl rfl | exact o_idx rfl rfl rfl rfl (by first | assumption | omega | decide) | exact o_idx3 rfl rfl rfl rfl (by first | assumption | omega | decide) | exact o_idx2 rfl rfl rfl rfl rfl (by first | assumption | omega | decide) | exact o_idxr rfl rfl rfl rfl rfl rfl | exact o_lenm rfl rfl rfl | exact o_len rfl rfl rfl | exact o_len0 rfl rfl rfl | exact o_lens rfl rfl rfl | exact o_lent rfl rfl | exact o_add1 rfl rfl rfl (by omega) | exact o_addn rfl rfl rfl (by omega) | exact o_add rfl rfl rfl (by omega) | exact o_sub1 rfl rfl rfl (by omega) | exact o_sub rfl rfl rfl (by omega) | exact o_mul rfl rfl rfl (by omega) | exact o_rem rfl rfl rfl (by omega) | exact ok_rem rfl rfl rfl (by decide) rfl | exact o_eqKey rfl rfl rfl | exact o_neKey rfl rfl rfl | exact o_eqVl rfl rfl rfl | exact o_neVl rfl rfl rfl | exact o_eqEnt rfl rfl rfl | exact o_neEnt rfl rfl rfl | exact o_eqMsg rfl rfl rfl | exact o_neMsg rfl rfl rfl | exact o_acall rfl rfl rfl rfl (by assumption) | exact o_minn rfl rfl rfl | exact o_cutl rfl rfl rfl rfl (by omega) | exact o_cuth rfl rfl rfl rfl (by omega) | exact o_cutl3 rfl rfl rfl rfl (by omega) | exact o_cuth3 rfl rfl rfl rfl (by omega) | exact o_cutl2 rfl rfl rfl rfl rfl (by omega) | exact o_cuth2 rfl rfl rfl rfl rfl (by omega) | exact o_cutlh2 rfl rfl rfl rfl rfl rfl rfl (by omega) (by omega) | exact o_bld zero_Opn rfl rfl rfl rfl rfl rfl rfl | exact o_bld zero_Cal rfl rfl rfl rfl rfl rfl rfl | exact o_bld zero_state rfl rfl rfl rfl rfl rfl rfl | exact o_bld zero_search rfl rfl rfl rfl rfl rfl rfl | exact o_nilcr rfl rfl | exact o_nilcp rfl rfl | exact o_eqbar rfl rfl rfl (by simp) (by simp) | exact o_ldbar rfl rfl (by simp) rfl (by first | omega | (simp; omega)) rfl | exact o_idxpn rfl rfl rfl rfl (by omega) | exact o_idxvn rfl rfl rfl rfl (by omega) (by assumption) rfl | exact o_idxrn rfl rfl rfl rfl (by omega) (by assumption) | exact o_cutarr rfl rfl rfl rfl | exact o_mkfn rfl rfl rfl | exact o_callv rfl rfl rfl rfl rfl rfl (by assumption) | exact o_bld zero_Ans rfl rfl rfl rfl rfl rfl rfl | exact o_eqAns rfl rfl rfl | exact o_neAns rfl rfl rfl | exact e_bld rfl rfl rfl | exact e_bldk rfl rfl | exact z_bld0 rfl rfl rfl rfl rfl | exact z_bld rfl rfl rfl rfl rfl rfl rfl | exact o_addu rfl rfl rfl | exact z_blda rfl rfl rfl rfl rfl rfl rfl rfl rfl | exact o_idxa rfl rfl rfl rfl rfl rfl | exact o_idxra rfl rfl rfl rfl rfl rfl rfl | exact o_quo2 rfl rfl rfl (by omega) | exact o_quo rfl rfl rfl (by omega))); (focus (first | exact want_n | exact want_g rfl (by with_reducible rfl)))) | (apply Wb; (focus (first | exact o_box rfl rfl rfl rfl | exact o_app rfl rfl rfl rfl rfl (by first | exact o_many rfl | exact o_one _ _ rfl) (by first | omega | (simp; omega) | simp) (by first | omega | (simp; omega) | simp) | exact o_appn rfl rfl rfl rfl rfl (by first | exact o_many rfl | exact o_one _ _ rfl) (by first | omega | (simp; omega) | simp) (by first | omega | (simp; omega) | simp) | exact o_app1 rfl rfl rfl rfl rfl (by first | exact o_many rfl | exact o_one _ _ rfl) (by exact rfl) (by first | omega | (simp; omega) | simp) (by first | omega | (simp; omega) | simp) | exact o_app0 rfl rfl rfl rfl rfl (by first | exact o_many rfl | exact o_one _ _ rfl) (by first | omega | (simp; omega) | simp) (by first | omega | (simp; omega) | simp) | exact o_bsl0 rfl rfl rfl | exact z_bsll rfl rfl rfl rfl rfl rfl rfl rfl rfl | exact z_alloc rfl rfl rfl | exact o_alloc zero_Opn rfl rfl | exact o_alloc zero_Cal rfl rfl | exact o_alloc zero_state rfl rfl | exact o_alloc zero_b14 rfl rfl | exact o_cpents rfl rfl rfl rfl rfl rfl (by omega) | exact o_alloc zero_Ans rfl rfl | exact o_bsll zero_Ans rfl rfl rfl rfl rfl rfl rfl rfl | exact o_bsll zero_Opn rfl rfl rfl rfl rfl rfl rfl rfl)); (focus (first | exact want_n | exact want_g rfl (by with_reducible rfl)))) | (apply Ws; (focus (first | exact o_stin rfl (by simp) rfl rfl (by first | omega | (simp; omega)) rfl | exact o_stbar rfl (by simp) rfl rfl (by first | omega | (simp; omega)) rfl | exact ok_store tabT (d := none) rfl rfl rfl rfl rfl rfl rfl rfl rfl rfl)); (focus (first | exact want_n | exact want_g rfl (by with_reducible rfl)))) | (refine Wskip (by first | exact want_f rfl (by with_reducible exact b_nt) | exact want_f rfl (by with_reducible exact b_nf) | exact want_t rfl) rfl ?_) | refine Wgt rfl rfl (by first | assumption | omega | exact rfl) ?_ | refine Wgf rfl rfl (by first | assumption | omega | exact rfl) ?_ | (refine Wgb rfl rfl (by with_reducible assumption) ?_) | (refine cb_is _ (by assumption) ?_)))))
      exact fin ⟨res_of rfl rfl rfl, trivial⟩
  · have f0 := a_find (pnd (bytesOf l) 0 ⟨0, true, (vlOf (bytesOf l)).1⟩)
    have f9 := a_find (pnd (bytesOf l) 9 ⟨0, true, (vlOf (bytesOf l)).1⟩)
    rw [pnd_seen_is ht2] at f0
    rw [pnd_late_is ht2] at f9
    have f0' : AFn Try.prog 13 [.sl none 27 ((pnd (bytesOf l) 0 ⟨0, true, (vlOf (bytesOf l)).1⟩).map Cal.av)] (.tup [.sl none 1 [intA 0, intA 1], .v (.bool true)]) := f0
    have f9' : AFn Try.prog 13 [.sl none 27 ((pnd (bytesOf l) 9 ⟨0, true, (vlOf (bytesOf l)).1⟩).map Cal.av)] (.tup [.sl none 1 [], .v (.bool false)]) := f9
    cases late
    · have d4 := acall Try.func13 (f0') (by decide +kernel) (by decide +kernel)
      repeat (first | (refine AW_go (S' := ⟨[(1, boolA true), (2, boolA false), (7, .ptr 7 0 [])], [(7, .var ((vlOf (bytesOf l)).1).av)]⟩) ?_ ?_; (focus ((refine Go2.sub ⟨?_, ?_, ?_⟩ <;> repeat' (first | exact True.intro | rfl | apply And.intro)); done)); refine AW_go (Go2.froz hE 7 rfl) ?_) | (apply Wv; (focus (exact ob_cutfh (f := byteA) (xs := (vlOf (bytesOf l)).1.b.toList) rfl rfl rfl rfl rfl rfl rfl hn0 hbl (by decide))); (focus (first | exact want_n | exact want_g rfl (by with_reducible rfl)))) | (apply Wv; (focus (exact o_convs Try.underlying33 Try.underlying5 Try.underlying9 rfl rfl)); (focus (first | exact want_n | exact want_g rfl (by with_reducible rfl))); rw [htk]) | (apply Wb; (focus (exact o_bsll zero_Cal rfl rfl rfl rfl rfl rfl rfl rfl)); (focus (first | exact want_n | exact want_g rfl (by with_reducible rfl)))) | (first | (first | refine Wend _ ?_ | refine AW_seq ?_ | refine AW_reg ?_ | refine AW_drw mixed ?_ | refine AW_block ?_ | refine AW_scope ?_ | refine thenA_n ?_ | refine blockA_n ?_ | refine blockA_h ?_ | refine scopeA_n ?_ | refine thenA_r ?_ | refine blockA_r ?_ | refine scopeA_r ?_ | refine thenA_e ?_ | refine scopeA_e ?_ | refine blockA_e rfl ?_ | refine AW_exit ?_ | refine AW_ret ?_ | refine AW_skip ?_ | refine AW_c rfl ?_ | with_reducible refine cb_t ?_ | with_reducible refine cb_f ?_ | with_reducible refine cb_yes (by first | assumption | omega) ?_ | with_reducible refine cb_no (by first | assumption | omega) ?_ | refine And.intro (by decide +kernel) ?_) | (first | (apply Wb; (focus (first | exact o_bsl0O rfl rfl rfl | exact oo_app0 rfl rfl rfl rfl rfl (by first | exact o_many rfl | exact o_one _ _ rfl | exact o_zero rfl) (by first | omega | (simp; omega) | (simp; done)) (by first | omega | (simp; omega) | (simp; done)))); (focus (first | exact want_n | exact want_g rfl (by with_reducible rfl)))) | (apply Wv; (focus (first | exact oi_len rfl rfl rfl rfl (by first | rfl | assumption | omega | (simp; done) | (simp; omega)) | exact oi_idx rfl rfl rfl rfl rfl rfl (by first | rfl | assumption | omega | (simp; done) | (simp; omega)) (by first | rfl | assumption | omega | (simp; done) | (simp; omega)) | exact oi_ld rfl rfl rfl (by first | rfl | assumption | omega | (simp; done) | (simp; omega)) (by first | rfl | assumption | omega | (simp; done) | (simp; omega)) rfl rfl)); (focus (first | exact want_n | exact want_g rfl (by with_reducible rfl)))) | (apply Ws; (focus (exact oi_st (f := intA) rfl rfl rfl (by first | rfl | assumption | omega | (simp; done) | (simp; omega)) (by first | rfl | assumption | omega | (simp; done) | (simp; omega)) rfl (fun _ => rfl) rfl rfl)); (focus (first | exact want_n | exact want_g rfl (by with_reducible rfl)))) | (first | (apply Wv; (focus (first | exact step_ok rfl rfl | exact o_idx rfl rfl rfl rfl (by first | assumption | omega | decide) | exact o_idx3 rfl rfl rfl rfl (by first | assumption | omega | decide) | exact o_idx2 rfl rfl rfl rfl rfl (by first | assumption | omega | decide) | exact o_idxr rfl rfl rfl rfl rfl rfl | exact o_lenm rfl rfl rfl | exact o_len rfl rfl rfl | exact o_len0 rfl rfl rfl | exact o_lens rfl rfl rfl | exact o_lent rfl rfl | exact o_add1 rfl rfl rfl (by omega) | exact o_addn rfl rfl rfl (by omega) | exact o_add rfl rfl rfl (by omega) | exact o_sub1 rfl rfl rfl (by omega) | exact o_sub rfl rfl rfl (by omega) | exact o_mul rfl rfl rfl (by omega) | exact o_rem rfl rfl rfl (by omega) | exact ok_rem rfl rfl rfl (by decide) rfl | exact o_eqKey rfl rfl rfl | exact o_neKey rfl rfl rfl | exact o_eqVl rfl rfl rfl | exact o_neVl rfl rfl rfl | exact o_eqEnt rfl rfl rfl | exact o_neEnt rfl rfl rfl | exact o_eqMsg rfl rfl rfl | exact o_neMsg rfl rfl rfl | exact o_acall rfl rfl rfl rfl (by assumption) | exact o_minn rfl rfl rfl | exact o_cutl rfl rfl rfl rfl (by omega) | exact o_cuth rfl rfl rfl rfl (by omega) | exact o_cutl3 rfl rfl rfl rfl (by omega) | exact o_cuth3 rfl rfl rfl rfl (by omega) | exact o_cutl2 rfl rfl rfl rfl rfl (by omega) | exact o_cuth2 rfl rfl rfl rfl rfl (by omega) | exact o_cutlh2 rfl rfl rfl rfl rfl rfl rfl (by omega) (by omega) | exact o_bld zero_Opn rfl rfl rfl rfl rfl rfl rfl | exact o_bld zero_Cal rfl rfl rfl rfl rfl rfl rfl | exact o_bld zero_state rfl rfl rfl rfl rfl rfl rfl | exact o_bld zero_search rfl rfl rfl rfl rfl rfl rfl | exact o_nilcr rfl rfl | exact o_nilcp rfl rfl | exact o_eqbar rfl rfl rfl (by simp) (by simp) | exact o_ldbar rfl rfl (by simp) rfl (by first | omega | (simp; omega)) rfl | exact o_idxpn rfl rfl rfl rfl (by omega) | exact o_idxvn rfl rfl rfl rfl (by omega) (by assumption) rfl | exact o_idxrn rfl rfl rfl rfl (by omega) (by assumption) | exact o_cutarr rfl rfl rfl rfl | exact o_mkfn rfl rfl rfl | exact o_callv rfl rfl rfl rfl rfl rfl (by assumption) | exact o_bld zero_Ans rfl rfl rfl rfl rfl rfl rfl | exact o_eqAns rfl rfl rfl | exact o_neAns rfl rfl rfl | exact e_bld rfl rfl rfl | exact e_bldk rfl rfl | exact z_bld0 rfl rfl rfl rfl rfl | exact z_bld rfl rfl rfl rfl rfl rfl rfl | exact o_addu rfl rfl rfl | exact z_blda rfl rfl rfl rfl rfl rfl rfl rfl rfl | exact o_idxa rfl rfl rfl rfl rfl rfl | exact o_idxra rfl rfl rfl rfl rfl rfl rfl | exact o_quo2 rfl rfl rfl (by omega) | exact o_quo rfl rfl rfl (by omega))); (focus (first | exact want_n | exact want_g rfl (by with_reducible rfl)))) | (apply Wb; (focus (first | exact o_box rfl rfl rfl rfl | exact o_app rfl rfl rfl rfl rfl (by first | exact o_many rfl | exact o_one _ _ rfl) (by first | omega | (simp; omega) | simp) (by first | omega | (simp; omega) | simp) | exact o_appn rfl rfl rfl rfl rfl (by first | exact o_many rfl | exact o_one _ _ rfl) (by first | omega | (simp; omega) | simp) (by first | omega | (simp; omega) | simp) | exact o_app1 rfl rfl rfl rfl rfl (by first | exact o_many rfl | exact o_one _ _ rfl) (by exact rfl) (by first | omega | (simp; omega) | simp) (by first | omega | (simp; omega) | simp) | exact o_app0 rfl rfl rfl rfl rfl (by first | exact o_many rfl | exact o_one _ _ rfl) (by first | omega | (simp; omega) | simp) (by first | omega | (simp; omega) | simp) | exact o_bsl0 rfl rfl rfl | exact z_bsll rfl rfl rfl rfl rfl rfl rfl rfl rfl | exact z_alloc rfl rfl rfl | exact o_alloc zero_Opn rfl rfl | exact o_alloc zero_Cal rfl rfl | exact o_alloc zero_state rfl rfl | exact o_alloc zero_b14 rfl rfl | exact o_cpents rfl rfl rfl rfl rfl rfl (by omega) | exact o_alloc zero_Ans rfl rfl | exact o_bsll zero_Ans rfl rfl rfl rfl rfl rfl rfl rfl | exact o_bsll zero_Opn rfl rfl rfl rfl rfl rfl rfl rfl)); (focus (first | exact want_n | exact want_g rfl (by with_reducible rfl)))) | (apply Ws; (focus (first | exact o_stin rfl (by simp) rfl rfl (by first | omega | (simp; omega)) rfl | exact o_stbar rfl (by simp) rfl rfl (by first | omega | (simp; omega)) rfl | exact ok_store tabT (d := none) rfl rfl rfl rfl rfl rfl rfl rfl rfl rfl)); (focus (first | exact want_n | exact want_g rfl (by with_reducible rfl)))) | (refine Wskip (by first | exact want_f rfl (by with_reducible exact b_nt) | exact want_f rfl (by with_reducible exact b_nf) | exact want_t rfl) rfl ?_) | refine Wgt rfl rfl (by first | assumption | omega | exact rfl) ?_ | refine Wgf rfl rfl (by first | assumption | omega | exact rfl) ?_ | (refine Wgb rfl rfl (by with_reducible assumption) ?_) | (refine cb_is _ (by assumption) ?_)))))
      exact fin ⟨res_of rfl rfl rfl, trivial⟩
    · have d4 := acall Try.func13 (f9') (by decide +kernel) (by decide +kernel)
      repeat (first | (refine AW_go (S' := ⟨[(1, boolA true), (2, boolA true), (7, .ptr 7 0 [])], [(7, .var ((vlOf (bytesOf l)).1).av)]⟩) ?_ ?_; (focus ((refine Go2.sub ⟨?_, ?_, ?_⟩ <;> repeat' (first | exact True.intro | rfl | apply And.intro)); done)); refine AW_go (Go2.froz hE 7 rfl) ?_) | (apply Wv; (focus (exact ob_cutfh (f := byteA) (xs := (vlOf (bytesOf l)).1.b.toList) rfl rfl rfl rfl rfl rfl rfl hn0 hbl (by decide))); (focus (first | exact want_n | exact want_g rfl (by with_reducible rfl)))) | (apply Wv; (focus (exact o_convs Try.underlying33 Try.underlying5 Try.underlying9 rfl rfl)); (focus (first | exact want_n | exact want_g rfl (by with_reducible rfl))); rw [htk]) | (apply Wb; (focus (exact o_bsll zero_Cal rfl rfl rfl rfl rfl rfl rfl rfl)); (focus (first | exact want_n | exact want_g rfl (by with_reducible rfl)))) | (first | (first | refine Wend _ ?_ | refine AW_seq ?_ | refine AW_reg ?_ | refine AW_drw mixed ?_ | refine AW_block ?_ | refine AW_scope ?_ | refine thenA_n ?_ | refine blockA_n ?_ | refine blockA_h ?_ | refine scopeA_n ?_ | refine thenA_r ?_ | refine blockA_r ?_ | refine scopeA_r ?_ | refine thenA_e ?_ | refine scopeA_e ?_ | refine blockA_e rfl ?_ | refine AW_exit ?_ | refine AW_ret ?_ | refine AW_skip ?_ | refine AW_c rfl ?_ | with_reducible refine cb_t ?_ | with_reducible refine cb_f ?_ | with_reducible refine cb_yes (by first | assumption | omega) ?_ | with_reducible refine cb_no (by first | assumption | omega) ?_ | refine And.intro (by decide +kernel) ?_) | (first | (apply Wb; (focus (first | exact o_bsl0O rfl rfl rfl | exact oo_app0 rfl rfl rfl rfl rfl (by first | exact o_many rfl | exact o_one _ _ rfl | exact o_zero rfl) (by first | omega | (simp; omega) | (simp; done)) (by first | omega | (simp; omega) | (simp; done)))); (focus (first | exact want_n | exact want_g rfl (by with_reducible rfl)))) | (apply Wv; (focus (first | exact oi_len rfl rfl rfl rfl (by first | rfl | assumption | omega | (simp; done) | (simp; omega)) | exact oi_idx rfl rfl rfl rfl rfl rfl (by first | rfl | assumption | omega | (simp; done) | (simp; omega)) (by first | rfl | assumption | omega | (simp; done) | (simp; omega)) | exact oi_ld rfl rfl rfl (by first | rfl | assumption | omega | (simp; done) | (simp; omega)) (by first | rfl | assumption | omega | (simp; done) | (simp; omega)) rfl rfl)); (focus (first | exact want_n | exact want_g rfl (by with_reducible rfl)))) | (apply Ws; (focus (exact oi_st (f := intA) rfl rfl rfl (by first | rfl | assumption | omega | (simp; done) | (simp; omega)) (by first | rfl | assumption | omega | (simp; done) | (simp; omega)) rfl (fun _ => rfl) rfl rfl)); (focus (first | exact want_n | exact want_g rfl (by with_reducible rfl)))) | (first | (apply Wv; (focus (first | exact step_ok rfl rfl | exact o_idx rfl rfl rfl rfl (by first | assumption | omega | decide) | exact o_idx3 rfl rfl rfl rfl (by first | assumption | omega | decide) | exact o_idx2 rfl rfl rfl rfl rfl (by first | assumption | omega | decide) | exact o_idxr rfl rfl rfl rfl rfl rfl | exact o_lenm rfl rfl rfl | exact o_len rfl rfl rfl | exact o_len0 rfl rfl rfl | exact o_lens rfl rfl rfl | exact o_lent rfl rfl | exact o_add1 rfl rfl rfl (by omega) | exact o_addn rfl rfl rfl (by omega) | exact o_add rfl rfl rfl (by omega) | exact o_sub1 rfl rfl rfl (by omega) | exact o_sub rfl rfl rfl (by omega) | exact o_mul rfl rfl rfl (by omega) | exact o_rem rfl rfl rfl (by omega) | exact ok_rem rfl rfl rfl (by decide) rfl | exact o_eqKey rfl rfl rfl | exact o_neKey rfl rfl rfl | exact o_eqVl rfl rfl rfl | exact o_neVl rfl rfl rfl | exact o_eqEnt rfl rfl rfl | exact o_neEnt rfl rfl rfl | exact o_eqMsg rfl rfl rfl | exact o_neMsg rfl rfl rfl | exact o_acall rfl rfl rfl rfl (by assumption) | exact o_minn rfl rfl rfl | exact o_cutl rfl rfl rfl rfl (by omega) | exact o_cuth rfl rfl rfl rfl (by omega) | exact o_cutl3 rfl rfl rfl rfl (by omega) | exact o_cuth3 rfl rfl rfl rfl (by omega) | exact o_cutl2 rfl rfl rfl rfl rfl (by omega) | exact o_cuth2 rfl rfl rfl rfl rfl (by omega) | exact o_cutlh2 rfl rfl rfl rfl rfl rfl rfl (by omega) (by omega) | exact o_bld zero_Opn rfl rfl rfl rfl rfl rfl rfl | exact o_bld zero_Cal rfl rfl rfl rfl rfl rfl rfl | exact o_bld zero_state rfl rfl rfl rfl rfl rfl rfl | exact o_bld zero_search rfl rfl rfl rfl rfl rfl rfl | exact o_nilcr rfl rfl | exact o_nilcp rfl rfl | exact o_eqbar rfl rfl rfl (by simp) (by simp) | exact o_ldbar rfl rfl (by simp) rfl (by first | omega | (simp; omega)) rfl | exact o_idxpn rfl rfl rfl rfl (by omega) | exact o_idxvn rfl rfl rfl rfl (by omega) (by assumption) rfl | exact o_idxrn rfl rfl rfl rfl (by omega) (by assumption) | exact o_cutarr rfl rfl rfl rfl | exact o_mkfn rfl rfl rfl | exact o_callv rfl rfl rfl rfl rfl rfl (by assumption) | exact o_bld zero_Ans rfl rfl rfl rfl rfl rfl rfl | exact o_eqAns rfl rfl rfl | exact o_neAns rfl rfl rfl | exact e_bld rfl rfl rfl | exact e_bldk rfl rfl | exact z_bld0 rfl rfl rfl rfl rfl | exact z_bld rfl rfl rfl rfl rfl rfl rfl | exact o_addu rfl rfl rfl | exact z_blda rfl rfl rfl rfl rfl rfl rfl rfl rfl | exact o_idxa rfl rfl rfl rfl rfl rfl | exact o_idxra rfl rfl rfl rfl rfl rfl rfl | exact o_quo2 rfl rfl rfl (by omega) | exact o_quo rfl rfl rfl (by omega))); (focus (first | exact want_n | exact want_g rfl (by with_reducible rfl)))) | (apply Wb; (focus (first | exact o_box rfl rfl rfl rfl | exact o_app rfl rfl rfl rfl rfl (by first | exact o_many rfl | exact o_one _ _ rfl) (by first | omega | (simp; omega) | simp) (by first | omega | (simp; omega) | simp) | exact o_appn rfl rfl rfl rfl rfl (by first | exact o_many rfl | exact o_one _ _ rfl) (by first | omega | (simp; omega) | simp) (by first | omega | (simp; omega) | simp) | exact o_app1 rfl rfl rfl rfl rfl (by first | exact o_many rfl | exact o_one _ _ rfl) (by exact rfl) (by first | omega | (simp; omega) | simp) (by first | omega | (simp; omega) | simp) | exact o_app0 rfl rfl rfl rfl rfl (by first | exact o_many rfl | exact o_one _ _ rfl) (by first | omega | (simp; omega) | simp) (by first | omega | (simp; omega) | simp) | exact o_bsl0 rfl rfl rfl | exact z_bsll rfl rfl rfl rfl rfl rfl rfl rfl rfl | exact z_alloc rfl rfl rfl | exact o_alloc zero_Opn rfl rfl | exact o_alloc zero_Cal rfl rfl | exact o_alloc zero_state rfl rfl | exact o_alloc zero_b14 rfl rfl | exact o_cpents rfl rfl rfl rfl rfl rfl (by omega) | exact o_alloc zero_Ans rfl rfl | exact o_bsll zero_Ans rfl rfl rfl rfl rfl rfl rfl rfl | exact o_bsll zero_Opn rfl rfl rfl rfl rfl rfl rfl rfl)); (focus (first | exact want_n | exact want_g rfl (by with_reducible rfl)))) | (apply Ws; (focus (first | exact o_stin rfl (by simp) rfl rfl (by first | omega | (simp; omega)) rfl | exact o_stbar rfl (by simp) rfl rfl (by first | omega | (simp; omega)) rfl | exact ok_store tabT (d := none) rfl rfl rfl rfl rfl rfl rfl rfl rfl rfl)); (focus (first | exact want_n | exact want_g rfl (by with_reducible rfl)))) | (refine Wskip (by first | exact want_f rfl (by with_reducible exact b_nt) | exact want_f rfl (by with_reducible exact b_nf) | exact want_t rfl) rfl ?_) | refine Wgt rfl rfl (by first | assumption | omega | exact rfl) ?_ | refine Wgf rfl rfl (by first | assumption | omega | exact rfl) ?_ | (refine Wgb rfl rfl (by with_reducible assumption) ?_) | (refine cb_is _ (by assumption) ?_)))))
      exact fin ⟨res_of rfl rfl rfl, trivial⟩
theorem linePends_walk (n0 : Int) (c1 : Bool) (c2 : Bool) (w : World) (b0 : -9223372036854775808 ≤ n0 ∧ n0 ≤ 9223372036854775807) :
    Calls Try.prog 6 #[.int .i64 n0, .bool c1, .bool c2] w (Is w (.bool true)) :=
  law_of (a_lpends n0 b0 c1 c2) (rdp_cons rfl int_in (rdp_cons rfl (Rdv_v.2 ⟨rfl, rfl⟩) (rdp_cons rfl (Rdv_v.2 ⟨rfl, rfl⟩) rdp_nil')))
end Go.Proofs.Ytphojngdgmnpaaa
