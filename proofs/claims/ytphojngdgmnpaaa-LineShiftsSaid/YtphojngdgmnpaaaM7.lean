/-
  M7: several texts as one: LawLine4, LawLine5, LawLine6, LawLine7. No condition beyond those that each theorem states.
-/
import Derived.Test.YtphojngdgmnpaaaM6
namespace Go.Proofs.Ytphojngdgmnpaaa
open Go Go.RowKit
set_option linter.unusedVariables false
set_option linter.unusedSimpArgs false
set_option maxRecDepth 100000
/-- a call by a number: of few keys, under way at once with others, its answer one that may be or not -/
def calN (i : Nat) (v : Int) : Cal :=
  let k := v % 1099511627776
  let o0 := lawOp (k % 4 + k / 4 % 3 * 32)
  let o : Opn := if o0.kind = 3 then { o0 with add := BitVec.ofInt 64 (1 + k / 16384 % 3) } else o0
  let c := callC o (2 * (i : Int)) (2 * (i : Int) + 1 + k / 16 % 7) Ans.zero
  if k / 128 % 8 = 7 then { c with to := -1 }
  else if large o then { c with ans := { Ans.zero with code := 2 } }
  else if o.kind = 4 ∧ k / 1024 % 2 = 0 then { c with ans := { Ans.zero with found := true, val := lawVl (k / 2048 % 3) } }
  else if o.kind ≠ 4 ∧ k / 1024 % 8 = 0 then { c with ans := { Ans.zero with code := 3 } }
  else c
def callsGo : Nat → List Int → List Cal
  | _, [] => []
  | i, v :: vs => calN i v :: callsGo (i + 1) vs
def callsC (l : List Int) (most : Nat) : List Cal := callsGo 0 (l.take most)
theorem callsGo_len : ∀ (l : List Int) (i : Nat), (callsGo i l).length = l.length
  | [], _ => rfl
  | v :: l, i => by simp [callsGo, callsGo_len l]
theorem callsC_len (l : List Int) (most : Nat) : (callsC l most).length = min most l.length := by unfold callsC; rw [callsGo_len, List.length_take]
attribute [local irreducible] OpOK AWops AW CondB Go2 AFn thenA inBlockA noGotoA orderOk wantedA
set_option maxRecDepth 100000 in
set_option maxHeartbeats 8000000 in
theorem a_calls (l : List Int) (hv : ∀ v ∈ l, -9223372036854775808 ≤ v ∧ v ≤ 9223372036854775807) (hl : l.length ≤ 1000000000000000) (most : Nat) (hm : most ≤ 100) :
    AFn Try.prog 11 [intsA l, intA (most : Nat)] (calsA (callsC l most)) := by
  refine AFn_intro Try.func11 rfl Try.ntmps11 rfl (by simp) [_] rfl fun E hE => ?_
  have hnt : (!true) = false := rfl
  have hnf : (!false) = true := rfl
  refine wSS ?_
  refine AW_go (Go2.token 5 5 26 46 rfl rfl) ?_
  refine AW_loopI (fun x : Nat × List Cal => ⟨[(0, intsA l), (1, intA (most : Nat)), (5, .sl (some 5) 27 (x.2.map Cal.av)), (6, intA (x.1 : Nat))], [(5, .tail 46 27 x.2.length)]⟩) (fun x => x.1 ≤ (l.take most).length ∧ x.2.length = x.1 ∧ x.2 ++ callsGo x.1 ((l.take most).drop x.1) = callsC l most) (fun x => (l.take most).length - x.1) (0, []) ⟨Nat.zero_le _, rfl, rfl⟩ (by (refine Go2.sub ⟨?_, ?_, ?_⟩ <;> repeat' (first | exact True.intro | rfl | apply And.intro))) (fun x hx => ?_)
  obtain ⟨i, acc⟩ := x
  obtain ⟨hi, hal, hF⟩ := hx
  dsimp only at hi hal hF ⊢
  have htl : (l.take most).length = min most l.length := List.length_take
  have end_ : (l.take most).length ≤ i → acc = callsC l most := fun h => by
    rw [List.drop_of_length_le h] at hF
    simpa [callsGo] using hF
  by_cases c1 : i < l.length
  · by_cases c2 : i < most
    · have c2i : (i : Int) < (most : Nat) := by omega
      have hlt : i < (l.take most).length := by omega
      have hvi := hv l[i] (List.getElem_mem c1)
      have hget : (l.take most)[i] = l[i] := List.getElem_take
      rw [List.drop_eq_getElem_cons hlt, hget] at hF
      have c5 := a_lplace l[i] 1099511627776 (by omega) (by omega) hvi
      unfold callsGo calN at hF
      dsimp only at hF
      obtain ⟨k, hk⟩ : ∃ k : Nat, l[i] % 1099511627776 = (k : Int) := ⟨(l[i] % 1099511627776).toNat, by omega⟩
      have hkb : k < 1099511627776 := by omega
      rw [hk] at c5 hF
      have co := a_lop ((k : Int) % 4 + (k : Int) / 4 % 3 * 32) (by omega)
      generalize lawOp ((k : Int) % 4 + (k : Int) / 4 % 3 * 32) = o0 at co hF
      have d1 := acall Try.func17 (c5) (by decide +kernel) (by decide +kernel)
      have d2 := acall Try.func26 (co) (by decide +kernel) (by decide +kernel)
--CASES
      by_cases h3 : o0.kind = 3
      · rw [if_pos h3] at hF
        refine wSS ?_
        (apply Wv; (focus (exact o_convu ⟨_, Try.underlying3⟩ Try.underlying36 rfl rfl)); (focus (first | exact want_n | exact want_g rfl (by with_reducible rfl))))
        have hkind : ({ o0 with add := BitVec.ofInt 64 (1 + (k : Int) / 16384 % 3) }).kind = o0.kind := rfl
        have cc := a_call25 ({ o0 with add := BitVec.ofInt 64 (1 + (k : Int) / 16384 % 3) }) (2 * (i : Int)) (2 * (i : Int) + 1 + (k : Int) / 16 % 7) Ans.zero
        have cl := a_ref23large ({ o0 with add := BitVec.ofInt 64 (1 + (k : Int) / 16384 % 3) })
        have d3 := acall Try.func22 (cc) (by decide +kernel) (by decide +kernel)
        by_cases h7 : (k : Int) / 128 % 8 = 7
        · rw [if_pos h7] at hF
          refine wSS ?_
          (apply Wb; (focus (exact o_bsll zero_Cal rfl rfl rfl rfl rfl rfl rfl rfl)); (focus (first | exact want_n | exact want_g rfl (by with_reducible rfl))))
          (apply Wb; (focus (exact o_app (f := Cal.av) (tk := 5) (xs := acc) (zs := [{ callC ({ o0 with add := BitVec.ofInt 64 (1 + (k : Int) / 16384 % 3) }) (2 * (i : Int)) (2 * (i : Int) + 1 + (k : Int) / 16 % 7) Ans.zero with to := -1 }]) rfl rfl rfl rfl rfl (by exact o_one Cal.av ({ callC ({ o0 with add := BitVec.ofInt 64 (1 + (k : Int) / 16384 % 3) }) (2 * (i : Int)) (2 * (i : Int) + 1 + (k : Int) / 16 % 7) Ans.zero with to := -1 }) rfl) (by simp; omega) (by simp; omega))); (focus (first | exact want_n | exact want_g rfl (by with_reducible rfl))))
          refine wSS ?_
          refine ⟨(i + 1, acc ++ [{ callC ({ o0 with add := BitVec.ofInt 64 (1 + (k : Int) / 16384 % 3) }) (2 * (i : Int)) (2 * (i : Int) + 1 + (k : Int) / 16 % 7) Ans.zero with to := -1 }]), ⟨hlt, by simp [hal], by show (acc ++ [_]) ++ _ = _; rw [List.append_assoc]; exact hF⟩, by show (l.take most).length - (i + 1) < (l.take most).length - i; omega, ?_⟩
          (refine Go2.sub ⟨?_, ?_, ?_⟩ <;> repeat' (first | exact True.intro | rfl | apply And.intro))
        rw [if_neg h7] at hF
        cases hL : large ({ o0 with add := BitVec.ofInt 64 (1 + (k : Int) / 16384 % 3) })
        case true =>
          rw [if_pos hL] at hF
          rw [hL] at cl
          have d4 := acall Try.func27 (cl) (by decide +kernel) (by decide +kernel)
          refine wSS ?_
          (apply Wb; (focus (exact o_bsll zero_Cal rfl rfl rfl rfl rfl rfl rfl rfl)); (focus (first | exact want_n | exact want_g rfl (by with_reducible rfl))))
          (apply Wb; (focus (exact o_app (f := Cal.av) (tk := 5) (xs := acc) (zs := [{ callC ({ o0 with add := BitVec.ofInt 64 (1 + (k : Int) / 16384 % 3) }) (2 * (i : Int)) (2 * (i : Int) + 1 + (k : Int) / 16 % 7) Ans.zero with ans := { Ans.zero with code := 2 } }]) rfl rfl rfl rfl rfl (by exact o_one Cal.av ({ callC ({ o0 with add := BitVec.ofInt 64 (1 + (k : Int) / 16384 % 3) }) (2 * (i : Int)) (2 * (i : Int) + 1 + (k : Int) / 16 % 7) Ans.zero with ans := { Ans.zero with code := 2 } }) rfl) (by simp; omega) (by simp; omega))); (focus (first | exact want_n | exact want_g rfl (by with_reducible rfl))))
          refine wSS ?_
          refine ⟨(i + 1, acc ++ [{ callC ({ o0 with add := BitVec.ofInt 64 (1 + (k : Int) / 16384 % 3) }) (2 * (i : Int)) (2 * (i : Int) + 1 + (k : Int) / 16 % 7) Ans.zero with ans := { Ans.zero with code := 2 } }]), ⟨hlt, by simp [hal], by show (acc ++ [_]) ++ _ = _; rw [List.append_assoc]; exact hF⟩, by show (l.take most).length - (i + 1) < (l.take most).length - i; omega, ?_⟩
          (refine Go2.sub ⟨?_, ?_, ?_⟩ <;> repeat' (first | exact True.intro | rfl | apply And.intro))
        case false =>
        rw [if_neg (by rw [hL]; simp)] at hF
        rw [hL] at cl
        have d4 := acall Try.func27 (cl) (by decide +kernel) (by decide +kernel)
        by_cases h4 : o0.kind = 4
        · exfalso; omega
        · by_cases h8 : (k : Int) / 1024 % 8 = 0
          · rw [if_neg (fun h => h4 h.1), if_pos ⟨h4, h8⟩] at hF
            refine wSS ?_
            (apply Wb; (focus (exact o_bsll zero_Cal rfl rfl rfl rfl rfl rfl rfl rfl)); (focus (first | exact want_n | exact want_g rfl (by with_reducible rfl))))
            (apply Wb; (focus (exact o_app (f := Cal.av) (tk := 5) (xs := acc) (zs := [{ callC ({ o0 with add := BitVec.ofInt 64 (1 + (k : Int) / 16384 % 3) }) (2 * (i : Int)) (2 * (i : Int) + 1 + (k : Int) / 16 % 7) Ans.zero with ans := { Ans.zero with code := 3 } }]) rfl rfl rfl rfl rfl (by exact o_one Cal.av ({ callC ({ o0 with add := BitVec.ofInt 64 (1 + (k : Int) / 16384 % 3) }) (2 * (i : Int)) (2 * (i : Int) + 1 + (k : Int) / 16 % 7) Ans.zero with ans := { Ans.zero with code := 3 } }) rfl) (by simp; omega) (by simp; omega))); (focus (first | exact want_n | exact want_g rfl (by with_reducible rfl))))
            refine wSS ?_
            refine ⟨(i + 1, acc ++ [{ callC ({ o0 with add := BitVec.ofInt 64 (1 + (k : Int) / 16384 % 3) }) (2 * (i : Int)) (2 * (i : Int) + 1 + (k : Int) / 16 % 7) Ans.zero with ans := { Ans.zero with code := 3 } }]), ⟨hlt, by simp [hal], by show (acc ++ [_]) ++ _ = _; rw [List.append_assoc]; exact hF⟩, by show (l.take most).length - (i + 1) < (l.take most).length - i; omega, ?_⟩
            (refine Go2.sub ⟨?_, ?_, ?_⟩ <;> repeat' (first | exact True.intro | rfl | apply And.intro))
          · rw [if_neg (fun h => h4 h.1), if_neg (fun h => h8 h.2)] at hF
            refine wSS ?_
            (apply Wb; (focus (exact o_bsll zero_Cal rfl rfl rfl rfl rfl rfl rfl rfl)); (focus (first | exact want_n | exact want_g rfl (by with_reducible rfl))))
            (apply Wb; (focus (exact o_app (f := Cal.av) (tk := 5) (xs := acc) (zs := [callC ({ o0 with add := BitVec.ofInt 64 (1 + (k : Int) / 16384 % 3) }) (2 * (i : Int)) (2 * (i : Int) + 1 + (k : Int) / 16 % 7) Ans.zero]) rfl rfl rfl rfl rfl (by exact o_one Cal.av (callC ({ o0 with add := BitVec.ofInt 64 (1 + (k : Int) / 16384 % 3) }) (2 * (i : Int)) (2 * (i : Int) + 1 + (k : Int) / 16 % 7) Ans.zero) rfl) (by simp; omega) (by simp; omega))); (focus (first | exact want_n | exact want_g rfl (by with_reducible rfl))))
            refine wSS ?_
            refine ⟨(i + 1, acc ++ [callC ({ o0 with add := BitVec.ofInt 64 (1 + (k : Int) / 16384 % 3) }) (2 * (i : Int)) (2 * (i : Int) + 1 + (k : Int) / 16 % 7) Ans.zero]), ⟨hlt, by simp [hal], by show (acc ++ [_]) ++ _ = _; rw [List.append_assoc]; exact hF⟩, by show (l.take most).length - (i + 1) < (l.take most).length - i; omega, ?_⟩
            (refine Go2.sub ⟨?_, ?_, ?_⟩ <;> repeat' (first | exact True.intro | rfl | apply And.intro))
      · rw [if_neg h3] at hF
        have hkind : (o0).kind = o0.kind := rfl
        have cc := a_call25 (o0) (2 * (i : Int)) (2 * (i : Int) + 1 + (k : Int) / 16 % 7) Ans.zero
        have cl := a_ref23large (o0)
        have d3 := acall Try.func22 (cc) (by decide +kernel) (by decide +kernel)
        by_cases h7 : (k : Int) / 128 % 8 = 7
        · rw [if_pos h7] at hF
          refine wSS ?_
          (apply Wb; (focus (exact o_bsll zero_Cal rfl rfl rfl rfl rfl rfl rfl rfl)); (focus (first | exact want_n | exact want_g rfl (by with_reducible rfl))))
          (apply Wb; (focus (exact o_app (f := Cal.av) (tk := 5) (xs := acc) (zs := [{ callC (o0) (2 * (i : Int)) (2 * (i : Int) + 1 + (k : Int) / 16 % 7) Ans.zero with to := -1 }]) rfl rfl rfl rfl rfl (by exact o_one Cal.av ({ callC (o0) (2 * (i : Int)) (2 * (i : Int) + 1 + (k : Int) / 16 % 7) Ans.zero with to := -1 }) rfl) (by simp; omega) (by simp; omega))); (focus (first | exact want_n | exact want_g rfl (by with_reducible rfl))))
          refine wSS ?_
          refine ⟨(i + 1, acc ++ [{ callC (o0) (2 * (i : Int)) (2 * (i : Int) + 1 + (k : Int) / 16 % 7) Ans.zero with to := -1 }]), ⟨hlt, by simp [hal], by show (acc ++ [_]) ++ _ = _; rw [List.append_assoc]; exact hF⟩, by show (l.take most).length - (i + 1) < (l.take most).length - i; omega, ?_⟩
          (refine Go2.sub ⟨?_, ?_, ?_⟩ <;> repeat' (first | exact True.intro | rfl | apply And.intro))
        rw [if_neg h7] at hF
        cases hL : large (o0)
        case true =>
          rw [if_pos hL] at hF
          rw [hL] at cl
          have d4 := acall Try.func27 (cl) (by decide +kernel) (by decide +kernel)
          refine wSS ?_
          (apply Wb; (focus (exact o_bsll zero_Cal rfl rfl rfl rfl rfl rfl rfl rfl)); (focus (first | exact want_n | exact want_g rfl (by with_reducible rfl))))
          (apply Wb; (focus (exact o_app (f := Cal.av) (tk := 5) (xs := acc) (zs := [{ callC (o0) (2 * (i : Int)) (2 * (i : Int) + 1 + (k : Int) / 16 % 7) Ans.zero with ans := { Ans.zero with code := 2 } }]) rfl rfl rfl rfl rfl (by exact o_one Cal.av ({ callC (o0) (2 * (i : Int)) (2 * (i : Int) + 1 + (k : Int) / 16 % 7) Ans.zero with ans := { Ans.zero with code := 2 } }) rfl) (by simp; omega) (by simp; omega))); (focus (first | exact want_n | exact want_g rfl (by with_reducible rfl))))
          refine wSS ?_
          refine ⟨(i + 1, acc ++ [{ callC (o0) (2 * (i : Int)) (2 * (i : Int) + 1 + (k : Int) / 16 % 7) Ans.zero with ans := { Ans.zero with code := 2 } }]), ⟨hlt, by simp [hal], by show (acc ++ [_]) ++ _ = _; rw [List.append_assoc]; exact hF⟩, by show (l.take most).length - (i + 1) < (l.take most).length - i; omega, ?_⟩
          (refine Go2.sub ⟨?_, ?_, ?_⟩ <;> repeat' (first | exact True.intro | rfl | apply And.intro))
        case false =>
        rw [if_neg (by rw [hL]; simp)] at hF
        rw [hL] at cl
        have d4 := acall Try.func27 (cl) (by decide +kernel) (by decide +kernel)
        by_cases h4 : o0.kind = 4
        · by_cases h2 : (k : Int) / 1024 % 2 = 0
          · rw [if_pos ⟨h4, h2⟩] at hF
            have cv := a_lval ((k : Int) / 2048 % 3) (by omega)
            have d5 := acall Try.func21 (cv) (by decide +kernel) (by decide +kernel)
            refine wSS ?_
            (apply Wb; (focus (exact o_bsll zero_Cal rfl rfl rfl rfl rfl rfl rfl rfl)); (focus (first | exact want_n | exact want_g rfl (by with_reducible rfl))))
            (apply Wb; (focus (exact o_app (f := Cal.av) (tk := 5) (xs := acc) (zs := [{ callC (o0) (2 * (i : Int)) (2 * (i : Int) + 1 + (k : Int) / 16 % 7) Ans.zero with ans := { Ans.zero with found := true, val := lawVl ((k : Int) / 2048 % 3) } }]) rfl rfl rfl rfl rfl (by exact o_one Cal.av ({ callC (o0) (2 * (i : Int)) (2 * (i : Int) + 1 + (k : Int) / 16 % 7) Ans.zero with ans := { Ans.zero with found := true, val := lawVl ((k : Int) / 2048 % 3) } }) rfl) (by simp; omega) (by simp; omega))); (focus (first | exact want_n | exact want_g rfl (by with_reducible rfl))))
            refine wSS ?_
            refine ⟨(i + 1, acc ++ [{ callC (o0) (2 * (i : Int)) (2 * (i : Int) + 1 + (k : Int) / 16 % 7) Ans.zero with ans := { Ans.zero with found := true, val := lawVl ((k : Int) / 2048 % 3) } }]), ⟨hlt, by simp [hal], by show (acc ++ [_]) ++ _ = _; rw [List.append_assoc]; exact hF⟩, by show (l.take most).length - (i + 1) < (l.take most).length - i; omega, ?_⟩
            (refine Go2.sub ⟨?_, ?_, ?_⟩ <;> repeat' (first | exact True.intro | rfl | apply And.intro))
          · rw [if_neg (fun h => h2 h.2), if_neg (fun h => h.1 h4)] at hF
            refine wSS ?_
            (apply Wb; (focus (exact o_bsll zero_Cal rfl rfl rfl rfl rfl rfl rfl rfl)); (focus (first | exact want_n | exact want_g rfl (by with_reducible rfl))))
            (apply Wb; (focus (exact o_app (f := Cal.av) (tk := 5) (xs := acc) (zs := [callC (o0) (2 * (i : Int)) (2 * (i : Int) + 1 + (k : Int) / 16 % 7) Ans.zero]) rfl rfl rfl rfl rfl (by exact o_one Cal.av (callC (o0) (2 * (i : Int)) (2 * (i : Int) + 1 + (k : Int) / 16 % 7) Ans.zero) rfl) (by simp; omega) (by simp; omega))); (focus (first | exact want_n | exact want_g rfl (by with_reducible rfl))))
            refine wSS ?_
            refine ⟨(i + 1, acc ++ [callC (o0) (2 * (i : Int)) (2 * (i : Int) + 1 + (k : Int) / 16 % 7) Ans.zero]), ⟨hlt, by simp [hal], by show (acc ++ [_]) ++ _ = _; rw [List.append_assoc]; exact hF⟩, by show (l.take most).length - (i + 1) < (l.take most).length - i; omega, ?_⟩
            (refine Go2.sub ⟨?_, ?_, ?_⟩ <;> repeat' (first | exact True.intro | rfl | apply And.intro))
        · by_cases h8 : (k : Int) / 1024 % 8 = 0
          · rw [if_neg (fun h => h4 h.1), if_pos ⟨h4, h8⟩] at hF
            refine wSS ?_
            (apply Wb; (focus (exact o_bsll zero_Cal rfl rfl rfl rfl rfl rfl rfl rfl)); (focus (first | exact want_n | exact want_g rfl (by with_reducible rfl))))
            (apply Wb; (focus (exact o_app (f := Cal.av) (tk := 5) (xs := acc) (zs := [{ callC (o0) (2 * (i : Int)) (2 * (i : Int) + 1 + (k : Int) / 16 % 7) Ans.zero with ans := { Ans.zero with code := 3 } }]) rfl rfl rfl rfl rfl (by exact o_one Cal.av ({ callC (o0) (2 * (i : Int)) (2 * (i : Int) + 1 + (k : Int) / 16 % 7) Ans.zero with ans := { Ans.zero with code := 3 } }) rfl) (by simp; omega) (by simp; omega))); (focus (first | exact want_n | exact want_g rfl (by with_reducible rfl))))
            refine wSS ?_
            refine ⟨(i + 1, acc ++ [{ callC (o0) (2 * (i : Int)) (2 * (i : Int) + 1 + (k : Int) / 16 % 7) Ans.zero with ans := { Ans.zero with code := 3 } }]), ⟨hlt, by simp [hal], by show (acc ++ [_]) ++ _ = _; rw [List.append_assoc]; exact hF⟩, by show (l.take most).length - (i + 1) < (l.take most).length - i; omega, ?_⟩
            (refine Go2.sub ⟨?_, ?_, ?_⟩ <;> repeat' (first | exact True.intro | rfl | apply And.intro))
          · rw [if_neg (fun h => h4 h.1), if_neg (fun h => h8 h.2)] at hF
            refine wSS ?_
            (apply Wb; (focus (exact o_bsll zero_Cal rfl rfl rfl rfl rfl rfl rfl rfl)); (focus (first | exact want_n | exact want_g rfl (by with_reducible rfl))))
            (apply Wb; (focus (exact o_app (f := Cal.av) (tk := 5) (xs := acc) (zs := [callC (o0) (2 * (i : Int)) (2 * (i : Int) + 1 + (k : Int) / 16 % 7) Ans.zero]) rfl rfl rfl rfl rfl (by exact o_one Cal.av (callC (o0) (2 * (i : Int)) (2 * (i : Int) + 1 + (k : Int) / 16 % 7) Ans.zero) rfl) (by simp; omega) (by simp; omega))); (focus (first | exact want_n | exact want_g rfl (by with_reducible rfl))))
            refine wSS ?_
            refine ⟨(i + 1, acc ++ [callC (o0) (2 * (i : Int)) (2 * (i : Int) + 1 + (k : Int) / 16 % 7) Ans.zero]), ⟨hlt, by simp [hal], by show (acc ++ [_]) ++ _ = _; rw [List.append_assoc]; exact hF⟩, by show (l.take most).length - (i + 1) < (l.take most).length - i; omega, ?_⟩
            (refine Go2.sub ⟨?_, ?_, ?_⟩ <;> repeat' (first | exact True.intro | rfl | apply And.intro))
--END
    · have c2i : ¬ (i : Int) < (most : Nat) := by omega
      rw [← end_ (by omega)]
      refine wSS ?_
      exact fin ⟨res_sl rfl, trivial⟩
  · rw [← end_ (by omega)]
    refine wSS ?_
    exact fin ⟨res_sl rfl, trivial⟩
end Go.Proofs.Ytphojngdgmnpaaa

namespace Go.Proofs.Ytphojngdgmnpaaa
open Go Go.RowKit
set_option linter.unusedVariables false
set_option linter.unusedSimpArgs false
set_option maxRecDepth 100000
section
variable {E : Env} {nt : Nat} {ops : Array Oper} {T : Nat → Option AV} {H : Hp} {d : Option Nat} {ty : TypeId} {pos : String} {af : Array Edge} {gd : Option (Nat × Bool)}
theorem oi_len {x : Operand} {t e e' : TypeId} {es bytes : Nat} {ea : Bool} {g n len : Nat} {f : Int → AV} {xs : List (Int)} (hs : tabT.ti t = some (.sl e es bytes ea)) (hd : dOk nt d = true) (hx : evalO T x = some (.own g n len .row)) (hg : H g = some (.own e' n (xs.map f))) (hl : len = xs.length) :
    OpOK Try.prog E nt ops ⟨d, .call { callee := .builtin .len, args := #[x], argTypes := #[t] }, ty, pos, af, gd⟩ T H [g] ⟨.v (.int .i64 (len : Nat)), []⟩ := ok_len_own hs hd hx hg (by simpa using hl)
theorem oi_idx {x ix : Operand} {t e : TypeId} {es bytes : Nat} {ea : Bool} {g len : Nat} {f : Int → AV} {xs : List (Int)} {k : IntKind} {n : Int} {i : Nat} (hd : dOk nt d = true) (hs : tabT.ti t = some (.sl e es bytes ea)) (hx : evalO T x = some (.own g es len .row)) (hg : H g = some (.own e es (xs.map f))) (hi : evalO T ix = some (.v (.int k n))) (hn : natOf n = some i)
    (hl : len = xs.length) (hlt : i < len) : OpOK Try.prog E nt ops ⟨d, .indexAddr t x ix, ty, pos, af, gd⟩ T H [g] ⟨.own g es len (.at (i * es) [i]), []⟩ := by
  subst hl
  exact oo_idx hd hs hx hg hi hn hlt
theorem oi_ld {x : Operand} {t e : TypeId} {g len i : Nat} {f : Int → AV} {xs : List (Int)} (hd : dOk nt d = true) (hx : evalO T x = some (.own g 1 len (.at (i * 1) [i]))) (hg : H g = some (.own e 1 (xs.map f))) (hl : len = xs.length) (hlt : i < xs.length) (hs : tabT.sa t = some (isAggA (f xs[i]), 1)) (h1 : sizeA (f xs[i]) = 1) :
    OpOK Try.prog E nt ops ⟨d, .load t x, ty, pos, af, gd⟩ T H [g] ⟨f xs[i], []⟩ := by
  subst hl
  exact oo_load hd hx hg (by omega) (by simp [subA, hlt]) (by simp [offA]) (by rw [h1]; exact hs)
theorem oi_st {x y : Operand} {t e : TypeId} {g len i : Nat} {b : Int} {f : Int → AV} {xs : List (Int)} (hx : evalO T x = some (.own g 1 len (.at (i * 1) [i]))) (hy : evalO T y = some (f b)) (hg : H g = some (.own e 1 (xs.map f))) (hl : len = xs.length) (hlt : i < xs.length) (hs : tabT.sa t = some (isAggA (f b), 1)) (h1 : ∀ a, sizeA (f a) = 1) (hdt : dataA (f b) = true) (hnt : notTup (f b) = true) :
    OpOK Try.prog E nt ops ⟨none, .store t x y, ty, pos, af, gd⟩ T H [g] ⟨.tup [], [(g, .own e 1 ((xs.set i b).map f))]⟩ := by
  subst hl
  exact oo_store hx hy hg (by omega) (old := f xs[i]) (by simp [subA, hlt]) (by simp [offA]) (by simp [setA, hlt, hdt, List.map_set]) (by rw [h1]; exact hs) (by rw [h1, h1]) hnt
end
/-- the numbers ahead of a place, but each fifth, within 0 to 6 -/
def mx (j : Nat) (l : List Int) : List Int := (List.range l.length).map fun i => if i < j ∧ 0 < i % 5 then l.getD i 0 % 7 else l.getD i 0
@[simp] theorem mx_len (j : Nat) (l : List Int) : (mx j l).length = l.length := by simp [mx]
attribute [local irreducible] OpOK AWops AW CondB Go2 AFn thenA inBlockA noGotoA orderOk wantedA
end Go.Proofs.Ytphojngdgmnpaaa

namespace Go.Proofs.Ytphojngdgmnpaaa
open Go Go.RowKit
set_option linter.unusedVariables false
set_option linter.unusedSimpArgs false
set_option maxRecDepth 100000
section
variable {E : Env} {nt : Nat} {T : Nat → Option AV} {H : Hp}
end
theorem runC_to (ops : List Int) (wide : List (BitVec 8)) (most : Nat) (k : Nat) (hk : k < (runC ops wide most).length) : 0 ≤ (atC (runC ops wide most) k).to := by
  have h := (runGo_at wide (ops.take most) 0 [] k hk).2
  rw [← atC_get hk]
  have h : 10 * ((0 + k : Nat) : Int) + 1 ≤ (runC ops wide most)[k].to := h
  omega
def rowM (ops : List Int) (j : Nat) : List Int := (List.range j).map fun i => if i < ops.length then ops.getD i 0 else 3 + 4 * (i : Int)
@[simp] theorem rowM_len (ops : List Int) (j : Nat) : (rowM ops j).length = j := by simp [rowM]
attribute [local irreducible] OpOK AWops AW CondB Go2 AFn thenA inBlockA noGotoA orderOk wantedA
end Go.Proofs.Ytphojngdgmnpaaa

namespace Go.Proofs.Ytphojngdgmnpaaa
open Go Go.RowKit
set_option linter.unusedVariables false
set_option linter.unusedSimpArgs false
set_option maxRecDepth 100000
/-! ### the same search -/
theorem fmL_congr {l l' : List Cal} {R : List Bool → List Ent → List Ky → Rs} (hr : ∀ i d, i < l.length → rdy l i d = rdy l' i d) (hd : ∀ m i, i < l.length → doC m (atC l i) = doC m (atC l' i)) (d : List Bool) (m : List Ent) :
    ∀ (is : List Nat) (T : List Ky), (∀ i ∈ is, i < l.length) → fmL l R d m is T = fmL l' R d m is T
  | [], T, _ => rfl
  | i :: is, T, hi => by
    have ih := fun T' => fmL_congr (R := R) hr hd d m is T' fun i h => hi i (by simp [h])
    have h1 := hi i (by simp)
    unfold fmL
    rw [hr i _ h1, hd m i h1, ih]
    split
    · rfl
    · split
      · split
        · rfl
        · exact ih _
      · rfl
theorem fmB_congr {l l' : List Cal} {R : List Bool → List Ent → List Ky → Rs} (hl : l.length = l'.length) (hm : mustOf l = mustOf l') (hr : ∀ i d, i < l.length → rdy l i d = rdy l' i d) (hd : ∀ m i, i < l.length → doC m (atC l i) = doC m (atC l' i)) : fmB l R = fmB l' R := by
  funext d m T
  unfold fmB ovr
  rw [hm, fmL_congr hr hd d m _ _ fun i hi => List.mem_range.1 hi, hl]
theorem fm_congr {l l' : List Cal} (hl : l.length = l'.length) (hm : mustOf l = mustOf l') (hr : ∀ i d, i < l.length → rdy l i d = rdy l' i d) (hd : ∀ m i, i < l.length → doC m (atC l i) = doC m (atC l' i)) : ∀ f, fm l f = fm l' f
  | 0 => fmB_congr hl hm hr hd
  | f + 1 => by
    show fmB l (fm l f) = fmB l' (fm l' f)
    rw [fm_congr hl hm hr hd f]
    exact fmB_congr hl hm hr hd
theorem findC_congr {l l' : List Cal} (hl : l.length = l'.length) (ht : ∀ i, i < l.length → decide (0 ≤ (atC l i).to) = decide (0 ≤ (atC l' i).to)) (hb : ∀ k i, k < l.length → i < l.length → before (atC l k) (atC l i) = before (atC l' k) (atC l' i)) (hd : ∀ m i, i < l.length → doC m (atC l i) = doC m (atC l' i)) : findC l = findC l' := by
  have hm : mustOf l = mustOf l' := by
    unfold mustOf
    apply List.map_congr_left
    intro i _
    rw [← hl]
    by_cases h : i < l.length
    · rw [ht i h]
    · rw [decide_eq_false h]; simp
  have hr : ∀ i d, i < l.length → rdy l i d = rdy l' i d := fun i d hi => by
    unfold rdy
    rw [← hl]
    exact all_congr' fun k hk => by unfold rdyAt; rw [hb k i hk hi]
  unfold findC
  rw [← hl, fm_congr hl hm hr hd 14]
/-! ### shifted -/
def shC (k cl : Int) (i : Nat) (c : Cal) : Cal := ⟨cl, -(i : Int), c.op, 3 * c.frm + k, 3 * c.to + k, c.ans⟩
def shL (k cl : Int) (l : List Cal) (j : Nat) : List Cal := (List.range l.length).map fun i => if i < j then shC k cl i (atC l i) else atC l i
@[simp] theorem shL_len (k cl : Int) (l : List Cal) (j : Nat) : (shL k cl l j).length = l.length := by simp [shL]
theorem shL_at {k cl : Int} {l : List Cal} {j i : Nat} (h : i < l.length) : atC (shL k cl l j) i = if i < j then shC k cl i (atC l i) else atC l i := by
  rw [← atC_get (by rw [shL_len]; exact h)]
  unfold shL
  simp only [List.getElem_map, List.getElem_range]
theorem shL_get {k cl : Int} {l : List Cal} {j i : Nat} (h : i < l.length) : (shL k cl l j)[i]'(by rw [shL_len]; exact h) = if i < j then shC k cl i (atC l i) else atC l i := by
  unfold shL
  simp only [List.getElem_map, List.getElem_range]
theorem shL_zero (k cl : Int) (l : List Cal) : shL k cl l 0 = l := by
  apply List.ext_getElem (by simp)
  intro i h1 h2
  rw [shL_get h2, if_neg (by omega), atC_get h2]
theorem shL_set {k cl : Int} {l : List Cal} {j : Nat} (h : j < l.length) : (shL k cl l j).set j (shC k cl j (atC l j)) = shL k cl l (j + 1) := by
  apply List.ext_getElem (by simp)
  intro i h1 h2
  rw [shL_len] at h2
  rw [List.getElem_set, shL_get (j := j + 1) h2]
  by_cases c : j = i
  · subst c; rw [if_pos rfl, if_pos (by omega)]
  · rw [if_neg c, shL_get (j := j) h2]
    by_cases e : i < j
    · rw [if_pos e, if_pos (by omega)]
    · rw [if_neg e, if_neg (by omega)]
theorem shift_found {k cl : Int} (hk : 0 ≤ k) {l : List Cal} (ht : ∀ i, i < l.length → 0 ≤ (atC l i).to) : findC (shL k cl l l.length) = findC l := by
  refine (findC_congr (by simp) (fun i hi => ?_) (fun a b ha hb => ?_) fun m i hi => ?_).symm
  · rw [shL_at hi, if_pos hi]
    have := ht i hi
    rw [decide_eq_true this, decide_eq_true (show 0 ≤ (shC k cl i (atC l i)).to by show 0 ≤ 3 * (atC l i).to + k; omega)]
  · rw [shL_at ha, shL_at hb, if_pos ha, if_pos hb]
    have h1 := ht a ha
    unfold before shC
    dsimp only
    rw [Bool.eq_iff_iff]
    simp only [Bool.and_eq_true, decide_eq_true_eq]
    omega
  · rw [shL_at hi, if_pos hi]
    have := ht i hi
    unfold doC shC
    dsimp only
    rw [if_neg (show ¬ (atC l i).to < 0 by omega), if_neg (show ¬ 3 * (atC l i).to + k < 0 by omega)]
theorem runGo_bd (wide : List (BitVec 8)) : ∀ (vs : List Int) (i : Nat) (m : List Ent) (k : Nat) (h : k < (runGo wide i m vs).length), -40 ≤ (runGo wide i m vs)[k].frm ∧ (runGo wide i m vs)[k].to ≤ 10 * ((i + k : Nat) : Int) + 300
  | [], _, _, k, h => absurd h (Nat.not_lt_zero _)
  | v :: vs, i, m, 0, h => by
    simp only [runGo, List.getElem_cons_zero]
    cases wide[i]? with
    | none => simp only [callC]; omega
    | some b =>
      have h1 := b.isLt
      have h2 : b.toNat / 8 ≤ 255 := by omega
      have h3 : b.toNat % 40 < 40 := Nat.mod_lt _ (by omega)
      simp only [callC]; omega
  | v :: vs, i, m, k + 1, h => by
    have ih := runGo_bd wide vs (i + 1) (mdDo m (lawOp (v.tmod 512 + 512 * ((i : Int) % 2)))).1 k (by simpa [runGo] using h)
    simp only [runGo, List.getElem_cons_succ]
    rw [show i + 1 + k = i + (k + 1) by omega] at ih
    exact ih
section
variable {E : Env} {nt : Nat} {ops : Array Oper} {T : Nat → Option AV} {H : Hp} {d : Option Nat} {ty : TypeId} {pos : String} {af : Array Edge} {gd : Option (Nat × Bool)}
theorem oc_idx {x ix : Operand} {t e : TypeId} {bytes : Nat} {ea : Bool} {g len : Nat} {xs : List Cal} {k : IntKind} {i : Nat} (hd : dOk nt d = true) (hs : tabT.ti t = some (.sl e 27 bytes ea)) (hx : evalO T x = some (.own g 27 len .row)) (hg : H g = some (.own e 27 (xs.map Cal.av))) (hi : evalO T ix = some (.v (.int k (i : Nat)))) (hln : len = xs.length) (hl : i < xs.length) :
    OpOK Try.prog E nt ops ⟨d, .indexAddr t x ix, ty, pos, af, gd⟩ T H [g] ⟨.own g 27 len (.at (i * 27) [i]), []⟩ := by
  have h := ok_idx_own tabT (E := E) (ops := ops) (H := H) (ty := ty) (pos := pos) (af := af) (gd := gd) hd hs hx hg (by simpa using hln) hi (by omega) (by omega)
  rw [Int.toNat_natCast] at h
  exact h
theorem oc_fld {x : Operand} {s e : TypeId} {fd n o sz : Nat} {ag : Bool} {fs : List (Nat × Nat × Bool)} {g len off : Nat} {p : List Nat} {xs : List Cal} (hd : dOk nt d = true) (hx : evalO T x = some (.own g 27 len (.at off p))) (hg : H g = some (.own e 27 (xs.map Cal.av))) (hs : tabT.ti s = some (.st n fs)) (hf : fs[fd]? = some (o, sz + 1, ag)) (hln : len = xs.length) (h0 : 0 < xs.length) :
    OpOK Try.prog E nt ops ⟨d, .fieldAddr s x fd, ty, pos, af, gd⟩ T H [g] ⟨.own g 27 len (.at (off + o) (p ++ [fd])), []⟩ :=
  ok_fld_own tabT hd hx hg (by simpa using hln) (by simpa using h0) hs hf
theorem oc_ld {x : Operand} {t e : TypeId} {g len off i fd o : Nat} {xs : List Cal} {z : AV} (hd : dOk nt d = true) (hx : evalO T x = some (.own g 27 len (.at off [i, fd]))) (hg : H g = some (.own e 27 (xs.map Cal.av))) (hln : len = xs.length) (hl : i < xs.length) (hz : subA [fd] xs[i].av = some z) (ho : offA [fd] xs[i].av = o) (hoff : off = i * 27 + o) (hs : tabT.sa t = some (isAggA z, sizeA z)) :
    OpOK Try.prog E nt ops ⟨d, .load t x, ty, pos, af, gd⟩ T H [g] ⟨z, []⟩ := by
  refine ok_load_own tabT hd hx hg (by simpa using hln) (by simp; omega) ?_ ?_ hs
  · simp only [subA, List.getElem?_map, List.getElem?_eq_getElem hl, Option.map_some]; exact hz
  · simp only [offA, List.getD_eq_getElem?_getD, List.getElem?_map, List.getElem?_eq_getElem hl, Option.map_some, Option.getD_some]
    rw [hoff]; congr 1
theorem oc_st {x y : Operand} {t e : TypeId} {g len off i fd o : Nat} {xs : List Cal} {v old : AV} (c' : Cal) (hx : evalO T x = some (.own g 27 len (.at off [i, fd]))) (hy : evalO T y = some v) (hg : H g = some (.own e 27 (xs.map Cal.av))) (hln : len = xs.length) (hl : i < xs.length) (hz : subA [fd] xs[i].av = some old) (ho : offA [fd] xs[i].av = o) (hoff : off = i * 27 + o)
    (hv : setA v [fd] xs[i].av = some c'.av) (hdv : dataA v = true) (hs : tabT.sa t = some (isAggA v, sizeA v)) (hs' : sizeA v = sizeA old) (hnt : notTup v = true) :
    OpOK Try.prog E nt ops ⟨none, .store t x y, ty, pos, af, gd⟩ T H [g] ⟨.tup [], [(g, .own e 27 ((xs.set i c').map Cal.av))]⟩ := by
  refine ok_store_own tabT (d := none) rfl hx hy hg (by simpa using hln) (by simp; omega) (old := old) ?_ ?_ ?_ hs hs' hnt
  · simp only [subA, List.getElem?_map, List.getElem?_eq_getElem hl, Option.map_some]; exact hz
  · simp only [offA, List.getD_eq_getElem?_getD, List.getElem?_map, List.getElem?_eq_getElem hl, Option.map_some, Option.getD_some]
    rw [hoff]; congr 1
  · simp only [setA, List.getElem?_map, List.getElem?_eq_getElem hl, Option.map_some, hdv]
    rw [hv]
    simp [List.map_set]
theorem oc_len {x : Operand} {t e e' : TypeId} {es bytes : Nat} {ea : Bool} {g n len : Nat} {f : Cal → AV} {xs : List Cal} (hs : tabT.ti t = some (.sl e es bytes ea)) (hd : dOk nt d = true) (hx : evalO T x = some (.own g n len .row)) (hg : H g = some (.own e' n (xs.map f))) (hl : len = xs.length) :
    OpOK Try.prog E nt ops ⟨d, .call { callee := .builtin .len, args := #[x], argTypes := #[t] }, ty, pos, af, gd⟩ T H [g] ⟨.v (.int .i64 (len : Nat)), []⟩ := ok_len_own hs hd hx hg (by simpa using hl)
theorem oc2_ld {x : Operand} {t e : TypeId} {g len off i fd o : Nat} {ys : List Cal} {c : Cal} {z : AV} (hd : dOk nt d = true) (hx : evalO T x = some (.own g 27 len (.at off [i, fd]))) (hg : H g = some (.own e 27 ((ys.set i c).map Cal.av))) (hz : subA [fd] c.av = some z) (ho : offA [fd] c.av = o) (hoff : off = i * 27 + o) (hs : tabT.sa t = some (isAggA z, sizeA z)) (hln : len = ys.length) (hl : i < ys.length) :
    OpOK Try.prog E nt ops ⟨d, .load t x, ty, pos, af, gd⟩ T H [g] ⟨z, []⟩ :=
  oc_ld hd hx hg (by simpa using hln) (by simpa using hl) (by rw [List.getElem_set_self]; exact hz) (by rw [List.getElem_set_self]; exact ho) hoff hs
theorem oc2_st {x y : Operand} {t e : TypeId} {g len off i fd o : Nat} {ys : List Cal} {c : Cal} {v old : AV} (c' : Cal) (hx : evalO T x = some (.own g 27 len (.at off [i, fd]))) (hy : evalO T y = some v) (hg : H g = some (.own e 27 ((ys.set i c).map Cal.av))) (hz : subA [fd] c.av = some old) (ho : offA [fd] c.av = o) (hoff : off = i * 27 + o)
    (hv : setA v [fd] c.av = some c'.av) (hdv : dataA v = true) (hs : tabT.sa t = some (isAggA v, sizeA v)) (hs' : sizeA v = sizeA old) (hnt : notTup v = true) (hln : len = ys.length) (hl : i < ys.length) :
    OpOK Try.prog E nt ops ⟨none, .store t x y, ty, pos, af, gd⟩ T H [g] ⟨.tup [], [(g, .own e 27 ((ys.set i c').map Cal.av))]⟩ := by
  have h := oc_st (E := E) (nt := nt) (ops := ops) (T := T) (H := H) (ty := ty) (pos := pos) (af := af) (gd := gd) (t := t) (xs := ys.set i c) (o := o) (old := old) c' hx hy hg (by simpa using hln) (by simpa using hl) (by rw [List.getElem_set_self]; exact hz) (by rw [List.getElem_set_self]; exact ho) hoff (by rw [List.getElem_set_self]; exact hv) hdv hs hs' hnt
  rw [List.set_set] at h
  exact h
theorem o_negn {t : TypeId} {x : Operand} {n : Nat} (hd : dOk nt d = true) (hx : evalO T x = some (.v (.int .i64 (n : Nat)))) (hn : n ≤ 1000000) : OpOK Try.prog E nt ops ⟨d, .unOp .neg t x, ty, pos, af, gd⟩ T H [] ⟨.v (.int .i64 (-(n : Int))), []⟩ :=
  ok_val hd fun B T' H' a w r ht hh => ⟨.int .i64 (-(n : Int)), by
    have h1 := r.evalv ((ht x (by simp [Op.operands])).trans hx)
    have h2 : IntKind.i64.wrap (-(n : Int)) = -(n : Int) := by rw [IntKind.wrap_i64]; omega
    simp [execOp, h1, Op.unary, Op.intArith, h2], by rw [Rdv_v]; exact ⟨rfl, rfl⟩⟩
end
attribute [local irreducible] OpOK AWops AW CondB Go2 AFn thenA inBlockA noGotoA orderOk wantedA
set_option maxRecDepth 100000 in
set_option maxHeartbeats 8000000 in
theorem a_lshifts (ops : List Int) (hv : ∀ v ∈ ops, -9223372036854775808 ≤ v ∧ v ≤ 9223372036854775807) (hl : ops.length ≤ 17592186043904) (wide : List (BitVec 8)) (by_ cl : Int) (hby : -9223372036854775808 ≤ by_ ∧ by_ ≤ 9223372036854775807) :
    AFn Try.prog 9 [intsA ops, bytesA wide, intA by_, intA cl] (boolA true) := by
  have cr := a_run ops hv (by omega) wide 10 (by omega)
  have hlen := runC_len ops wide 10
  have hfd := run_found ops wide 10
  have hto := runC_to ops wide 10
  have hbd : ∀ k, k < (runC ops wide 10).length → -40 ≤ (atC (runC ops wide 10) k).frm ∧ (atC (runC ops wide 10) k).frm ≤ 100 ∧ (atC (runC ops wide 10) k).to ≤ 400 := fun k hk => by
    have h1 := runGo_bd wide (ops.take 10) 0 [] k hk
    have h2 := runGo_at wide (ops.take 10) 0 [] k hk
    have h3 : k < min 10 ops.length := by rw [← runC_len]; exact hk
    have h3 : k < 10 := Nat.lt_of_lt_of_le h3 (Nat.min_le_left _ _)
    rw [← atC_get hk]
    have e : (runGo wide 0 [] (ops.take 10))[k] = (runC ops wide 10)[k] := rfl
    rw [e] at h1 h2
    omega
  generalize runC ops wide 10 = c at cr hlen hfd hto hbd
  have hl10 : c.length ≤ 10 := by rw [hlen]; exact Nat.min_le_left _ _
  obtain ⟨q, h1, _, _⟩ := hfd (by omega)
  have cp := a_lplace by_ 1048576 (by omega) (by omega) hby
  obtain ⟨kk, hk⟩ : ∃ kk : Nat, by_ % 1048576 = (kk : Int) := ⟨(by_ % 1048576).toNat, by omega⟩
  have hkk : kk < 1048576 := by omega
  rw [hk] at cp
  have f1 := a_find c
  have f2 := a_find (shL (kk : Nat) cl c c.length)
  rw [shift_found (by omega) hto] at f2
  have hq := found_len h1
  rw [h1] at f1 f2
  have f1' : AFn Try.prog 13 [calsA c] (.tup [numsA q, boolA true]) := f1
  have f2' : AFn Try.prog 13 [.sl none 27 ((shL (kk : Nat) cl c c.length).map Cal.av)] (.tup [numsA q, boolA true]) := f2
  have f3 := a_lsame q q (by omega) (by omega)
  rw [decide_eq_true rfl] at f3
  clear f1 f2
  refine AFn_intro Try.func9 rfl Try.ntmps9 rfl (by simp) [_] rfl fun E hE => ?_
  have hnt : (!true) = false := rfl
  have hnf : (!false) = true := rfl
  have d1 := acall Try.func17 (cp) (by decide +kernel) (by decide +kernel)
  have d2 := acall Try.func20 (cr) (by decide +kernel) (by decide +kernel)
  have d3 := acall Try.func13 (f1') (by decide +kernel) (by decide +kernel)
  have d4 := acall Try.func13 (f2') (by decide +kernel) (by decide +kernel)
  have d5 := acall Try.func16 (f3) (by decide +kernel) (by decide +kernel)
  have d6 := acall Try.func12 (a_awake25) (by decide +kernel) (by decide +kernel)
  repeat (first | (apply Wb; (focus (exact oo_app0 (f := Cal.av) (zs := c) rfl rfl rfl rfl rfl (by exact o_many rfl) (by omega) (by omega))); (focus (first | exact want_n | exact want_g rfl (by with_reducible rfl)))) | (first | (first | refine Wend _ ?_ | refine AW_seq ?_ | refine AW_reg ?_ | refine AW_drw mixed ?_ | refine AW_block ?_ | refine AW_scope ?_ | refine thenA_n ?_ | refine blockA_n ?_ | refine blockA_h ?_ | refine scopeA_n ?_ | refine thenA_r ?_ | refine blockA_r ?_ | refine scopeA_r ?_ | refine thenA_e ?_ | refine scopeA_e ?_ | refine blockA_e rfl ?_ | refine AW_exit ?_ | refine AW_ret ?_ | refine AW_skip ?_ | refine AW_c rfl ?_ | with_reducible refine cb_t ?_ | with_reducible refine cb_f ?_ | with_reducible refine cb_yes (by first | assumption | omega) ?_ | with_reducible refine cb_no (by first | assumption | omega) ?_ | refine And.intro (by decide +kernel) ?_) | (first | (apply Wb; (focus (first | exact o_bsl0O rfl rfl rfl | exact oo_app0 rfl rfl rfl rfl rfl (by first | exact o_many rfl | exact o_one _ _ rfl | exact o_zero rfl) (by first | omega | (simp; omega) | (simp; done)) (by first | omega | (simp; omega) | (simp; done)))); (focus (first | exact want_n | exact want_g rfl (by with_reducible rfl)))) | (apply Wv; (focus (first | exact oi_len rfl rfl rfl rfl (by first | rfl | assumption | omega | (simp; done) | (simp; omega)) | exact oi_idx rfl rfl rfl rfl rfl rfl (by first | rfl | assumption | omega | (simp; done) | (simp; omega)) (by first | rfl | assumption | omega | (simp; done) | (simp; omega)) | exact oi_ld rfl rfl rfl (by first | rfl | assumption | omega | (simp; done) | (simp; omega)) (by first | rfl | assumption | omega | (simp; done) | (simp; omega)) rfl rfl)); (focus (first | exact want_n | exact want_g rfl (by with_reducible rfl)))) | (apply Ws; (focus (exact oi_st (f := intA) rfl rfl rfl (by first | rfl | assumption | omega | (simp; done) | (simp; omega)) (by first | rfl | assumption | omega | (simp; done) | (simp; omega)) rfl (fun _ => rfl) rfl rfl)); (focus (first | exact want_n | exact want_g rfl (by with_reducible rfl)))) | (first | (apply Wv; (focus (first | exact step_ok rfl rfl | exact o_idx rfl rfl rfl rfl (by first | assumption | omega | decide) | exact o_idx3 rfl rfl rfl rfl (by first | assumption | omega | decide) | exact o_idx2 rfl rfl rfl rfl rfl (by first | assumption | omega | decide) | exact o_idxr rfl rfl rfl rfl rfl rfl | exact o_lenm rfl rfl rfl | exact o_len rfl rfl rfl | exact o_len0 rfl rfl rfl | exact o_lens rfl rfl rfl | exact o_lent rfl rfl | exact o_add1 rfl rfl rfl (by omega) | exact o_addn rfl rfl rfl (by omega) | exact o_add rfl rfl rfl (by omega) | exact o_sub1 rfl rfl rfl (by omega) | exact o_sub rfl rfl rfl (by omega) | exact o_mul rfl rfl rfl (by omega) | exact o_rem rfl rfl rfl (by omega) | exact ok_rem rfl rfl rfl (by decide) rfl | exact o_eqKey rfl rfl rfl | exact o_neKey rfl rfl rfl | exact o_eqVl rfl rfl rfl | exact o_neVl rfl rfl rfl | exact o_eqEnt rfl rfl rfl | exact o_neEnt rfl rfl rfl | exact o_eqMsg rfl rfl rfl | exact o_neMsg rfl rfl rfl | exact o_acall rfl rfl rfl rfl (by assumption) | exact o_minn rfl rfl rfl | exact o_cutl rfl rfl rfl rfl (by omega) | exact o_cuth rfl rfl rfl rfl (by omega) | exact o_cutl3 rfl rfl rfl rfl (by omega) | exact o_cuth3 rfl rfl rfl rfl (by omega) | exact o_cutl2 rfl rfl rfl rfl rfl (by omega) | exact o_cuth2 rfl rfl rfl rfl rfl (by omega) | exact o_cutlh2 rfl rfl rfl rfl rfl rfl rfl (by omega) (by omega) | exact o_bld zero_Opn rfl rfl rfl rfl rfl rfl rfl | exact o_bld zero_Cal rfl rfl rfl rfl rfl rfl rfl | exact o_bld zero_state rfl rfl rfl rfl rfl rfl rfl | exact o_bld zero_search rfl rfl rfl rfl rfl rfl rfl | exact o_nilcr rfl rfl | exact o_nilcp rfl rfl | exact o_eqbar rfl rfl rfl (by simp) (by simp) | exact o_ldbar rfl rfl (by simp) rfl (by first | omega | (simp; omega)) rfl | exact o_idxpn rfl rfl rfl rfl (by omega) | exact o_idxvn rfl rfl rfl rfl (by omega) (by assumption) rfl | exact o_idxrn rfl rfl rfl rfl (by omega) (by assumption) | exact o_cutarr rfl rfl rfl rfl | exact o_mkfn rfl rfl rfl | exact o_callv rfl rfl rfl rfl rfl rfl (by assumption) | exact o_bld zero_Ans rfl rfl rfl rfl rfl rfl rfl | exact o_eqAns rfl rfl rfl | exact o_neAns rfl rfl rfl | exact e_bld rfl rfl rfl | exact e_bldk rfl rfl | exact z_bld0 rfl rfl rfl rfl rfl | exact z_bld rfl rfl rfl rfl rfl rfl rfl | exact o_addu rfl rfl rfl | exact z_blda rfl rfl rfl rfl rfl rfl rfl rfl rfl | exact o_idxa rfl rfl rfl rfl rfl rfl | exact o_idxra rfl rfl rfl rfl rfl rfl rfl | exact o_quo2 rfl rfl rfl (by omega) | exact o_quo rfl rfl rfl (by omega))); (focus (first | exact want_n | exact want_g rfl (by with_reducible rfl)))) | (apply Wb; (focus (first | exact o_box rfl rfl rfl rfl | exact o_app rfl rfl rfl rfl rfl (by first | exact o_many rfl | exact o_one _ _ rfl) (by first | omega | (simp; omega) | simp) (by first | omega | (simp; omega) | simp) | exact o_appn rfl rfl rfl rfl rfl (by first | exact o_many rfl | exact o_one _ _ rfl) (by first | omega | (simp; omega) | simp) (by first | omega | (simp; omega) | simp) | exact o_app1 rfl rfl rfl rfl rfl (by first | exact o_many rfl | exact o_one _ _ rfl) (by exact rfl) (by first | omega | (simp; omega) | simp) (by first | omega | (simp; omega) | simp) | exact o_app0 rfl rfl rfl rfl rfl (by first | exact o_many rfl | exact o_one _ _ rfl) (by first | omega | (simp; omega) | simp) (by first | omega | (simp; omega) | simp) | exact o_bsl0 rfl rfl rfl | exact z_bsll rfl rfl rfl rfl rfl rfl rfl rfl rfl | exact z_alloc rfl rfl rfl | exact o_alloc zero_Opn rfl rfl | exact o_alloc zero_Cal rfl rfl | exact o_alloc zero_state rfl rfl | exact o_alloc zero_b14 rfl rfl | exact o_cpents rfl rfl rfl rfl rfl rfl (by omega) | exact o_alloc zero_Ans rfl rfl | exact o_bsll zero_Ans rfl rfl rfl rfl rfl rfl rfl rfl | exact o_bsll zero_Opn rfl rfl rfl rfl rfl rfl rfl rfl)); (focus (first | exact want_n | exact want_g rfl (by with_reducible rfl)))) | (apply Ws; (focus (first | exact o_stin rfl (by simp) rfl rfl (by first | omega | (simp; omega)) rfl | exact o_stbar rfl (by simp) rfl rfl (by first | omega | (simp; omega)) rfl | exact ok_store tabT (d := none) rfl rfl rfl rfl rfl rfl rfl rfl rfl rfl)); (focus (first | exact want_n | exact want_g rfl (by with_reducible rfl)))) | (refine Wskip (by first | exact want_f rfl (by with_reducible exact b_nt) | exact want_f rfl (by with_reducible exact b_nf) | exact want_t rfl) rfl ?_) | refine Wgt rfl rfl (by first | assumption | omega | exact rfl) ?_ | refine Wgf rfl rfl (by first | assumption | omega | exact rfl) ?_ | (refine Wgb rfl rfl (by with_reducible assumption) ?_) | (refine cb_is _ (by assumption) ?_)))))
  refine AW_loopI (fun i : Nat => ⟨[(3, intA cl), (9, calsA c), (10, .own 20 27 c.length .row), (11, intA (kk : Nat)), (12, intA (i : Nat))], [(20, .own 46 27 ((shL (kk : Nat) cl c i).map Cal.av))]⟩) (fun i => i ≤ c.length) (fun i => c.length - i) 0 (Nat.zero_le _) (by simp only [shL_zero]; (refine Go2.sub ⟨?_, ?_, ?_⟩ <;> repeat' (first | exact True.intro | rfl | apply And.intro))) (fun i hi => ?_)
  have hlm : c.length = ((shL (kk : Nat) cl c i).map Cal.av).length := by simp
  by_cases c1 : i < c.length
  · obtain ⟨b1, b2, b3⟩ := hbd i c1
    have b4 := hto i c1
    have e0 : atC (shL (kk : Nat) cl c i) i = atC c i := by rw [shL_at c1, if_neg (Nat.lt_irrefl i)]
    have hiy : i < (shL (kk : Nat) cl c i).length := by rw [shL_len]; exact c1
    have hset := shL_set (k := (kk : Nat)) (cl := cl) c1
    have hself : (shL (kk : Nat) cl c i).set i (atC c i) = shL (kk : Nat) cl c i := by rw [← e0, ← atC_get hiy]; exact List.set_getElem_self hiy
    have hgc : c[i] = atC c i := atC_get c1
    rw [← hself]
    generalize atC c i = c0 at b1 b2 b3 b4 hset hgc
    have hln1 : c.length = (shL (kk : Nat) cl c i).length := by simp
    have hln0 : ∀ {c' : Cal}, c.length = ((shL (kk : Nat) cl c i).set i c').length := by intro c'; simp
    generalize shL (kk : Nat) cl c i = ys at hiy hset hln1 hln0
    have hct : ¬ c[i].to < 0 := by rw [hgc]; omega
    repeat (first | (apply Wv; (focus (first | exact oc_idx rfl rfl rfl rfl rfl hln0 (by rw [List.length_set]; exact hiy) | exact oc_fld rfl rfl rfl rfl rfl hln0 (by rw [List.length_set]; omega) | exact oc2_ld rfl rfl rfl rfl rfl rfl rfl hln1 hiy | exact o_negn rfl rfl (by omega) | exact oc_len rfl rfl rfl rfl hln0)); (focus (first | exact want_n | exact want_g rfl (by with_reducible rfl)))) | (apply Ws; (focus (first | exact oc2_st ({ c0 with frm := 3 * c0.frm + (kk : Nat) }) rfl rfl rfl rfl rfl rfl rfl rfl rfl rfl rfl hln1 hiy | exact oc2_st ({ c0 with frm := 3 * c0.frm + (kk : Nat), to := 3 * c0.to + (kk : Nat) }) rfl rfl rfl rfl rfl rfl rfl rfl rfl rfl rfl hln1 hiy | exact oc2_st ({ c0 with client := cl, frm := 3 * c0.frm + (kk : Nat), to := 3 * c0.to + (kk : Nat) }) rfl rfl rfl rfl rfl rfl rfl rfl rfl rfl rfl hln1 hiy | exact oc2_st (shC (kk : Nat) cl i c0) rfl rfl rfl rfl rfl rfl rfl rfl rfl rfl rfl hln1 hiy)); (focus (first | exact want_n | exact want_g rfl (by with_reducible rfl)))) | (first | (first | refine Wend _ ?_ | refine AW_seq ?_ | refine AW_reg ?_ | refine AW_drw mixed ?_ | refine AW_block ?_ | refine AW_scope ?_ | refine thenA_n ?_ | refine blockA_n ?_ | refine blockA_h ?_ | refine scopeA_n ?_ | refine thenA_r ?_ | refine blockA_r ?_ | refine scopeA_r ?_ | refine thenA_e ?_ | refine scopeA_e ?_ | refine blockA_e rfl ?_ | refine AW_exit ?_ | refine AW_ret ?_ | refine AW_skip ?_ | refine AW_c rfl ?_ | with_reducible refine cb_t ?_ | with_reducible refine cb_f ?_ | with_reducible refine cb_yes (by first | assumption | omega) ?_ | with_reducible refine cb_no (by first | assumption | omega) ?_ | refine And.intro (by decide +kernel) ?_) | (first | (apply Wb; (focus (first | exact o_bsl0O rfl rfl rfl | exact oo_app0 rfl rfl rfl rfl rfl (by first | exact o_many rfl | exact o_one _ _ rfl | exact o_zero rfl) (by first | omega | (simp; omega) | (simp; done)) (by first | omega | (simp; omega) | (simp; done)))); (focus (first | exact want_n | exact want_g rfl (by with_reducible rfl)))) | (apply Wv; (focus (first | exact oi_len rfl rfl rfl rfl (by first | rfl | assumption | omega | (simp; done) | (simp; omega)) | exact oi_idx rfl rfl rfl rfl rfl rfl (by first | rfl | assumption | omega | (simp; done) | (simp; omega)) (by first | rfl | assumption | omega | (simp; done) | (simp; omega)) | exact oi_ld rfl rfl rfl (by first | rfl | assumption | omega | (simp; done) | (simp; omega)) (by first | rfl | assumption | omega | (simp; done) | (simp; omega)) rfl rfl)); (focus (first | exact want_n | exact want_g rfl (by with_reducible rfl)))) | (apply Ws; (focus (exact oi_st (f := intA) rfl rfl rfl (by first | rfl | assumption | omega | (simp; done) | (simp; omega)) (by first | rfl | assumption | omega | (simp; done) | (simp; omega)) rfl (fun _ => rfl) rfl rfl)); (focus (first | exact want_n | exact want_g rfl (by with_reducible rfl)))) | (first | (apply Wv; (focus (first | exact step_ok rfl rfl | exact o_idx rfl rfl rfl rfl (by first | assumption | omega | decide) | exact o_idx3 rfl rfl rfl rfl (by first | assumption | omega | decide) | exact o_idx2 rfl rfl rfl rfl rfl (by first | assumption | omega | decide) | exact o_idxr rfl rfl rfl rfl rfl rfl | exact o_lenm rfl rfl rfl | exact o_len rfl rfl rfl | exact o_len0 rfl rfl rfl | exact o_lens rfl rfl rfl | exact o_lent rfl rfl | exact o_add1 rfl rfl rfl (by omega) | exact o_addn rfl rfl rfl (by omega) | exact o_add rfl rfl rfl (by omega) | exact o_sub1 rfl rfl rfl (by omega) | exact o_sub rfl rfl rfl (by omega) | exact o_mul rfl rfl rfl (by omega) | exact o_rem rfl rfl rfl (by omega) | exact ok_rem rfl rfl rfl (by decide) rfl | exact o_eqKey rfl rfl rfl | exact o_neKey rfl rfl rfl | exact o_eqVl rfl rfl rfl | exact o_neVl rfl rfl rfl | exact o_eqEnt rfl rfl rfl | exact o_neEnt rfl rfl rfl | exact o_eqMsg rfl rfl rfl | exact o_neMsg rfl rfl rfl | exact o_acall rfl rfl rfl rfl (by assumption) | exact o_minn rfl rfl rfl | exact o_cutl rfl rfl rfl rfl (by omega) | exact o_cuth rfl rfl rfl rfl (by omega) | exact o_cutl3 rfl rfl rfl rfl (by omega) | exact o_cuth3 rfl rfl rfl rfl (by omega) | exact o_cutl2 rfl rfl rfl rfl rfl (by omega) | exact o_cuth2 rfl rfl rfl rfl rfl (by omega) | exact o_cutlh2 rfl rfl rfl rfl rfl rfl rfl (by omega) (by omega) | exact o_bld zero_Opn rfl rfl rfl rfl rfl rfl rfl | exact o_bld zero_Cal rfl rfl rfl rfl rfl rfl rfl | exact o_bld zero_state rfl rfl rfl rfl rfl rfl rfl | exact o_bld zero_search rfl rfl rfl rfl rfl rfl rfl | exact o_nilcr rfl rfl | exact o_nilcp rfl rfl | exact o_eqbar rfl rfl rfl (by simp) (by simp) | exact o_ldbar rfl rfl (by simp) rfl (by first | omega | (simp; omega)) rfl | exact o_idxpn rfl rfl rfl rfl (by omega) | exact o_idxvn rfl rfl rfl rfl (by omega) (by assumption) rfl | exact o_idxrn rfl rfl rfl rfl (by omega) (by assumption) | exact o_cutarr rfl rfl rfl rfl | exact o_mkfn rfl rfl rfl | exact o_callv rfl rfl rfl rfl rfl rfl (by assumption) | exact o_bld zero_Ans rfl rfl rfl rfl rfl rfl rfl | exact o_eqAns rfl rfl rfl | exact o_neAns rfl rfl rfl | exact e_bld rfl rfl rfl | exact e_bldk rfl rfl | exact z_bld0 rfl rfl rfl rfl rfl | exact z_bld rfl rfl rfl rfl rfl rfl rfl | exact o_addu rfl rfl rfl | exact z_blda rfl rfl rfl rfl rfl rfl rfl rfl rfl | exact o_idxa rfl rfl rfl rfl rfl rfl | exact o_idxra rfl rfl rfl rfl rfl rfl rfl | exact o_quo2 rfl rfl rfl (by omega) | exact o_quo rfl rfl rfl (by omega))); (focus (first | exact want_n | exact want_g rfl (by with_reducible rfl)))) | (apply Wb; (focus (first | exact o_box rfl rfl rfl rfl | exact o_app rfl rfl rfl rfl rfl (by first | exact o_many rfl | exact o_one _ _ rfl) (by first | omega | (simp; omega) | simp) (by first | omega | (simp; omega) | simp) | exact o_appn rfl rfl rfl rfl rfl (by first | exact o_many rfl | exact o_one _ _ rfl) (by first | omega | (simp; omega) | simp) (by first | omega | (simp; omega) | simp) | exact o_app1 rfl rfl rfl rfl rfl (by first | exact o_many rfl | exact o_one _ _ rfl) (by exact rfl) (by first | omega | (simp; omega) | simp) (by first | omega | (simp; omega) | simp) | exact o_app0 rfl rfl rfl rfl rfl (by first | exact o_many rfl | exact o_one _ _ rfl) (by first | omega | (simp; omega) | simp) (by first | omega | (simp; omega) | simp) | exact o_bsl0 rfl rfl rfl | exact z_bsll rfl rfl rfl rfl rfl rfl rfl rfl rfl | exact z_alloc rfl rfl rfl | exact o_alloc zero_Opn rfl rfl | exact o_alloc zero_Cal rfl rfl | exact o_alloc zero_state rfl rfl | exact o_alloc zero_b14 rfl rfl | exact o_cpents rfl rfl rfl rfl rfl rfl (by omega) | exact o_alloc zero_Ans rfl rfl | exact o_bsll zero_Ans rfl rfl rfl rfl rfl rfl rfl rfl | exact o_bsll zero_Opn rfl rfl rfl rfl rfl rfl rfl rfl)); (focus (first | exact want_n | exact want_g rfl (by with_reducible rfl)))) | (apply Ws; (focus (first | exact o_stin rfl (by simp) rfl rfl (by first | omega | (simp; omega)) rfl | exact o_stbar rfl (by simp) rfl rfl (by first | omega | (simp; omega)) rfl | exact ok_store tabT (d := none) rfl rfl rfl rfl rfl rfl rfl rfl rfl rfl)); (focus (first | exact want_n | exact want_g rfl (by with_reducible rfl)))) | (refine Wskip (by first | exact want_f rfl (by with_reducible exact b_nt) | exact want_f rfl (by with_reducible exact b_nf) | exact want_t rfl) rfl ?_) | refine Wgt rfl rfl (by first | assumption | omega | exact rfl) ?_ | refine Wgf rfl rfl (by first | assumption | omega | exact rfl) ?_ | (refine Wgb rfl rfl (by with_reducible assumption) ?_) | (refine cb_is _ (by assumption) ?_)))))
    refine ⟨i + 1, c1, by omega, ?_⟩
    rw [hset]
    (refine Go2.sub ⟨?_, ?_, ?_⟩ <;> repeat' (first | exact True.intro | rfl | apply And.intro))
  · obtain rfl : i = c.length := by omega
    have hln0 : c.length = (shL (kk : Nat) cl c c.length).length := by simp
    repeat (first | (refine AW_go (S' := ⟨[(28, .v (.bool (decide ((c.length : Int) < (c.length : Int))))), (9, calsA c), (10, .own 20 27 c.length .row)], [(20, .own 46 27 ((shL (kk : Nat) cl c c.length).map Cal.av))]⟩) ?_ ?_; (focus ((refine Go2.sub ⟨?_, ?_, ?_⟩ <;> repeat' (first | exact True.intro | rfl | apply And.intro)); done)); rw [show (AV.own 20 27 c.length .row) = AV.own 20 27 ((shL (kk : Nat) cl c c.length).map Cal.av).length .row by rw [List.length_map, shL_len]]; refine AW_go (Go2.thaw (S' := ⟨[(28, .v (.bool (decide ((c.length : Int) < (c.length : Int))))), (9, calsA c), (10, .sl (some 20) 27 ((shL (kk : Nat) cl c c.length).map Cal.av))], [(20, .tail 46 27 ((shL (kk : Nat) cl c c.length).map Cal.av).length)]⟩) 20 rfl (by repeat' (first | exact True.intro | rfl | apply And.intro | (simp; done))) (by repeat' (first | exact True.intro | rfl | apply And.intro | (simp; done))) rfl) ?_) | (apply Wv; (focus (exact oc_len (f := Cal.av) rfl rfl rfl rfl hln0)); (focus (first | exact want_n | exact want_g rfl (by with_reducible rfl)))) | (first | (first | refine Wend _ ?_ | refine AW_seq ?_ | refine AW_reg ?_ | refine AW_drw mixed ?_ | refine AW_block ?_ | refine AW_scope ?_ | refine thenA_n ?_ | refine blockA_n ?_ | refine blockA_h ?_ | refine scopeA_n ?_ | refine thenA_r ?_ | refine blockA_r ?_ | refine scopeA_r ?_ | refine thenA_e ?_ | refine scopeA_e ?_ | refine blockA_e rfl ?_ | refine AW_exit ?_ | refine AW_ret ?_ | refine AW_skip ?_ | refine AW_c rfl ?_ | with_reducible refine cb_t ?_ | with_reducible refine cb_f ?_ | with_reducible refine cb_yes (by first | assumption | omega) ?_ | with_reducible refine cb_no (by first | assumption | omega) ?_ | refine And.intro (by decide +kernel) ?_) | (first | (apply Wb; (focus (first | exact o_bsl0O rfl rfl rfl | exact oo_app0 rfl rfl rfl rfl rfl (by first | exact o_many rfl | exact o_one _ _ rfl | exact o_zero rfl) (by first | omega | (simp; omega) | (simp; done)) (by first | omega | (simp; omega) | (simp; done)))); (focus (first | exact want_n | exact want_g rfl (by with_reducible rfl)))) | (apply Wv; (focus (first | exact oi_len rfl rfl rfl rfl (by first | rfl | assumption | omega | (simp; done) | (simp; omega)) | exact oi_idx rfl rfl rfl rfl rfl rfl (by first | rfl | assumption | omega | (simp; done) | (simp; omega)) (by first | rfl | assumption | omega | (simp; done) | (simp; omega)) | exact oi_ld rfl rfl rfl (by first | rfl | assumption | omega | (simp; done) | (simp; omega)) (by first | rfl | assumption | omega | (simp; done) | (simp; omega)) rfl rfl)); (focus (first | exact want_n | exact want_g rfl (by with_reducible rfl)))) | (apply Ws; (focus (exact oi_st (f := intA) rfl rfl rfl (by first | rfl | assumption | omega | (simp; done) | (simp; omega)) (by first | rfl | assumption | omega | (simp; done) | (simp; omega)) rfl (fun _ => rfl) rfl rfl)); (focus (first | exact want_n | exact want_g rfl (by with_reducible rfl)))) | (first | (apply Wv; (focus (first | exact step_ok rfl rfl | exact o_idx rfl rfl rfl rfl (by first | assumption | omega | decide) | exact o_idx3 rfl rfl rfl rfl (by first | assumption | omega | decide) | exact o_idx2 rfl rfl rfl rfl rfl (by first | assumption | omega | decide) | exact o_idxr rfl rfl rfl rfl rfl rfl | exact o_lenm rfl rfl rfl | exact o_len rfl rfl rfl | exact o_len0 rfl rfl rfl | exact o_lens rfl rfl rfl | exact o_lent rfl rfl | exact o_add1 rfl rfl rfl (by omega) | exact o_addn rfl rfl rfl (by omega) | exact o_add rfl rfl rfl (by omega) | exact o_sub1 rfl rfl rfl (by omega) | exact o_sub rfl rfl rfl (by omega) | exact o_mul rfl rfl rfl (by omega) | exact o_rem rfl rfl rfl (by omega) | exact ok_rem rfl rfl rfl (by decide) rfl | exact o_eqKey rfl rfl rfl | exact o_neKey rfl rfl rfl | exact o_eqVl rfl rfl rfl | exact o_neVl rfl rfl rfl | exact o_eqEnt rfl rfl rfl | exact o_neEnt rfl rfl rfl | exact o_eqMsg rfl rfl rfl | exact o_neMsg rfl rfl rfl | exact o_acall rfl rfl rfl rfl (by assumption) | exact o_minn rfl rfl rfl | exact o_cutl rfl rfl rfl rfl (by omega) | exact o_cuth rfl rfl rfl rfl (by omega) | exact o_cutl3 rfl rfl rfl rfl (by omega) | exact o_cuth3 rfl rfl rfl rfl (by omega) | exact o_cutl2 rfl rfl rfl rfl rfl (by omega) | exact o_cuth2 rfl rfl rfl rfl rfl (by omega) | exact o_cutlh2 rfl rfl rfl rfl rfl rfl rfl (by omega) (by omega) | exact o_bld zero_Opn rfl rfl rfl rfl rfl rfl rfl | exact o_bld zero_Cal rfl rfl rfl rfl rfl rfl rfl | exact o_bld zero_state rfl rfl rfl rfl rfl rfl rfl | exact o_bld zero_search rfl rfl rfl rfl rfl rfl rfl | exact o_nilcr rfl rfl | exact o_nilcp rfl rfl | exact o_eqbar rfl rfl rfl (by simp) (by simp) | exact o_ldbar rfl rfl (by simp) rfl (by first | omega | (simp; omega)) rfl | exact o_idxpn rfl rfl rfl rfl (by omega) | exact o_idxvn rfl rfl rfl rfl (by omega) (by assumption) rfl | exact o_idxrn rfl rfl rfl rfl (by omega) (by assumption) | exact o_cutarr rfl rfl rfl rfl | exact o_mkfn rfl rfl rfl | exact o_callv rfl rfl rfl rfl rfl rfl (by assumption) | exact o_bld zero_Ans rfl rfl rfl rfl rfl rfl rfl | exact o_eqAns rfl rfl rfl | exact o_neAns rfl rfl rfl | exact e_bld rfl rfl rfl | exact e_bldk rfl rfl | exact z_bld0 rfl rfl rfl rfl rfl | exact z_bld rfl rfl rfl rfl rfl rfl rfl | exact o_addu rfl rfl rfl | exact z_blda rfl rfl rfl rfl rfl rfl rfl rfl rfl | exact o_idxa rfl rfl rfl rfl rfl rfl | exact o_idxra rfl rfl rfl rfl rfl rfl rfl | exact o_quo2 rfl rfl rfl (by omega) | exact o_quo rfl rfl rfl (by omega))); (focus (first | exact want_n | exact want_g rfl (by with_reducible rfl)))) | (apply Wb; (focus (first | exact o_box rfl rfl rfl rfl | exact o_app rfl rfl rfl rfl rfl (by first | exact o_many rfl | exact o_one _ _ rfl) (by first | omega | (simp; omega) | simp) (by first | omega | (simp; omega) | simp) | exact o_appn rfl rfl rfl rfl rfl (by first | exact o_many rfl | exact o_one _ _ rfl) (by first | omega | (simp; omega) | simp) (by first | omega | (simp; omega) | simp) | exact o_app1 rfl rfl rfl rfl rfl (by first | exact o_many rfl | exact o_one _ _ rfl) (by exact rfl) (by first | omega | (simp; omega) | simp) (by first | omega | (simp; omega) | simp) | exact o_app0 rfl rfl rfl rfl rfl (by first | exact o_many rfl | exact o_one _ _ rfl) (by first | omega | (simp; omega) | simp) (by first | omega | (simp; omega) | simp) | exact o_bsl0 rfl rfl rfl | exact z_bsll rfl rfl rfl rfl rfl rfl rfl rfl rfl | exact z_alloc rfl rfl rfl | exact o_alloc zero_Opn rfl rfl | exact o_alloc zero_Cal rfl rfl | exact o_alloc zero_state rfl rfl | exact o_alloc zero_b14 rfl rfl | exact o_cpents rfl rfl rfl rfl rfl rfl (by omega) | exact o_alloc zero_Ans rfl rfl | exact o_bsll zero_Ans rfl rfl rfl rfl rfl rfl rfl rfl | exact o_bsll zero_Opn rfl rfl rfl rfl rfl rfl rfl rfl)); (focus (first | exact want_n | exact want_g rfl (by with_reducible rfl)))) | (apply Ws; (focus (first | exact o_stin rfl (by simp) rfl rfl (by first | omega | (simp; omega)) rfl | exact o_stbar rfl (by simp) rfl rfl (by first | omega | (simp; omega)) rfl | exact ok_store tabT (d := none) rfl rfl rfl rfl rfl rfl rfl rfl rfl rfl)); (focus (first | exact want_n | exact want_g rfl (by with_reducible rfl)))) | (refine Wskip (by first | exact want_f rfl (by with_reducible exact b_nt) | exact want_f rfl (by with_reducible exact b_nf) | exact want_t rfl) rfl ?_) | refine Wgt rfl rfl (by first | assumption | omega | exact rfl) ?_ | refine Wgf rfl rfl (by first | assumption | omega | exact rfl) ?_ | (refine Wgb rfl rfl (by with_reducible assumption) ?_) | (refine cb_is _ (by assumption) ?_)))))
    exact fin ⟨res_of rfl rfl rfl, trivial⟩
theorem lineShifts_walk (v0 : Value) (l0 : List (Int)) (v1 : Value) (l1 : List (BitVec 8)) (n2 : Int) (n3 : Int) (w : World) (s0 : Sl ie 1 w v0 l0) (g0 : ∀ n ∈ l0, -9223372036854775808 ≤ n ∧ n ≤ 9223372036854775807) (z0 : l0.length ≤ 17592186043904) (s1 : Sl be 1 w v1 l1) (b2 : -9223372036854775808 ≤ n2 ∧ n2 ≤ 9223372036854775807) (b3 : -9223372036854775808 ≤ n3 ∧ n3 ≤ 9223372036854775807) :
    Calls Try.prog 9 #[v0, v1, .int .i64 n2, .int .i64 n3] w (Is w (.bool true)) :=
  law_of (a_lshifts l0 g0 z0 l1 n2 n3 b2) (rdp_cons rfl (ints_in s0) (rdp_cons rfl (bytes_in s1) (rdp_cons rfl int_in (rdp_cons rfl int_in rdp_nil'))))
end Go.Proofs.Ytphojngdgmnpaaa
