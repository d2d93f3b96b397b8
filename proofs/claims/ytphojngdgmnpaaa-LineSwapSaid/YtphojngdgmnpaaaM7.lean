/-
  M7: several texts as one: LawLine4, LawLine5, LawLine6, LawLine7, LawLine8, LawLine9, LawLine10. No condition beyond those that each theorem states.
-/
import Derived.Test.YtphojngdgmnpaaaM6
namespace Go.Proofs.Ytphojngdgmnpaaa
open Go Go.RowKit
set_option linter.unusedVariables false
set_option linter.unusedSimpArgs false
set_option maxRecDepth 100000
/-- a call by a number: of few keys, under way at once with others, its answer one that may be or not -/
def calN (i : Nat) (v : Int) : Cal :=
  let k := v % 1099511627776
  let o0 := lawOp (k % 4 + k / 4 % 3 * 32)
  let o : Opn := if o0.kind = 3 then { o0 with add := BitVec.ofInt 64 (1 + k / 16384 % 3) } else o0
  let c := callC o (2 * (i : Int)) (2 * (i : Int) + 1 + k / 16 % 7) Ans.zero
  if k / 128 % 8 = 7 then { c with to := -1 }
  else if large o then { c with ans := { Ans.zero with code := 2 } }
  else if o.kind = 4 ∧ k / 1024 % 2 = 0 then { c with ans := { Ans.zero with found := true, val := lawVl (k / 2048 % 3) } }
  else if o.kind ≠ 4 ∧ k / 1024 % 8 = 0 then { c with ans := { Ans.zero with code := 3 } }
  else c
def callsGo : Nat → List Int → List Cal
  | _, [] => []
  | i, v :: vs => calN i v :: callsGo (i + 1) vs
def callsC (l : List Int) (most : Nat) : List Cal := callsGo 0 (l.take most)
theorem callsGo_len : ∀ (l : List Int) (i : Nat), (callsGo i l).length = l.length
  | [], _ => rfl
  | v :: l, i => by simp [callsGo, callsGo_len l]
theorem callsC_len (l : List Int) (most : Nat) : (callsC l most).length = min most l.length := by unfold callsC; rw [callsGo_len, List.length_take]
attribute [local irreducible] OpOK AWops AW CondB Go2 AFn thenA inBlockA noGotoA orderOk wantedA
set_option maxRecDepth 100000 in
set_option maxHeartbeats 8000000 in
theorem a_calls (l : List Int) (hv : ∀ v ∈ l, -9223372036854775808 ≤ v ∧ v ≤ 9223372036854775807) (hl : l.length ≤ 1000000000000000) (most : Nat) (hm : most ≤ 100) :
    AFn Try.prog 11 [intsA l, intA (most : Nat)] (calsA (callsC l most)) := by
  refine AFn_intro Try.func11 rfl Try.ntmps11 rfl (by simp) [_] rfl fun E hE => ?_
  have hnt : (!true) = false := rfl
  have hnf : (!false) = true := rfl
  refine wSS ?_
  refine AW_go (Go2.token 5 5 26 46 rfl rfl) ?_
  refine AW_loopI (fun x : Nat × List Cal => ⟨[(0, intsA l), (1, intA (most : Nat)), (5, .sl (some 5) 27 (x.2.map Cal.av)), (6, intA (x.1 : Nat))], [(5, .tail 46 27 x.2.length)]⟩) (fun x => x.1 ≤ (l.take most).length ∧ x.2.length = x.1 ∧ x.2 ++ callsGo x.1 ((l.take most).drop x.1) = callsC l most) (fun x => (l.take most).length - x.1) (0, []) ⟨Nat.zero_le _, rfl, rfl⟩ (by (refine Go2.sub ⟨?_, ?_, ?_⟩ <;> repeat' (first | exact True.intro | rfl | apply And.intro))) (fun x hx => ?_)
  obtain ⟨i, acc⟩ := x
  obtain ⟨hi, hal, hF⟩ := hx
  dsimp only at hi hal hF ⊢
  have htl : (l.take most).length = min most l.length := List.length_take
  have end_ : (l.take most).length ≤ i → acc = callsC l most := fun h => by
    rw [List.drop_of_length_le h] at hF
    simpa [callsGo] using hF
  by_cases c1 : i < l.length
  · by_cases c2 : i < most
    · have c2i : (i : Int) < (most : Nat) := by omega
      have hlt : i < (l.take most).length := by omega
      have hvi := hv l[i] (List.getElem_mem c1)
      have hget : (l.take most)[i] = l[i] := List.getElem_take
      rw [List.drop_eq_getElem_cons hlt, hget] at hF
      have c5 := a_lplace l[i] 1099511627776 (by omega) (by omega) hvi
      unfold callsGo calN at hF
      dsimp only at hF
      obtain ⟨k, hk⟩ : ∃ k : Nat, l[i] % 1099511627776 = (k : Int) := ⟨(l[i] % 1099511627776).toNat, by omega⟩
      have hkb : k < 1099511627776 := by omega
      rw [hk] at c5 hF
      have co := a_lop ((k : Int) % 4 + (k : Int) / 4 % 3 * 32) (by omega)
      generalize lawOp ((k : Int) % 4 + (k : Int) / 4 % 3 * 32) = o0 at co hF
      have d1 := acall Try.func17 (c5) (by decide +kernel) (by decide +kernel)
      have d2 := acall Try.func26 (co) (by decide +kernel) (by decide +kernel)
--CASES
      by_cases h3 : o0.kind = 3
      · rw [if_pos h3] at hF
        refine wSS ?_
        (apply Wv; (focus (exact o_convu ⟨_, Try.underlying3⟩ Try.underlying36 rfl rfl)); (focus (first | exact want_n | exact want_g rfl (by with_reducible rfl))))
        have hkind : ({ o0 with add := BitVec.ofInt 64 (1 + (k : Int) / 16384 % 3) }).kind = o0.kind := rfl
        have cc := a_call25 ({ o0 with add := BitVec.ofInt 64 (1 + (k : Int) / 16384 % 3) }) (2 * (i : Int)) (2 * (i : Int) + 1 + (k : Int) / 16 % 7) Ans.zero
        have cl := a_ref23large ({ o0 with add := BitVec.ofInt 64 (1 + (k : Int) / 16384 % 3) })
        have d3 := acall Try.func22 (cc) (by decide +kernel) (by decide +kernel)
        by_cases h7 : (k : Int) / 128 % 8 = 7
        · rw [if_pos h7] at hF
          refine wSS ?_
          (apply Wb; (focus (exact o_bsll zero_Cal rfl rfl rfl rfl rfl rfl rfl rfl)); (focus (first | exact want_n | exact want_g rfl (by with_reducible rfl))))
          (apply Wb; (focus (exact o_app (f := Cal.av) (tk := 5) (xs := acc) (zs := [{ callC ({ o0 with add := BitVec.ofInt 64 (1 + (k : Int) / 16384 % 3) }) (2 * (i : Int)) (2 * (i : Int) + 1 + (k : Int) / 16 % 7) Ans.zero with to := -1 }]) rfl rfl rfl rfl rfl (by exact o_one Cal.av ({ callC ({ o0 with add := BitVec.ofInt 64 (1 + (k : Int) / 16384 % 3) }) (2 * (i : Int)) (2 * (i : Int) + 1 + (k : Int) / 16 % 7) Ans.zero with to := -1 }) rfl) (by simp; omega) (by simp; omega))); (focus (first | exact want_n | exact want_g rfl (by with_reducible rfl))))
          refine wSS ?_
          refine ⟨(i + 1, acc ++ [{ callC ({ o0 with add := BitVec.ofInt 64 (1 + (k : Int) / 16384 % 3) }) (2 * (i : Int)) (2 * (i : Int) + 1 + (k : Int) / 16 % 7) Ans.zero with to := -1 }]), ⟨hlt, by simp [hal], by show (acc ++ [_]) ++ _ = _; rw [List.append_assoc]; exact hF⟩, by show (l.take most).length - (i + 1) < (l.take most).length - i; omega, ?_⟩
          (refine Go2.sub ⟨?_, ?_, ?_⟩ <;> repeat' (first | exact True.intro | rfl | apply And.intro))
        rw [if_neg h7] at hF
        cases hL : large ({ o0 with add := BitVec.ofInt 64 (1 + (k : Int) / 16384 % 3) })
        case true =>
          rw [if_pos hL] at hF
          rw [hL] at cl
          have d4 := acall Try.func27 (cl) (by decide +kernel) (by decide +kernel)
          refine wSS ?_
          (apply Wb; (focus (exact o_bsll zero_Cal rfl rfl rfl rfl rfl rfl rfl rfl)); (focus (first | exact want_n | exact want_g rfl (by with_reducible rfl))))
          (apply Wb; (focus (exact o_app (f := Cal.av) (tk := 5) (xs := acc) (zs := [{ callC ({ o0 with add := BitVec.ofInt 64 (1 + (k : Int) / 16384 % 3) }) (2 * (i : Int)) (2 * (i : Int) + 1 + (k : Int) / 16 % 7) Ans.zero with ans := { Ans.zero with code := 2 } }]) rfl rfl rfl rfl rfl (by exact o_one Cal.av ({ callC ({ o0 with add := BitVec.ofInt 64 (1 + (k : Int) / 16384 % 3) }) (2 * (i : Int)) (2 * (i : Int) + 1 + (k : Int) / 16 % 7) Ans.zero with ans := { Ans.zero with code := 2 } }) rfl) (by simp; omega) (by simp; omega))); (focus (first | exact want_n | exact want_g rfl (by with_reducible rfl))))
          refine wSS ?_
          refine ⟨(i + 1, acc ++ [{ callC ({ o0 with add := BitVec.ofInt 64 (1 + (k : Int) / 16384 % 3) }) (2 * (i : Int)) (2 * (i : Int) + 1 + (k : Int) / 16 % 7) Ans.zero with ans := { Ans.zero with code := 2 } }]), ⟨hlt, by simp [hal], by show (acc ++ [_]) ++ _ = _; rw [List.append_assoc]; exact hF⟩, by show (l.take most).length - (i + 1) < (l.take most).length - i; omega, ?_⟩
          (refine Go2.sub ⟨?_, ?_, ?_⟩ <;> repeat' (first | exact True.intro | rfl | apply And.intro))
        case false =>
        rw [if_neg (by rw [hL]; simp)] at hF
        rw [hL] at cl
        have d4 := acall Try.func27 (cl) (by decide +kernel) (by decide +kernel)
        by_cases h4 : o0.kind = 4
        · exfalso; omega
        · by_cases h8 : (k : Int) / 1024 % 8 = 0
          · rw [if_neg (fun h => h4 h.1), if_pos ⟨h4, h8⟩] at hF
            refine wSS ?_
            (apply Wb; (focus (exact o_bsll zero_Cal rfl rfl rfl rfl rfl rfl rfl rfl)); (focus (first | exact want_n | exact want_g rfl (by with_reducible rfl))))
            (apply Wb; (focus (exact o_app (f := Cal.av) (tk := 5) (xs := acc) (zs := [{ callC ({ o0 with add := BitVec.ofInt 64 (1 + (k : Int) / 16384 % 3) }) (2 * (i : Int)) (2 * (i : Int) + 1 + (k : Int) / 16 % 7) Ans.zero with ans := { Ans.zero with code := 3 } }]) rfl rfl rfl rfl rfl (by exact o_one Cal.av ({ callC ({ o0 with add := BitVec.ofInt 64 (1 + (k : Int) / 16384 % 3) }) (2 * (i : Int)) (2 * (i : Int) + 1 + (k : Int) / 16 % 7) Ans.zero with ans := { Ans.zero with code := 3 } }) rfl) (by simp; omega) (by simp; omega))); (focus (first | exact want_n | exact want_g rfl (by with_reducible rfl))))
            refine wSS ?_
            refine ⟨(i + 1, acc ++ [{ callC ({ o0 with add := BitVec.ofInt 64 (1 + (k : Int) / 16384 % 3) }) (2 * (i : Int)) (2 * (i : Int) + 1 + (k : Int) / 16 % 7) Ans.zero with ans := { Ans.zero with code := 3 } }]), ⟨hlt, by simp [hal], by show (acc ++ [_]) ++ _ = _; rw [List.append_assoc]; exact hF⟩, by show (l.take most).length - (i + 1) < (l.take most).length - i; omega, ?_⟩
            (refine Go2.sub ⟨?_, ?_, ?_⟩ <;> repeat' (first | exact True.intro | rfl | apply And.intro))
          · rw [if_neg (fun h => h4 h.1), if_neg (fun h => h8 h.2)] at hF
            refine wSS ?_
            (apply Wb; (focus (exact o_bsll zero_Cal rfl rfl rfl rfl rfl rfl rfl rfl)); (focus (first | exact want_n | exact want_g rfl (by with_reducible rfl))))
            (apply Wb; (focus (exact o_app (f := Cal.av) (tk := 5) (xs := acc) (zs := [callC ({ o0 with add := BitVec.ofInt 64 (1 + (k : Int) / 16384 % 3) }) (2 * (i : Int)) (2 * (i : Int) + 1 + (k : Int) / 16 % 7) Ans.zero]) rfl rfl rfl rfl rfl (by exact o_one Cal.av (callC ({ o0 with add := BitVec.ofInt 64 (1 + (k : Int) / 16384 % 3) }) (2 * (i : Int)) (2 * (i : Int) + 1 + (k : Int) / 16 % 7) Ans.zero) rfl) (by simp; omega) (by simp; omega))); (focus (first | exact want_n | exact want_g rfl (by with_reducible rfl))))
            refine wSS ?_
            refine ⟨(i + 1, acc ++ [callC ({ o0 with add := BitVec.ofInt 64 (1 + (k : Int) / 16384 % 3) }) (2 * (i : Int)) (2 * (i : Int) + 1 + (k : Int) / 16 % 7) Ans.zero]), ⟨hlt, by simp [hal], by show (acc ++ [_]) ++ _ = _; rw [List.append_assoc]; exact hF⟩, by show (l.take most).length - (i + 1) < (l.take most).length - i; omega, ?_⟩
            (refine Go2.sub ⟨?_, ?_, ?_⟩ <;> repeat' (first | exact True.intro | rfl | apply And.intro))
      · rw [if_neg h3] at hF
        have hkind : (o0).kind = o0.kind := rfl
        have cc := a_call25 (o0) (2 * (i : Int)) (2 * (i : Int) + 1 + (k : Int) / 16 % 7) Ans.zero
        have cl := a_ref23large (o0)
        have d3 := acall Try.func22 (cc) (by decide +kernel) (by decide +kernel)
        by_cases h7 : (k : Int) / 128 % 8 = 7
        · rw [if_pos h7] at hF
          refine wSS ?_
          (apply Wb; (focus (exact o_bsll zero_Cal rfl rfl rfl rfl rfl rfl rfl rfl)); (focus (first | exact want_n | exact want_g rfl (by with_reducible rfl))))
          (apply Wb; (focus (exact o_app (f := Cal.av) (tk := 5) (xs := acc) (zs := [{ callC (o0) (2 * (i : Int)) (2 * (i : Int) + 1 + (k : Int) / 16 % 7) Ans.zero with to := -1 }]) rfl rfl rfl rfl rfl (by exact o_one Cal.av ({ callC (o0) (2 * (i : Int)) (2 * (i : Int) + 1 + (k : Int) / 16 % 7) Ans.zero with to := -1 }) rfl) (by simp; omega) (by simp; omega))); (focus (first | exact want_n | exact want_g rfl (by with_reducible rfl))))
          refine wSS ?_
          refine ⟨(i + 1, acc ++ [{ callC (o0) (2 * (i : Int)) (2 * (i : Int) + 1 + (k : Int) / 16 % 7) Ans.zero with to := -1 }]), ⟨hlt, by simp [hal], by show (acc ++ [_]) ++ _ = _; rw [List.append_assoc]; exact hF⟩, by show (l.take most).length - (i + 1) < (l.take most).length - i; omega, ?_⟩
          (refine Go2.sub ⟨?_, ?_, ?_⟩ <;> repeat' (first | exact True.intro | rfl | apply And.intro))
        rw [if_neg h7] at hF
        cases hL : large (o0)
        case true =>
          rw [if_pos hL] at hF
          rw [hL] at cl
          have d4 := acall Try.func27 (cl) (by decide +kernel) (by decide +kernel)
          refine wSS ?_
          (apply Wb; (focus (exact o_bsll zero_Cal rfl rfl rfl rfl rfl rfl rfl rfl)); (focus (first | exact want_n | exact want_g rfl (by with_reducible rfl))))
          (apply Wb; (focus (exact o_app (f := Cal.av) (tk := 5) (xs := acc) (zs := [{ callC (o0) (2 * (i : Int)) (2 * (i : Int) + 1 + (k : Int) / 16 % 7) Ans.zero with ans := { Ans.zero with code := 2 } }]) rfl rfl rfl rfl rfl (by exact o_one Cal.av ({ callC (o0) (2 * (i : Int)) (2 * (i : Int) + 1 + (k : Int) / 16 % 7) Ans.zero with ans := { Ans.zero with code := 2 } }) rfl) (by simp; omega) (by simp; omega))); (focus (first | exact want_n | exact want_g rfl (by with_reducible rfl))))
          refine wSS ?_
          refine ⟨(i + 1, acc ++ [{ callC (o0) (2 * (i : Int)) (2 * (i : Int) + 1 + (k : Int) / 16 % 7) Ans.zero with ans := { Ans.zero with code := 2 } }]), ⟨hlt, by simp [hal], by show (acc ++ [_]) ++ _ = _; rw [List.append_assoc]; exact hF⟩, by show (l.take most).length - (i + 1) < (l.take most).length - i; omega, ?_⟩
          (refine Go2.sub ⟨?_, ?_, ?_⟩ <;> repeat' (first | exact True.intro | rfl | apply And.intro))
        case false =>
        rw [if_neg (by rw [hL]; simp)] at hF
        rw [hL] at cl
        have d4 := acall Try.func27 (cl) (by decide +kernel) (by decide +kernel)
        by_cases h4 : o0.kind = 4
        · by_cases h2 : (k : Int) / 1024 % 2 = 0
          · rw [if_pos ⟨h4, h2⟩] at hF
            have cv := a_lval ((k : Int) / 2048 % 3) (by omega)
            have d5 := acall Try.func21 (cv) (by decide +kernel) (by decide +kernel)
            refine wSS ?_
            (apply Wb; (focus (exact o_bsll zero_Cal rfl rfl rfl rfl rfl rfl rfl rfl)); (focus (first | exact want_n | exact want_g rfl (by with_reducible rfl))))
            (apply Wb; (focus (exact o_app (f := Cal.av) (tk := 5) (xs := acc) (zs := [{ callC (o0) (2 * (i : Int)) (2 * (i : Int) + 1 + (k : Int) / 16 % 7) Ans.zero with ans := { Ans.zero with found := true, val := lawVl ((k : Int) / 2048 % 3) } }]) rfl rfl rfl rfl rfl (by exact o_one Cal.av ({ callC (o0) (2 * (i : Int)) (2 * (i : Int) + 1 + (k : Int) / 16 % 7) Ans.zero with ans := { Ans.zero with found := true, val := lawVl ((k : Int) / 2048 % 3) } }) rfl) (by simp; omega) (by simp; omega))); (focus (first | exact want_n | exact want_g rfl (by with_reducible rfl))))
            refine wSS ?_
            refine ⟨(i + 1, acc ++ [{ callC (o0) (2 * (i : Int)) (2 * (i : Int) + 1 + (k : Int) / 16 % 7) Ans.zero with ans := { Ans.zero with found := true, val := lawVl ((k : Int) / 2048 % 3) } }]), ⟨hlt, by simp [hal], by show (acc ++ [_]) ++ _ = _; rw [List.append_assoc]; exact hF⟩, by show (l.take most).length - (i + 1) < (l.take most).length - i; omega, ?_⟩
            (refine Go2.sub ⟨?_, ?_, ?_⟩ <;> repeat' (first | exact True.intro | rfl | apply And.intro))
          · rw [if_neg (fun h => h2 h.2), if_neg (fun h => h.1 h4)] at hF
            refine wSS ?_
            (apply Wb; (focus (exact o_bsll zero_Cal rfl rfl rfl rfl rfl rfl rfl rfl)); (focus (first | exact want_n | exact want_g rfl (by with_reducible rfl))))
            (apply Wb; (focus (exact o_app (f := Cal.av) (tk := 5) (xs := acc) (zs := [callC (o0) (2 * (i : Int)) (2 * (i : Int) + 1 + (k : Int) / 16 % 7) Ans.zero]) rfl rfl rfl rfl rfl (by exact o_one Cal.av (callC (o0) (2 * (i : Int)) (2 * (i : Int) + 1 + (k : Int) / 16 % 7) Ans.zero) rfl) (by simp; omega) (by simp; omega))); (focus (first | exact want_n | exact want_g rfl (by with_reducible rfl))))
            refine wSS ?_
            refine ⟨(i + 1, acc ++ [callC (o0) (2 * (i : Int)) (2 * (i : Int) + 1 + (k : Int) / 16 % 7) Ans.zero]), ⟨hlt, by simp [hal], by show (acc ++ [_]) ++ _ = _; rw [List.append_assoc]; exact hF⟩, by show (l.take most).length - (i + 1) < (l.take most).length - i; omega, ?_⟩
            (refine Go2.sub ⟨?_, ?_, ?_⟩ <;> repeat' (first | exact True.intro | rfl | apply And.intro))
        · by_cases h8 : (k : Int) / 1024 % 8 = 0
          · rw [if_neg (fun h => h4 h.1), if_pos ⟨h4, h8⟩] at hF
            refine wSS ?_
            (apply Wb; (focus (exact o_bsll zero_Cal rfl rfl rfl rfl rfl rfl rfl rfl)); (focus (first | exact want_n | exact want_g rfl (by with_reducible rfl))))
            (apply Wb; (focus (exact o_app (f := Cal.av) (tk := 5) (xs := acc) (zs := [{ callC (o0) (2 * (i : Int)) (2 * (i : Int) + 1 + (k : Int) / 16 % 7) Ans.zero with ans := { Ans.zero with code := 3 } }]) rfl rfl rfl rfl rfl (by exact o_one Cal.av ({ callC (o0) (2 * (i : Int)) (2 * (i : Int) + 1 + (k : Int) / 16 % 7) Ans.zero with ans := { Ans.zero with code := 3 } }) rfl) (by simp; omega) (by simp; omega))); (focus (first | exact want_n | exact want_g rfl (by with_reducible rfl))))
            refine wSS ?_
            refine ⟨(i + 1, acc ++ [{ callC (o0) (2 * (i : Int)) (2 * (i : Int) + 1 + (k : Int) / 16 % 7) Ans.zero with ans := { Ans.zero with code := 3 } }]), ⟨hlt, by simp [hal], by show (acc ++ [_]) ++ _ = _; rw [List.append_assoc]; exact hF⟩, by show (l.take most).length - (i + 1) < (l.take most).length - i; omega, ?_⟩
            (refine Go2.sub ⟨?_, ?_, ?_⟩ <;> repeat' (first | exact True.intro | rfl | apply And.intro))
          · rw [if_neg (fun h => h4 h.1), if_neg (fun h => h8 h.2)] at hF
            refine wSS ?_
            (apply Wb; (focus (exact o_bsll zero_Cal rfl rfl rfl rfl rfl rfl rfl rfl)); (focus (first | exact want_n | exact want_g rfl (by with_reducible rfl))))
            (apply Wb; (focus (exact o_app (f := Cal.av) (tk := 5) (xs := acc) (zs := [callC (o0) (2 * (i : Int)) (2 * (i : Int) + 1 + (k : Int) / 16 % 7) Ans.zero]) rfl rfl rfl rfl rfl (by exact o_one Cal.av (callC (o0) (2 * (i : Int)) (2 * (i : Int) + 1 + (k : Int) / 16 % 7) Ans.zero) rfl) (by simp; omega) (by simp; omega))); (focus (first | exact want_n | exact want_g rfl (by with_reducible rfl))))
            refine wSS ?_
            refine ⟨(i + 1, acc ++ [callC (o0) (2 * (i : Int)) (2 * (i : Int) + 1 + (k : Int) / 16 % 7) Ans.zero]), ⟨hlt, by simp [hal], by show (acc ++ [_]) ++ _ = _; rw [List.append_assoc]; exact hF⟩, by show (l.take most).length - (i + 1) < (l.take most).length - i; omega, ?_⟩
            (refine Go2.sub ⟨?_, ?_, ?_⟩ <;> repeat' (first | exact True.intro | rfl | apply And.intro))
--END
    · have c2i : ¬ (i : Int) < (most : Nat) := by omega
      rw [← end_ (by omega)]
      refine wSS ?_
      exact fin ⟨res_sl rfl, trivial⟩
  · rw [← end_ (by omega)]
    refine wSS ?_
    exact fin ⟨res_sl rfl, trivial⟩
end Go.Proofs.Ytphojngdgmnpaaa

namespace Go.Proofs.Ytphojngdgmnpaaa
open Go Go.RowKit
set_option linter.unusedVariables false
set_option linter.unusedSimpArgs false
set_option maxRecDepth 100000
section
variable {E : Env} {nt : Nat} {ops : Array Oper} {T : Nat → Option AV} {H : Hp} {d : Option Nat} {ty : TypeId} {pos : String} {af : Array Edge} {gd : Option (Nat × Bool)}
theorem oi_len {x : Operand} {t e e' : TypeId} {es bytes : Nat} {ea : Bool} {g n len : Nat} {f : Int → AV} {xs : List (Int)} (hs : tabT.ti t = some (.sl e es bytes ea)) (hd : dOk nt d = true) (hx : evalO T x = some (.own g n len .row)) (hg : H g = some (.own e' n (xs.map f))) (hl : len = xs.length) :
    OpOK Try.prog E nt ops ⟨d, .call { callee := .builtin .len, args := #[x], argTypes := #[t] }, ty, pos, af, gd⟩ T H [g] ⟨.v (.int .i64 (len : Nat)), []⟩ := ok_len_own hs hd hx hg (by simpa using hl)
theorem oi_idx {x ix : Operand} {t e : TypeId} {es bytes : Nat} {ea : Bool} {g len : Nat} {f : Int → AV} {xs : List (Int)} {k : IntKind} {n : Int} {i : Nat} (hd : dOk nt d = true) (hs : tabT.ti t = some (.sl e es bytes ea)) (hx : evalO T x = some (.own g es len .row)) (hg : H g = some (.own e es (xs.map f))) (hi : evalO T ix = some (.v (.int k n))) (hn : natOf n = some i)
    (hl : len = xs.length) (hlt : i < len) : OpOK Try.prog E nt ops ⟨d, .indexAddr t x ix, ty, pos, af, gd⟩ T H [g] ⟨.own g es len (.at (i * es) [i]), []⟩ := by
  subst hl
  exact oo_idx hd hs hx hg hi hn hlt
theorem oi_ld {x : Operand} {t e : TypeId} {g len i : Nat} {f : Int → AV} {xs : List (Int)} (hd : dOk nt d = true) (hx : evalO T x = some (.own g 1 len (.at (i * 1) [i]))) (hg : H g = some (.own e 1 (xs.map f))) (hl : len = xs.length) (hlt : i < xs.length) (hs : tabT.sa t = some (isAggA (f xs[i]), 1)) (h1 : sizeA (f xs[i]) = 1) :
    OpOK Try.prog E nt ops ⟨d, .load t x, ty, pos, af, gd⟩ T H [g] ⟨f xs[i], []⟩ := by
  subst hl
  exact oo_load hd hx hg (by omega) (by simp [subA, hlt]) (by simp [offA]) (by rw [h1]; exact hs)
theorem oi_st {x y : Operand} {t e : TypeId} {g len i : Nat} {b : Int} {f : Int → AV} {xs : List (Int)} (hx : evalO T x = some (.own g 1 len (.at (i * 1) [i]))) (hy : evalO T y = some (f b)) (hg : H g = some (.own e 1 (xs.map f))) (hl : len = xs.length) (hlt : i < xs.length) (hs : tabT.sa t = some (isAggA (f b), 1)) (h1 : ∀ a, sizeA (f a) = 1) (hdt : dataA (f b) = true) (hnt : notTup (f b) = true) :
    OpOK Try.prog E nt ops ⟨none, .store t x y, ty, pos, af, gd⟩ T H [g] ⟨.tup [], [(g, .own e 1 ((xs.set i b).map f))]⟩ := by
  subst hl
  exact oo_store hx hy hg (by omega) (old := f xs[i]) (by simp [subA, hlt]) (by simp [offA]) (by simp [setA, hlt, hdt, List.map_set]) (by rw [h1]; exact hs) (by rw [h1, h1]) hnt
end
/-- the numbers ahead of a place, but each fifth, within 0 to 6 -/
def mx (j : Nat) (l : List Int) : List Int := (List.range l.length).map fun i => if i < j ∧ 0 < i % 5 then l.getD i 0 % 7 else l.getD i 0
@[simp] theorem mx_len (j : Nat) (l : List Int) : (mx j l).length = l.length := by simp [mx]
attribute [local irreducible] OpOK AWops AW CondB Go2 AFn thenA inBlockA noGotoA orderOk wantedA
end Go.Proofs.Ytphojngdgmnpaaa

namespace Go.Proofs.Ytphojngdgmnpaaa
open Go Go.RowKit
set_option linter.unusedVariables false
set_option linter.unusedSimpArgs false
set_option maxRecDepth 100000
section
variable {E : Env} {nt : Nat} {T : Nat → Option AV} {H : Hp}
end
def rowM (ops : List Int) (j : Nat) : List Int := (List.range j).map fun i => if i < ops.length then ops.getD i 0 else 3 + 4 * (i : Int)
@[simp] theorem rowM_len (ops : List Int) (j : Nat) : (rowM ops j).length = j := by simp [rowM]
attribute [local irreducible] OpOK AWops AW CondB Go2 AFn thenA inBlockA noGotoA orderOk wantedA
end Go.Proofs.Ytphojngdgmnpaaa

namespace Go.Proofs.Ytphojngdgmnpaaa
open Go Go.RowKit
set_option linter.unusedVariables false
set_option linter.unusedSimpArgs false
set_option maxRecDepth 100000
/-! ### the same search -/
/-! ### shifted -/
def shC (k cl : Int) (i : Nat) (c : Cal) : Cal := ⟨cl, -(i : Int), c.op, 3 * c.frm + k, 3 * c.to + k, c.ans⟩
def shL (k cl : Int) (l : List Cal) (j : Nat) : List Cal := (List.range l.length).map fun i => if i < j then shC k cl i (atC l i) else atC l i
@[simp] theorem shL_len (k cl : Int) (l : List Cal) (j : Nat) : (shL k cl l j).length = l.length := by simp [shL]
section
variable {E : Env} {nt : Nat} {ops : Array Oper} {T : Nat → Option AV} {H : Hp} {d : Option Nat} {ty : TypeId} {pos : String} {af : Array Edge} {gd : Option (Nat × Bool)}
end
attribute [local irreducible] OpOK AWops AW CondB Go2 AFn thenA inBlockA noGotoA orderOk wantedA
end Go.Proofs.Ytphojngdgmnpaaa

namespace Go.Proofs.Ytphojngdgmnpaaa
open Go Go.RowKit
set_option linter.unusedVariables false
set_option linter.unusedSimpArgs false
set_option maxRecDepth 100000
set_option linter.unusedSectionVars false
/-- an order that ends as soon as all that must be are done -/
def pth1 (l : List Cal) : List Bool → List Ent → List Nat → Bool
  | d, m, [] => ovr l d
  | d, m, i :: is => !ovr l d && (decide (i < l.length) && !dOf d i && rdy l i (dOf d) && (doC m (atC l i)).2) && pth1 l (d.set i true) (doC m (atC l i)).1 is
theorem fmL_sound1 {l : List Cal} {R : List Bool → List Ent → List Ky → Rs} {d : List Bool} {m : List Ent} (h0 : ovr l d = false)
    (hR : ∀ i m' T' s T'', R (d.set i true) m' T' = (some s, T'') → pth1 l (d.set i true) m' s = true) :
    ∀ (is : List Nat) (T : List Ky) (s : List Nat) (T' : List Ky), (∀ i ∈ is, i < l.length) → fmL l R d m is T = (some s, T') → pth1 l d m s = true
  | [], T, s, T', _, h => by simp [fmL] at h
  | i :: is, T, s, T', hi, h => by
    have ih := fun T0 => fmL_sound1 (m := m) h0 hR is T0 s T' (fun i h => hi i (by simp [h]))
    unfold fmL at h
    split at h
    · exact ih _ h
    · rename_i h1
      split at h
      · rename_i h2
        split at h
        · rename_i q T2 he
          injection h with h3 h4
          injection h3 with h3
          subst h3
          have hlt := hi i (by simp)
          have h5 : dOf d i = false ∧ rdy l i (dOf d) = true := by cases e1 : dOf d i <;> cases e2 : rdy l i (dOf d) <;> simp_all
          unfold pth1
          rw [h0, decide_eq_true hlt, h5.1, h5.2, h2, hR _ _ _ _ _ he]
          rfl
        · exact ih _ h
      · exact ih _ h
theorem fmB_sound1 {l : List Cal} {R : List Bool → List Ent → List Ky → Rs} {d : List Bool} {m : List Ent} {T : List Ky} {s : List Nat} {T' : List Ky}
    (hR : ∀ i m' T' s T'', R (d.set i true) m' T' = (some s, T'') → pth1 l (d.set i true) m' s = true) (h : fmB l R d m T = (some s, T')) : pth1 l d m s = true := by
  unfold fmB at h
  split at h
  · rename_i h1
    injection h with h2 _
    injection h2 with h2
    subst h2
    exact h1
  · rename_i h1
    split at h
    · injection h with h2 _; cases h2
    · exact fmL_sound1 (Bool.eq_false_iff.mpr h1) hR _ _ _ _ (fun i hi => List.mem_range.1 hi) h
theorem fm_sound1 {l : List Cal} : ∀ (f : Nat) (d : List Bool) (m : List Ent) (T : List Ky) (s : List Nat) (T' : List Ky), fm l f d m T = (some s, T') → pth1 l d m s = true
  | 0, d, m, T, s, T', h => fmB_sound1 (fun i m' T' s T'' h => by cases h) h
  | f + 1, d, m, T, s, T', h => fmB_sound1 (R := fm l f) (fun i m' T' s T'' h => fm_sound1 f _ _ _ _ _ h) h
theorem findC_some1 {l : List Cal} {s : List Nat} (h : findC l = some s) : pth1 l (inn []) [] s = true := by
  unfold findC at h
  split at h
  · cases h
  · rcases he : fm l 14 (inn []) [] [] with ⟨r, T'⟩
    rw [he] at h
    have h : r = some s := h
    subst h
    exact fm_sound1 14 _ _ _ _ _ he
theorem pth1_cons {l : List Cal} {d : List Bool} {m : List Ent} {i : Nat} {is : List Nat} (h : pth1 l d m (i :: is) = true) : ovr l d = false ∧ i < l.length ∧ dOf d i = false ∧ rdy l i (dOf d) = true ∧ (doC m (atC l i)).2 = true ∧ pth1 l (d.set i true) (doC m (atC l i)).1 is = true := by
  unfold pth1 at h
  simp only [Bool.and_eq_true, decide_eq_true_eq, Bool.not_eq_true'] at h
  obtain ⟨⟨h1, ⟨⟨⟨h2, h3⟩, h4⟩, h5⟩⟩, h6⟩ := h
  exact ⟨h1, h2, h3, h4, h5, h6⟩
/-! ### a put without an answer, a get -/
def txK : ByteArray := { data := #[107] }
def opPv (s : ByteArray) : Opn := ⟨1, txK, s, 0#64⟩
def opGk : Opn := ⟨4, txK, .empty, 0#64⟩
def pnd (s : ByteArray) (f : Int) (a : Ans) : List Cal := [callC (opPv s) f (-1) Ans.zero, callC opGk 3 4 a]
theorem put_k (s : ByteArray) (hs : s.size ≤ 16) : mdDo [] (opPv s) = ([⟨(keyOf txK).1, (vlOf s).1⟩], ⟨0, false, Vl.zero⟩) := do_put0 txK s (by decide) hs
theorem doC_getk (V : Vl) (f t : Int) (ht : 0 ≤ t) (a : Ans) (hc : a.code = 0) : doC [⟨(keyOf txK).1, V⟩] (callC opGk f t a) = ([⟨(keyOf txK).1, V⟩], decide ((⟨0, true, V⟩ : Ans) = a)) := by
  unfold doC callC
  dsimp only
  rw [if_neg (by omega), if_neg (by rw [hc]; decide), if_neg (by rw [hc]; decide), show mdDo [⟨(keyOf txK).1, V⟩] opGk = ([⟨(keyOf txK).1, V⟩], ⟨0, true, V⟩) from do_get1 txK .empty V 0#64 (by decide)]
section
variable {s : ByteArray} (hs : s.size ≤ 16)
include hs
end
theorem vl_text (l : List (BitVec 8)) (h : l.length ≤ 16) : (vlOf (bytesOf l)).1 = mkVl l ∧ (bytesOf l).size ≤ 16 := by
  have hs : (bytesOf l).size = l.length := by
    have := congrArg List.length (bits_bytes l)
    unfold bitsOf at this
    rw [List.length_map] at this
    exact this
  unfold vlOf
  rw [if_pos (by omega), bits_bytes]
  exact ⟨rfl, by omega⟩
section
variable {E : Env} {nt : Nat} {ops : Array Oper} {T : Nat → Option AV} {H : Hp} {d : Option Nat} {ty : TypeId} {pos : String} {af : Array Edge} {gd : Option (Nat × Bool)}
theorem ob_cutfh {t e : TypeId} {tn len : Nat} {ea : Bool} {x hi : Operand} {g off m : Nat} {p : List Nat} {y : AV} {k : IntKind} {n : Int} {f : BitVec 8 → AV} {xs : List (BitVec 8)} (hd : dOk nt d = true) (hs : tabT.ti t = some (.arr tn (len + 1) 1 ea e)) (hx : evalO T x = some (.ptr g off p)) (hg : H g = some (.froz y)) (hp : subA p y = some (.arr m 1 (xs.map f))) (ho : offA p y = off)
    (hhi : evalO T hi = some (.v (.int k n))) (hn : 0 ≤ n ∧ n ≤ (len : Int) + 1) (hxl : xs.length = len + 1) (hl : len < 9223372036854775807) :
    OpOK Try.prog E nt ops ⟨d, .slice t x none (some hi) none, ty, pos, af, gd⟩ T H [g] ⟨.sl none 1 ((xs.take n.toNat).map f), []⟩ := by
  have := ok_cut_arrf tabT (E := E) (ops := ops) (H := H) (ty := ty) (pos := pos) (af := af) (gd := gd) (hi := some hi) (h := n.toNat) hd hs hx hg hp ho (bnd_int _ hhi (by omega)) (by omega) (by simpa using hxl) hl
  rwa [← List.map_take] at this
end
theorem vl_take (l : List (BitVec 8)) (h : l.length ≤ 16) : (mkVl l).b.toList.take (mkVl l).n.toNat = l := by
  have h1 : (mkVl l).n.toNat = l.length := by unfold mkVl; exact Int.toNat_natCast _
  rw [h1]
  apply List.ext_getElem
  · rw [List.length_take]; simp; omega
  · intro i h2 h3
    rw [List.getElem_take, Vector.getElem_toList]
    unfold mkVl
    dsimp only
    rw [padded_get _ _ _ (by omega), List.getD_eq_getElem?_getD, List.getElem?_eq_getElem h3]; rfl
attribute [local irreducible] OpOK AWops AW CondB Go2 AFn thenA inBlockA noGotoA orderOk wantedA
end Go.Proofs.Ytphojngdgmnpaaa

namespace Go.Proofs.Ytphojngdgmnpaaa
open Go Go.RowKit
set_option linter.unusedVariables false
set_option linter.unusedSimpArgs false
set_option maxRecDepth 100000
set_option linter.unusedSectionVars false
def swp (sa sb : ByteArray) (c : Vl) (f t : Int) : List Cal := [callC (opPv sa) 0 1 Ans.zero, callC (opPv sb) 2 5 Ans.zero, callC opGk f t ⟨0, true, c⟩]
def swx (sa sb : ByteArray) (c : Vl) (f t : Int) : List Cal := swp sa sb c f t ++ [callC opGk 8 9 Ans.zero]
theorem put_k1 (V : Vl) (s : ByteArray) (hs : s.size ≤ 16) : mdDo [⟨(keyOf txK).1, V⟩] (opPv s) = ([⟨(keyOf txK).1, (vlOf s).1⟩], ⟨0, false, Vl.zero⟩) := by
  unfold mdDo large opPv
  have hk : txK.size ≤ 8 := by decide
  rw [if_neg (by simp; omega), if_neg (by simp), if_neg (by simp)]
  unfold lfPut msgOf
  simp only [set_one, get_one, ap, if_true, newE]
theorem doC_pk0 (s : ByteArray) (hs : s.size ≤ 16) (f t : Int) (ht : 0 ≤ t) : doC [] (callC (opPv s) f t Ans.zero) = ([⟨(keyOf txK).1, (vlOf s).1⟩], true) := by
  unfold doC callC
  dsimp only
  rw [if_neg (by omega), if_neg (by decide), if_neg (by decide), put_k s hs]
  exact congrArg _ (decide_eq_true rfl)
theorem doC_pk1 (V : Vl) (s : ByteArray) (hs : s.size ≤ 16) (f t : Int) (ht : 0 ≤ t) : doC [⟨(keyOf txK).1, V⟩] (callC (opPv s) f t Ans.zero) = ([⟨(keyOf txK).1, (vlOf s).1⟩], true) := by
  unfold doC callC
  dsimp only
  rw [if_neg (by omega), if_neg (by decide), if_neg (by decide), put_k1 V s hs]
  exact congrArg _ (decide_eq_true rfl)
theorem getk_is {V c : Vl} {f t : Int} (ht : 0 ≤ t) (h : (doC [⟨(keyOf txK).1, V⟩] (callC opGk f t ⟨0, true, c⟩)).2 = true) : V = c := by
  rw [doC_getk V f t ht _ rfl] at h
  dsimp only at h
  have := of_decide_eq_true h
  injection this
theorem getk_no {V : Vl} {f t : Int} (ht : 0 ≤ t) (h : (doC [⟨(keyOf txK).1, V⟩] (callC opGk f t Ans.zero)).2 = true) : False := by
  rw [doC_getk V f t ht _ rfl] at h
  dsimp only at h
  have := of_decide_eq_true h
  injection this with _ e _
  cases e
section
variable {sa sb : ByteArray} (ha : sa.size ≤ 16) (hb : sb.size ≤ 16)
include ha hb
theorem swp_dead {c : Vl} {f t : Int} (hft : (f = 3 ∧ t = 4 ∧ (vlOf sa).1 ≠ c) ∨ (f = 6 ∧ t = 7)) (hc : (vlOf sb).1 ≠ c) (q : List Nat) (h : pth1 (swp sa sb c f t) (inn []) [] q = true) : False := by
  have ht : 0 ≤ t := by rcases hft with ⟨_, rfl, _⟩ | ⟨_, rfl⟩ <;> decide
  match q with
  | [] => rcases hft with ⟨rfl, rfl, _⟩ | ⟨rfl, rfl⟩ <;> exact absurd (show false = true from h) (by decide)
  | 1 :: r => rcases hft with ⟨rfl, rfl, _⟩ | ⟨rfl, rfl⟩ <;> exact absurd (show false = true from (pth1_cons h).2.2.2.1) (by decide)
  | 2 :: r => rcases hft with ⟨rfl, rfl, _⟩ | ⟨rfl, rfl⟩ <;> exact absurd (show false = true from (pth1_cons h).2.2.2.1) (by decide)
  | (k + 3) :: r => have := (pth1_cons h).2.1; have : k + 3 < 3 := this; omega
  | 0 :: r =>
    have h2 := (pth1_cons h).2.2.2.2.2
    rw [show atC (swp sa sb c f t) 0 = callC (opPv sa) 0 1 Ans.zero from rfl, doC_pk0 sa ha 0 1 (by decide)] at h2
    match r with
    | [] => rcases hft with ⟨rfl, rfl, _⟩ | ⟨rfl, rfl⟩ <;> exact absurd (show false = true from h2) (by decide)
    | 0 :: r => exact absurd (show true = false from (pth1_cons h2).2.2.1) (by decide)
    | 2 :: r =>
      rcases hft with ⟨rfl, rfl, hn⟩ | ⟨rfl, rfl⟩
      · exact hn (getk_is ht (pth1_cons h2).2.2.2.2.1)
      · exact absurd (show false = true from (pth1_cons h2).2.2.2.1) (by decide)
    | (k + 3) :: r => have := (pth1_cons h2).2.1; have : k + 3 < 3 := this; omega
    | 1 :: r =>
      have h3 := (pth1_cons h2).2.2.2.2.2
      rw [show atC (swp sa sb c f t) 1 = callC (opPv sb) 2 5 Ans.zero from rfl, doC_pk1 _ sb hb 2 5 (by decide)] at h3
      match r with
      | [] => rcases hft with ⟨rfl, rfl, _⟩ | ⟨rfl, rfl⟩ <;> exact absurd (show false = true from h3) (by decide)
      | 0 :: r => exact absurd (show true = false from (pth1_cons h3).2.2.1) (by decide)
      | 1 :: r => exact absurd (show true = false from (pth1_cons h3).2.2.1) (by decide)
      | 2 :: r => exact hc (getk_is ht (pth1_cons h3).2.2.2.2.1)
      | (k + 3) :: r => have := (pth1_cons h3).2.1; have : k + 3 < 3 := this; omega
theorem swx_dead {c : Vl} {f t : Int} (hft : (f = 3 ∧ t = 4) ∨ (f = 6 ∧ t = 7)) (q : List Nat) (h : pth1 (swx sa sb c f t) (inn []) [] q = true) : False := by
  have ht : 0 ≤ t := by rcases hft with ⟨_, rfl⟩ | ⟨_, rfl⟩ <;> decide
  match q with
  | [] => rcases hft with ⟨rfl, rfl⟩ | ⟨rfl, rfl⟩ <;> exact absurd (show false = true from h) (by decide)
  | 1 :: r => rcases hft with ⟨rfl, rfl⟩ | ⟨rfl, rfl⟩ <;> exact absurd (show false = true from (pth1_cons h).2.2.2.1) (by decide)
  | 2 :: r => rcases hft with ⟨rfl, rfl⟩ | ⟨rfl, rfl⟩ <;> exact absurd (show false = true from (pth1_cons h).2.2.2.1) (by decide)
  | 3 :: r => rcases hft with ⟨rfl, rfl⟩ | ⟨rfl, rfl⟩ <;> exact absurd (show false = true from (pth1_cons h).2.2.2.1) (by decide)
  | (k + 4) :: r => have := (pth1_cons h).2.1; have : k + 4 < 4 := this; omega
  | 0 :: r =>
    have h2 := (pth1_cons h).2.2.2.2.2
    rw [show atC (swx sa sb c f t) 0 = callC (opPv sa) 0 1 Ans.zero from rfl, doC_pk0 sa ha 0 1 (by decide)] at h2
    match r with
    | [] => rcases hft with ⟨rfl, rfl⟩ | ⟨rfl, rfl⟩ <;> exact absurd (show false = true from h2) (by decide)
    | 0 :: r => exact absurd (show true = false from (pth1_cons h2).2.2.1) (by decide)
    | 3 :: r => rcases hft with ⟨rfl, rfl⟩ | ⟨rfl, rfl⟩ <;> exact absurd (show false = true from (pth1_cons h2).2.2.2.1) (by decide)
    | (k + 4) :: r => have := (pth1_cons h2).2.1; have : k + 4 < 4 := this; omega
    | 2 :: r =>
      rcases hft with ⟨rfl, rfl⟩ | ⟨rfl, rfl⟩
      · have h3 := (pth1_cons h2).2.2.2.2.2
        rw [show atC (swx sa sb c 3 4) 2 = callC opGk 3 4 ⟨0, true, c⟩ from rfl, doC_getk _ 3 4 (by decide) _ rfl] at h3
        match r with
        | [] => exact absurd (show false = true from h3) (by decide)
        | 0 :: r => exact absurd (show true = false from (pth1_cons h3).2.2.1) (by decide)
        | 2 :: r => exact absurd (show true = false from (pth1_cons h3).2.2.1) (by decide)
        | 3 :: r => exact absurd (show false = true from (pth1_cons h3).2.2.2.1) (by decide)
        | (k + 4) :: r => have := (pth1_cons h3).2.1; have : k + 4 < 4 := this; omega
        | 1 :: r =>
          have h4 := (pth1_cons h3).2.2.2.2.2
          rw [show atC (swx sa sb c 3 4) 1 = callC (opPv sb) 2 5 Ans.zero from rfl, doC_pk1 _ sb hb 2 5 (by decide)] at h4
          match r with
          | [] => exact absurd (show false = true from h4) (by decide)
          | 0 :: r => exact absurd (show true = false from (pth1_cons h4).2.2.1) (by decide)
          | 1 :: r => exact absurd (show true = false from (pth1_cons h4).2.2.1) (by decide)
          | 2 :: r => exact absurd (show true = false from (pth1_cons h4).2.2.1) (by decide)
          | 3 :: r => exact getk_no (f := 8) (t := 9) (by decide) (pth1_cons h4).2.2.2.2.1
          | (k + 4) :: r => have := (pth1_cons h4).2.1; have : k + 4 < 4 := this; omega
      · exact absurd (show false = true from (pth1_cons h2).2.2.2.1) (by decide)
    | 1 :: r =>
      have h3 := (pth1_cons h2).2.2.2.2.2
      rw [show atC (swx sa sb c f t) 1 = callC (opPv sb) 2 5 Ans.zero from rfl, doC_pk1 _ sb hb 2 5 (by decide)] at h3
      match r with
      | [] => rcases hft with ⟨rfl, rfl⟩ | ⟨rfl, rfl⟩ <;> exact absurd (show false = true from h3) (by decide)
      | 0 :: r => exact absurd (show true = false from (pth1_cons h3).2.2.1) (by decide)
      | 1 :: r => exact absurd (show true = false from (pth1_cons h3).2.2.1) (by decide)
      | 3 :: r => rcases hft with ⟨rfl, rfl⟩ | ⟨rfl, rfl⟩ <;> exact absurd (show false = true from (pth1_cons h3).2.2.2.1) (by decide)
      | (k + 4) :: r => have := (pth1_cons h3).2.1; have : k + 4 < 4 := this; omega
      | 2 :: r =>
        have h4 := (pth1_cons h3).2.2.2.2.2
        rw [show atC (swx sa sb c f t) 2 = callC opGk f t ⟨0, true, c⟩ from rfl, doC_getk _ f t ht _ rfl] at h4
        match r with
        | [] => rcases hft with ⟨rfl, rfl⟩ | ⟨rfl, rfl⟩ <;> exact absurd (show false = true from h4) (by decide)
        | 0 :: r => exact absurd (show true = false from (pth1_cons h4).2.2.1) (by decide)
        | 1 :: r => exact absurd (show true = false from (pth1_cons h4).2.2.1) (by decide)
        | 2 :: r => exact absurd (show true = false from (pth1_cons h4).2.2.1) (by decide)
        | 3 :: r => exact getk_no (f := 8) (t := 9) (by decide) (pth1_cons h4).2.2.2.2.1
        | (k + 4) :: r => have := (pth1_cons h4).2.1; have : k + 4 < 4 := this; omega
theorem swx_is {c : Vl} {f t : Int} (hft : (f = 3 ∧ t = 4) ∨ (f = 6 ∧ t = 7)) : findC (swx sa sb c f t) = none := by
  cases h : findC (swx sa sb c f t) with
  | none => rfl
  | some q => exact (swx_dead ha hb hft q (findC_some1 h)).elim
theorem swp_b {f t : Int} (hft : (f = 3 ∧ t = 4) ∨ (f = 6 ∧ t = 7)) : (findC (swp sa sb (vlOf sb).1 f t)).isSome = true := by
  have hp : pth (swp sa sb (vlOf sb).1 f t) (inn []) [] [0, 1, 2] = true := by
    rcases hft with ⟨rfl, rfl⟩ | ⟨rfl, rfl⟩
    · rw [pth_cons, show atC (swp sa sb (vlOf sb).1 3 4) 0 = callC (opPv sa) 0 1 Ans.zero from rfl, doC_pk0 sa ha 0 1 (by decide), pth_cons, show atC (swp sa sb (vlOf sb).1 3 4) 1 = callC (opPv sb) 2 5 Ans.zero from rfl, doC_pk1 _ sb hb 2 5 (by decide), pth_cons, show atC (swp sa sb (vlOf sb).1 3 4) 2 = callC opGk 3 4 ⟨0, true, (vlOf sb).1⟩ from rfl, doC_getk _ 3 4 (by decide) _ rfl, decide_eq_true rfl]
      rfl
    · rw [pth_cons, show atC (swp sa sb (vlOf sb).1 6 7) 0 = callC (opPv sa) 0 1 Ans.zero from rfl, doC_pk0 sa ha 0 1 (by decide), pth_cons, show atC (swp sa sb (vlOf sb).1 6 7) 1 = callC (opPv sb) 2 5 Ans.zero from rfl, doC_pk1 _ sb hb 2 5 (by decide), pth_cons, show atC (swp sa sb (vlOf sb).1 6 7) 2 = callC opGk 6 7 ⟨0, true, (vlOf sb).1⟩ from rfl, doC_getk _ 6 7 (by decide) _ rfl, decide_eq_true rfl]
      rfl
  obtain ⟨q, h1, _⟩ := findC_is (l := swp sa sb (vlOf sb).1 f t) (show 3 ≤ 14 by decide) hp
  rw [h1]; rfl
theorem swp_a : (findC (swp sa sb (vlOf sa).1 3 4)).isSome = true := by
  have hp : pth (swp sa sb (vlOf sa).1 3 4) (inn []) [] [0, 2, 1] = true := by
    rw [pth_cons, show atC (swp sa sb (vlOf sa).1 3 4) 0 = callC (opPv sa) 0 1 Ans.zero from rfl, doC_pk0 sa ha 0 1 (by decide), pth_cons, show atC (swp sa sb (vlOf sa).1 3 4) 2 = callC opGk 3 4 ⟨0, true, (vlOf sa).1⟩ from rfl, doC_getk _ 3 4 (by decide) _ rfl, decide_eq_true rfl, pth_cons, show atC (swp sa sb (vlOf sa).1 3 4) 1 = callC (opPv sb) 2 5 Ans.zero from rfl, doC_pk1 _ sb hb 2 5 (by decide)]
    rfl
  obtain ⟨q, h1, _⟩ := findC_is (l := swp sa sb (vlOf sa).1 3 4) (show 3 ≤ 14 by decide) hp
  rw [h1]; rfl
/-- what the law asks of the three calls -/
theorem swp_is (c : Vl) (apart : Bool) : (findC (swp sa sb c (if apart then 6 else 3) (if apart then 7 else 4))).isSome = (decide (c = (vlOf sb).1) || (decide (c = (vlOf sa).1) && !apart)) := by
  by_cases h1 : c = (vlOf sb).1
  · subst h1
    rw [decide_eq_true rfl, Bool.true_or]
    cases apart
    · exact swp_b ha hb (.inl ⟨rfl, rfl⟩)
    · exact swp_b ha hb (.inr ⟨rfl, rfl⟩)
  · rw [decide_eq_false h1, Bool.false_or]
    cases apart
    · by_cases h2 : c = (vlOf sa).1
      · subst h2
        rw [decide_eq_true rfl]
        exact swp_a ha hb
      · rw [decide_eq_false h2]
        cases h : findC (swp sa sb c 3 4) with
        | none => exact congrArg Option.isSome h
        | some q => exact (swp_dead ha hb (.inl ⟨rfl, rfl, fun e => h2 e.symm⟩) (fun e => h1 e.symm) q (findC_some1 h)).elim
    · rw [Bool.not_true, Bool.and_false]
      cases h : findC (swp sa sb c 6 7) with
      | none => exact congrArg Option.isSome h
      | some q => exact (swp_dead ha hb (.inr ⟨rfl, rfl⟩) (fun e => h1 e.symm) q (findC_some1 h)).elim
end
end Go.Proofs.Ytphojngdgmnpaaa

namespace Go.Proofs.Ytphojngdgmnpaaa
open Go Go.RowKit
set_option linter.unusedVariables false
set_option linter.unusedSimpArgs false
set_option maxRecDepth 100000
set_option linter.unusedSectionVars false
attribute [local irreducible] OpOK AWops AW CondB Go2 AFn thenA inBlockA noGotoA orderOk wantedA
set_option maxRecDepth 100000 in
set_option maxHeartbeats 8000000 in
theorem a_lswap (a b c : Int) (ha : -9223372036854775808 ≤ a ∧ a ≤ 9223372036854775807) (hb : -9223372036854775808 ≤ b ∧ b ≤ 9223372036854775807) (hc : -9223372036854775808 ≤ c ∧ c ≤ 9223372036854775807) (apart : Bool) :
    AFn Try.prog 10 [intA a, intA b, intA c, boolA apart] (boolA true) := by
  have ca := a_lval a ha
  have cb := a_lval b hb
  have cc := a_lval c hc
  obtain ⟨la, hla, hVa⟩ : ∃ l : List (BitVec 8), l.length ≤ 16 ∧ lawVl a = mkVl l := ⟨vText (a % 1099511627776).toNat, by rw [vText_len]; omega, rfl⟩
  obtain ⟨lb, hlb, hVb⟩ : ∃ l : List (BitVec 8), l.length ≤ 16 ∧ lawVl b = mkVl l := ⟨vText (b % 1099511627776).toNat, by rw [vText_len]; omega, rfl⟩
  obtain ⟨ta1, ta2⟩ := vl_text la hla
  obtain ⟨tb1, tb2⟩ := vl_text lb hlb
  have tka := vl_take la hla
  have tkb := vl_take lb hlb
  have na0 : 0 ≤ (mkVl la).n ∧ (mkVl la).n ≤ 15 + 1 := by unfold mkVl; dsimp only; omega
  have nb0 : 0 ≤ (mkVl lb).n ∧ (mkVl lb).n ≤ 15 + 1 := by unfold mkVl; dsimp only; omega
  have bla : (mkVl la).b.toList.length = 15 + 1 := by simp
  have blb : (mkVl lb).b.toList.length = 15 + 1 := by simp
  rw [hVa] at ca
  rw [hVb] at cb
  rw [← ta1] at ca tka na0 bla
  rw [← tb1] at cb tkb nb0 blb
  generalize lawVl c = C at cc
  have k1 := a_call25 (opPv (bytesOf la)) 0 1 Ans.zero
  have k2 := a_call25 (opPv (bytesOf lb)) 2 5 Ans.zero
  have k3 := a_call25 opGk 3 4 ⟨0, true, C⟩
  have k4 := a_call25 opGk 8 9 Ans.zero
  have fs := swp_is ta2 tb2 C apart
  have g0 := a_find (swx (bytesOf la) (bytesOf lb) C (if apart then 6 else 3) (if apart then 7 else 4))
  rw [swx_is ta2 tb2 (by cases apart <;> simp)] at g0
  have f0 := a_find (swp (bytesOf la) (bytesOf lb) C (if apart then 6 else 3) (if apart then 7 else 4))
  rw [fs] at f0
  generalize ordO [] (findC (swp (bytesOf la) (bytesOf lb) C (if apart then 6 else 3) (if apart then 7 else 4))) = X at f0
  generalize he1 : decide (C = (vlOf (bytesOf lb)).1) = e1 at f0
  generalize he2 : decide (C = (vlOf (bytesOf la)).1) = e2 at f0
  generalize hA : (vlOf (bytesOf la)).1 = A at *
  generalize hB : (vlOf (bytesOf lb)).1 = B at *
  refine AFn_intro Try.func10 rfl Try.ntmps10 rfl (by simp) [_] rfl fun E hE => ?_
  have hnt : (!true) = false := rfl
  have hnf : (!false) = true := rfl
  have d1 := acall Try.func21 (ca) (by decide +kernel) (by decide +kernel)
  have d2 := acall Try.func21 (cb) (by decide +kernel) (by decide +kernel)
  have d3 := acall Try.func21 (cc) (by decide +kernel) (by decide +kernel)
  have d4 := acall Try.func22 (k1) (by decide +kernel) (by decide +kernel)
  have d5 := acall Try.func22 (k2) (by decide +kernel) (by decide +kernel)
  have d6 := acall Try.func22 (k3) (by decide +kernel) (by decide +kernel)
  have d7 := acall Try.func22 (k4) (by decide +kernel) (by decide +kernel)
  have d8 := acall Try.func12 (a_awake25) (by decide +kernel) (by decide +kernel)
  cases apart
  · have f0' : AFn Try.prog 13 [.sl none 27 ((swp (bytesOf la) (bytesOf lb) C 3 4).map Cal.av)] (.tup [numsA X, boolA (e1 || (e2 && true))]) := f0
    have g0' : AFn Try.prog 13 [.sl none 27 ((swx (bytesOf la) (bytesOf lb) C 3 4).map Cal.av)] (.tup [.sl none 1 [], .v (.bool false)]) := g0
    have d9 := acall Try.func13 (f0') (by decide +kernel) (by decide +kernel)
    have d10 := acall Try.func13 (g0') (by decide +kernel) (by decide +kernel)
    repeat (first | (refine AW_go (S' := ⟨[(3, boolA false), (9, .ptr 9 0 []), (10, .ptr 10 0 []), (11, .ptr 11 0 [])], [(9, .var A.av), (10, .var B.av), (11, .var C.av)]⟩) ?_ ?_; (focus ((refine Go2.sub ⟨?_, ?_, ?_⟩ <;> repeat' (first | exact True.intro | rfl | apply And.intro)); done)); refine AW_go (Go2.froz hE 9 rfl) ?_; refine AW_go (Go2.froz hE 10 rfl) ?_; refine AW_go (Go2.froz hE 11 rfl) ?_) | (apply Wb; (focus (exact o_bsl0 rfl rfl rfl)); (focus (first | exact want_n | exact want_g rfl (by with_reducible rfl)))) | (apply Wb; (focus (exact o_appn (f := Cal.av) (zs := (swp (bytesOf la) (bytesOf lb) C 3 4)) rfl rfl rfl rfl rfl (o_many (f := Cal.av) (xs := (swp (bytesOf la) (bytesOf lb) C 3 4)) rfl) (show 3 * _ ≤ _ by decide) (show 3 ≤ _ by decide))); (focus (first | exact want_n | exact want_g rfl (by with_reducible rfl)))) | (apply Wb; (focus (exact o_app (f := Cal.av) (xs := (swp (bytesOf la) (bytesOf lb) C 3 4)) (zs := [callC opGk 8 9 Ans.zero]) rfl rfl rfl rfl rfl (o_many (f := Cal.av) (xs := [callC opGk 8 9 Ans.zero]) rfl) (show (3 + 1) * _ ≤ _ by decide) (show 3 + 1 ≤ _ by decide))); (focus (first | exact want_n | exact want_g rfl (by with_reducible rfl)))) | (apply Wv; (focus (exact ob_cutfh (f := byteA) (xs := A.b.toList) rfl rfl rfl rfl rfl rfl rfl na0 bla (by decide))); (focus (first | exact want_n | exact want_g rfl (by with_reducible rfl)))) | (apply Wv; (focus (exact ob_cutfh (f := byteA) (xs := B.b.toList) rfl rfl rfl rfl rfl rfl rfl nb0 blb (by decide))); (focus (first | exact want_n | exact want_g rfl (by with_reducible rfl)))) | (apply Wv; (focus (exact o_convs Try.underlying33 Try.underlying5 Try.underlying9 rfl rfl)); (focus (first | exact want_n | exact want_g rfl (by with_reducible rfl))); first | rw [tka] | rw [tkb]) | (apply Wb; (focus (exact o_bsll zero_Cal rfl rfl rfl rfl rfl rfl rfl rfl)); (focus (first | exact want_n | exact want_g rfl (by with_reducible rfl)))) | (apply Wv; (focus (exact o_eqVl (a := C) (b := B) rfl rfl rfl)); (focus (first | exact want_n | exact want_g rfl (by with_reducible rfl))); rw [he1]) | (apply Wv; (focus (exact o_eqVl (a := C) (b := A) rfl rfl rfl)); (focus (first | exact want_n | exact want_g rfl (by with_reducible rfl))); rw [he2]) | (first | (first | refine Wend _ ?_ | refine AW_seq ?_ | refine AW_reg ?_ | refine AW_drw mixed ?_ | refine AW_block ?_ | refine AW_scope ?_ | refine thenA_n ?_ | refine blockA_n ?_ | refine blockA_h ?_ | refine scopeA_n ?_ | refine thenA_r ?_ | refine blockA_r ?_ | refine scopeA_r ?_ | refine thenA_e ?_ | refine scopeA_e ?_ | refine blockA_e rfl ?_ | refine AW_exit ?_ | refine AW_ret ?_ | refine AW_skip ?_ | refine AW_c rfl ?_ | with_reducible refine cb_t ?_ | with_reducible refine cb_f ?_ | with_reducible refine cb_yes (by first | assumption | omega) ?_ | with_reducible refine cb_no (by first | assumption | omega) ?_ | refine And.intro (by decide +kernel) ?_) | (first | (apply Wb; (focus (first | exact o_bsl0O rfl rfl rfl | exact oo_app0 rfl rfl rfl rfl rfl (by first | exact o_many rfl | exact o_one _ _ rfl | exact o_zero rfl) (by first | omega | (simp; omega) | (simp; done)) (by first | omega | (simp; omega) | (simp; done)))); (focus (first | exact want_n | exact want_g rfl (by with_reducible rfl)))) | (apply Wv; (focus (first | exact oi_len rfl rfl rfl rfl (by first | rfl | assumption | omega | (simp; done) | (simp; omega)) | exact oi_idx rfl rfl rfl rfl rfl rfl (by first | rfl | assumption | omega | (simp; done) | (simp; omega)) (by first | rfl | assumption | omega | (simp; done) | (simp; omega)) | exact oi_ld rfl rfl rfl (by first | rfl | assumption | omega | (simp; done) | (simp; omega)) (by first | rfl | assumption | omega | (simp; done) | (simp; omega)) rfl rfl)); (focus (first | exact want_n | exact want_g rfl (by with_reducible rfl)))) | (apply Ws; (focus (exact oi_st (f := intA) rfl rfl rfl (by first | rfl | assumption | omega | (simp; done) | (simp; omega)) (by first | rfl | assumption | omega | (simp; done) | (simp; omega)) rfl (fun _ => rfl) rfl rfl)); (focus (first | exact want_n | exact want_g rfl (by with_reducible rfl)))) | (first | (apply Wv; (focus (first | exact step_ok rfl rfl | exact o_idx rfl rfl rfl rfl (by first | assumption | omega | decide) | exact o_idx3 rfl rfl rfl rfl (by first | assumption | omega | decide) | exact o_idx2 rfl rfl rfl rfl rfl (by first | assumption | omega | decide) | exact o_idxr rfl rfl rfl rfl rfl rfl | exact o_lenm rfl rfl rfl | exact o_len rfl rfl rfl | exact o_len0 rfl rfl rfl | exact o_lens rfl rfl rfl | exact o_lent rfl rfl | exact o_add1 rfl rfl rfl (by omega) | exact o_addn rfl rfl rfl (by omega) | exact o_add rfl rfl rfl (by omega) | exact o_sub1 rfl rfl rfl (by omega) | exact o_sub rfl rfl rfl (by omega) | exact o_mul rfl rfl rfl (by omega) | exact o_rem rfl rfl rfl (by omega) | exact ok_rem rfl rfl rfl (by decide) rfl | exact o_eqKey rfl rfl rfl | exact o_neKey rfl rfl rfl | exact o_eqVl rfl rfl rfl | exact o_neVl rfl rfl rfl | exact o_eqEnt rfl rfl rfl | exact o_neEnt rfl rfl rfl | exact o_eqMsg rfl rfl rfl | exact o_neMsg rfl rfl rfl | exact o_acall rfl rfl rfl rfl (by assumption) | exact o_minn rfl rfl rfl | exact o_cutl rfl rfl rfl rfl (by omega) | exact o_cuth rfl rfl rfl rfl (by omega) | exact o_cutl3 rfl rfl rfl rfl (by omega) | exact o_cuth3 rfl rfl rfl rfl (by omega) | exact o_cutl2 rfl rfl rfl rfl rfl (by omega) | exact o_cuth2 rfl rfl rfl rfl rfl (by omega) | exact o_cutlh2 rfl rfl rfl rfl rfl rfl rfl (by omega) (by omega) | exact o_bld zero_Opn rfl rfl rfl rfl rfl rfl rfl | exact o_bld zero_Cal rfl rfl rfl rfl rfl rfl rfl | exact o_bld zero_state rfl rfl rfl rfl rfl rfl rfl | exact o_bld zero_search rfl rfl rfl rfl rfl rfl rfl | exact o_nilcr rfl rfl | exact o_nilcp rfl rfl | exact o_eqbar rfl rfl rfl (by simp) (by simp) | exact o_ldbar rfl rfl (by simp) rfl (by first | omega | (simp; omega)) rfl | exact o_idxpn rfl rfl rfl rfl (by omega) | exact o_idxvn rfl rfl rfl rfl (by omega) (by assumption) rfl | exact o_idxrn rfl rfl rfl rfl (by omega) (by assumption) | exact o_cutarr rfl rfl rfl rfl | exact o_mkfn rfl rfl rfl | exact o_callv rfl rfl rfl rfl rfl rfl (by assumption) | exact o_bld zero_Ans rfl rfl rfl rfl rfl rfl rfl | exact o_eqAns rfl rfl rfl | exact o_neAns rfl rfl rfl | exact e_bld rfl rfl rfl | exact e_bldk rfl rfl | exact z_bld0 rfl rfl rfl rfl rfl | exact z_bld rfl rfl rfl rfl rfl rfl rfl | exact o_addu rfl rfl rfl | exact z_blda rfl rfl rfl rfl rfl rfl rfl rfl rfl | exact o_idxa rfl rfl rfl rfl rfl rfl | exact o_idxra rfl rfl rfl rfl rfl rfl rfl | exact o_quo2 rfl rfl rfl (by omega) | exact o_quo rfl rfl rfl (by omega))); (focus (first | exact want_n | exact want_g rfl (by with_reducible rfl)))) | (apply Wb; (focus (first | exact o_box rfl rfl rfl rfl | exact o_app rfl rfl rfl rfl rfl (by first | exact o_many rfl | exact o_one _ _ rfl) (by first | omega | (simp; omega) | simp) (by first | omega | (simp; omega) | simp) | exact o_appn rfl rfl rfl rfl rfl (by first | exact o_many rfl | exact o_one _ _ rfl) (by first | omega | (simp; omega) | simp) (by first | omega | (simp; omega) | simp) | exact o_app1 rfl rfl rfl rfl rfl (by first | exact o_many rfl | exact o_one _ _ rfl) (by exact rfl) (by first | omega | (simp; omega) | simp) (by first | omega | (simp; omega) | simp) | exact o_app0 rfl rfl rfl rfl rfl (by first | exact o_many rfl | exact o_one _ _ rfl) (by first | omega | (simp; omega) | simp) (by first | omega | (simp; omega) | simp) | exact o_bsl0 rfl rfl rfl | exact z_bsll rfl rfl rfl rfl rfl rfl rfl rfl rfl | exact z_alloc rfl rfl rfl | exact o_alloc zero_Opn rfl rfl | exact o_alloc zero_Cal rfl rfl | exact o_alloc zero_state rfl rfl | exact o_alloc zero_b14 rfl rfl | exact o_cpents rfl rfl rfl rfl rfl rfl (by omega) | exact o_alloc zero_Ans rfl rfl | exact o_bsll zero_Ans rfl rfl rfl rfl rfl rfl rfl rfl | exact o_bsll zero_Opn rfl rfl rfl rfl rfl rfl rfl rfl)); (focus (first | exact want_n | exact want_g rfl (by with_reducible rfl)))) | (apply Ws; (focus (first | exact o_stin rfl (by simp) rfl rfl (by first | omega | (simp; omega)) rfl | exact o_stbar rfl (by simp) rfl rfl (by first | omega | (simp; omega)) rfl | exact ok_store tabT (d := none) rfl rfl rfl rfl rfl rfl rfl rfl rfl rfl)); (focus (first | exact want_n | exact want_g rfl (by with_reducible rfl)))) | (refine Wskip (by first | exact want_f rfl (by with_reducible exact b_nt) | exact want_f rfl (by with_reducible exact b_nf) | exact want_t rfl) rfl ?_) | refine Wgt rfl rfl (by first | assumption | omega | exact rfl) ?_ | refine Wgf rfl rfl (by first | assumption | omega | exact rfl) ?_ | (refine Wgb rfl rfl (by with_reducible assumption) ?_) | (refine cb_is _ (by assumption) ?_)))))
    cases e1
    · cases e2
      · repeat (first | (apply Wv; (focus (exact o_eqVl (a := C) (b := A) rfl rfl rfl)); (focus (first | exact want_n | exact want_g rfl (by with_reducible rfl))); rw [he2]) | (first | (first | refine Wend _ ?_ | refine AW_seq ?_ | refine AW_reg ?_ | refine AW_drw mixed ?_ | refine AW_block ?_ | refine AW_scope ?_ | refine thenA_n ?_ | refine blockA_n ?_ | refine blockA_h ?_ | refine scopeA_n ?_ | refine thenA_r ?_ | refine blockA_r ?_ | refine scopeA_r ?_ | refine thenA_e ?_ | refine scopeA_e ?_ | refine blockA_e rfl ?_ | refine AW_exit ?_ | refine AW_ret ?_ | refine AW_skip ?_ | refine AW_c rfl ?_ | with_reducible refine cb_t ?_ | with_reducible refine cb_f ?_ | with_reducible refine cb_yes (by first | assumption | omega) ?_ | with_reducible refine cb_no (by first | assumption | omega) ?_ | refine And.intro (by decide +kernel) ?_) | (first | (apply Wb; (focus (first | exact o_bsl0O rfl rfl rfl | exact oo_app0 rfl rfl rfl rfl rfl (by first | exact o_many rfl | exact o_one _ _ rfl | exact o_zero rfl) (by first | omega | (simp; omega) | (simp; done)) (by first | omega | (simp; omega) | (simp; done)))); (focus (first | exact want_n | exact want_g rfl (by with_reducible rfl)))) | (apply Wv; (focus (first | exact oi_len rfl rfl rfl rfl (by first | rfl | assumption | omega | (simp; done) | (simp; omega)) | exact oi_idx rfl rfl rfl rfl rfl rfl (by first | rfl | assumption | omega | (simp; done) | (simp; omega)) (by first | rfl | assumption | omega | (simp; done) | (simp; omega)) | exact oi_ld rfl rfl rfl (by first | rfl | assumption | omega | (simp; done) | (simp; omega)) (by first | rfl | assumption | omega | (simp; done) | (simp; omega)) rfl rfl)); (focus (first | exact want_n | exact want_g rfl (by with_reducible rfl)))) | (apply Ws; (focus (exact oi_st (f := intA) rfl rfl rfl (by first | rfl | assumption | omega | (simp; done) | (simp; omega)) (by first | rfl | assumption | omega | (simp; done) | (simp; omega)) rfl (fun _ => rfl) rfl rfl)); (focus (first | exact want_n | exact want_g rfl (by with_reducible rfl)))) | (first | (apply Wv; (focus (first | exact step_ok rfl rfl | exact o_idx rfl rfl rfl rfl (by first | assumption | omega | decide) | exact o_idx3 rfl rfl rfl rfl (by first | assumption | omega | decide) | exact o_idx2 rfl rfl rfl rfl rfl (by first | assumption | omega | decide) | exact o_idxr rfl rfl rfl rfl rfl rfl | exact o_lenm rfl rfl rfl | exact o_len rfl rfl rfl | exact o_len0 rfl rfl rfl | exact o_lens rfl rfl rfl | exact o_lent rfl rfl | exact o_add1 rfl rfl rfl (by omega) | exact o_addn rfl rfl rfl (by omega) | exact o_add rfl rfl rfl (by omega) | exact o_sub1 rfl rfl rfl (by omega) | exact o_sub rfl rfl rfl (by omega) | exact o_mul rfl rfl rfl (by omega) | exact o_rem rfl rfl rfl (by omega) | exact ok_rem rfl rfl rfl (by decide) rfl | exact o_eqKey rfl rfl rfl | exact o_neKey rfl rfl rfl | exact o_eqVl rfl rfl rfl | exact o_neVl rfl rfl rfl | exact o_eqEnt rfl rfl rfl | exact o_neEnt rfl rfl rfl | exact o_eqMsg rfl rfl rfl | exact o_neMsg rfl rfl rfl | exact o_acall rfl rfl rfl rfl (by assumption) | exact o_minn rfl rfl rfl | exact o_cutl rfl rfl rfl rfl (by omega) | exact o_cuth rfl rfl rfl rfl (by omega) | exact o_cutl3 rfl rfl rfl rfl (by omega) | exact o_cuth3 rfl rfl rfl rfl (by omega) | exact o_cutl2 rfl rfl rfl rfl rfl (by omega) | exact o_cuth2 rfl rfl rfl rfl rfl (by omega) | exact o_cutlh2 rfl rfl rfl rfl rfl rfl rfl (by omega) (by omega) | exact o_bld zero_Opn rfl rfl rfl rfl rfl rfl rfl | exact o_bld zero_Cal rfl rfl rfl rfl rfl rfl rfl | exact o_bld zero_state rfl rfl rfl rfl rfl rfl rfl | exact o_bld zero_search rfl rfl rfl rfl rfl rfl rfl | exact o_nilcr rfl rfl | exact o_nilcp rfl rfl | exact o_eqbar rfl rfl rfl (by simp) (by simp) | exact o_ldbar rfl rfl (by simp) rfl (by first | omega | (simp; omega)) rfl | exact o_idxpn rfl rfl rfl rfl (by omega) | exact o_idxvn rfl rfl rfl rfl (by omega) (by assumption) rfl | exact o_idxrn rfl rfl rfl rfl (by omega) (by assumption) | exact o_cutarr rfl rfl rfl rfl | exact o_mkfn rfl rfl rfl | exact o_callv rfl rfl rfl rfl rfl rfl (by assumption) | exact o_bld zero_Ans rfl rfl rfl rfl rfl rfl rfl | exact o_eqAns rfl rfl rfl | exact o_neAns rfl rfl rfl | exact e_bld rfl rfl rfl | exact e_bldk rfl rfl | exact z_bld0 rfl rfl rfl rfl rfl | exact z_bld rfl rfl rfl rfl rfl rfl rfl | exact o_addu rfl rfl rfl | exact z_blda rfl rfl rfl rfl rfl rfl rfl rfl rfl | exact o_idxa rfl rfl rfl rfl rfl rfl | exact o_idxra rfl rfl rfl rfl rfl rfl rfl | exact o_quo2 rfl rfl rfl (by omega) | exact o_quo rfl rfl rfl (by omega))); (focus (first | exact want_n | exact want_g rfl (by with_reducible rfl)))) | (apply Wb; (focus (first | exact o_box rfl rfl rfl rfl | exact o_app rfl rfl rfl rfl rfl (by first | exact o_many rfl | exact o_one _ _ rfl) (by first | omega | (simp; omega) | simp) (by first | omega | (simp; omega) | simp) | exact o_appn rfl rfl rfl rfl rfl (by first | exact o_many rfl | exact o_one _ _ rfl) (by first | omega | (simp; omega) | simp) (by first | omega | (simp; omega) | simp) | exact o_app1 rfl rfl rfl rfl rfl (by first | exact o_many rfl | exact o_one _ _ rfl) (by exact rfl) (by first | omega | (simp; omega) | simp) (by first | omega | (simp; omega) | simp) | exact o_app0 rfl rfl rfl rfl rfl (by first | exact o_many rfl | exact o_one _ _ rfl) (by first | omega | (simp; omega) | simp) (by first | omega | (simp; omega) | simp) | exact o_bsl0 rfl rfl rfl | exact z_bsll rfl rfl rfl rfl rfl rfl rfl rfl rfl | exact z_alloc rfl rfl rfl | exact o_alloc zero_Opn rfl rfl | exact o_alloc zero_Cal rfl rfl | exact o_alloc zero_state rfl rfl | exact o_alloc zero_b14 rfl rfl | exact o_cpents rfl rfl rfl rfl rfl rfl (by omega) | exact o_alloc zero_Ans rfl rfl | exact o_bsll zero_Ans rfl rfl rfl rfl rfl rfl rfl rfl | exact o_bsll zero_Opn rfl rfl rfl rfl rfl rfl rfl rfl)); (focus (first | exact want_n | exact want_g rfl (by with_reducible rfl)))) | (apply Ws; (focus (first | exact o_stin rfl (by simp) rfl rfl (by first | omega | (simp; omega)) rfl | exact o_stbar rfl (by simp) rfl rfl (by first | omega | (simp; omega)) rfl | exact ok_store tabT (d := none) rfl rfl rfl rfl rfl rfl rfl rfl rfl rfl)); (focus (first | exact want_n | exact want_g rfl (by with_reducible rfl)))) | (refine Wskip (by first | exact want_f rfl (by with_reducible exact b_nt) | exact want_f rfl (by with_reducible exact b_nf) | exact want_t rfl) rfl ?_) | refine Wgt rfl rfl (by first | assumption | omega | exact rfl) ?_ | refine Wgf rfl rfl (by first | assumption | omega | exact rfl) ?_ | (refine Wgb rfl rfl (by with_reducible assumption) ?_) | (refine cb_is _ (by assumption) ?_)))))
        exact fin ⟨res_of rfl rfl rfl, trivial⟩
      · repeat (first | (apply Wv; (focus (exact o_eqVl (a := C) (b := A) rfl rfl rfl)); (focus (first | exact want_n | exact want_g rfl (by with_reducible rfl))); rw [he2]) | (first | (first | refine Wend _ ?_ | refine AW_seq ?_ | refine AW_reg ?_ | refine AW_drw mixed ?_ | refine AW_block ?_ | refine AW_scope ?_ | refine thenA_n ?_ | refine blockA_n ?_ | refine blockA_h ?_ | refine scopeA_n ?_ | refine thenA_r ?_ | refine blockA_r ?_ | refine scopeA_r ?_ | refine thenA_e ?_ | refine scopeA_e ?_ | refine blockA_e rfl ?_ | refine AW_exit ?_ | refine AW_ret ?_ | refine AW_skip ?_ | refine AW_c rfl ?_ | with_reducible refine cb_t ?_ | with_reducible refine cb_f ?_ | with_reducible refine cb_yes (by first | assumption | omega) ?_ | with_reducible refine cb_no (by first | assumption | omega) ?_ | refine And.intro (by decide +kernel) ?_) | (first | (apply Wb; (focus (first | exact o_bsl0O rfl rfl rfl | exact oo_app0 rfl rfl rfl rfl rfl (by first | exact o_many rfl | exact o_one _ _ rfl | exact o_zero rfl) (by first | omega | (simp; omega) | (simp; done)) (by first | omega | (simp; omega) | (simp; done)))); (focus (first | exact want_n | exact want_g rfl (by with_reducible rfl)))) | (apply Wv; (focus (first | exact oi_len rfl rfl rfl rfl (by first | rfl | assumption | omega | (simp; done) | (simp; omega)) | exact oi_idx rfl rfl rfl rfl rfl rfl (by first | rfl | assumption | omega | (simp; done) | (simp; omega)) (by first | rfl | assumption | omega | (simp; done) | (simp; omega)) | exact oi_ld rfl rfl rfl (by first | rfl | assumption | omega | (simp; done) | (simp; omega)) (by first | rfl | assumption | omega | (simp; done) | (simp; omega)) rfl rfl)); (focus (first | exact want_n | exact want_g rfl (by with_reducible rfl)))) | (apply Ws; (focus (exact oi_st (f := intA) rfl rfl rfl (by first | rfl | assumption | omega | (simp; done) | (simp; omega)) (by first | rfl | assumption | omega | (simp; done) | (simp; omega)) rfl (fun _ => rfl) rfl rfl)); (focus (first | exact want_n | exact want_g rfl (by with_reducible rfl)))) | (first | (apply Wv; (focus (first | exact step_ok rfl rfl | exact o_idx rfl rfl rfl rfl (by first | assumption | omega | decide) | exact o_idx3 rfl rfl rfl rfl (by first | assumption | omega | decide) | exact o_idx2 rfl rfl rfl rfl rfl (by first | assumption | omega | decide) | exact o_idxr rfl rfl rfl rfl rfl rfl | exact o_lenm rfl rfl rfl | exact o_len rfl rfl rfl | exact o_len0 rfl rfl rfl | exact o_lens rfl rfl rfl | exact o_lent rfl rfl | exact o_add1 rfl rfl rfl (by omega) | exact o_addn rfl rfl rfl (by omega) | exact o_add rfl rfl rfl (by omega) | exact o_sub1 rfl rfl rfl (by omega) | exact o_sub rfl rfl rfl (by omega) | exact o_mul rfl rfl rfl (by omega) | exact o_rem rfl rfl rfl (by omega) | exact ok_rem rfl rfl rfl (by decide) rfl | exact o_eqKey rfl rfl rfl | exact o_neKey rfl rfl rfl | exact o_eqVl rfl rfl rfl | exact o_neVl rfl rfl rfl | exact o_eqEnt rfl rfl rfl | exact o_neEnt rfl rfl rfl | exact o_eqMsg rfl rfl rfl | exact o_neMsg rfl rfl rfl | exact o_acall rfl rfl rfl rfl (by assumption) | exact o_minn rfl rfl rfl | exact o_cutl rfl rfl rfl rfl (by omega) | exact o_cuth rfl rfl rfl rfl (by omega) | exact o_cutl3 rfl rfl rfl rfl (by omega) | exact o_cuth3 rfl rfl rfl rfl (by omega) | exact o_cutl2 rfl rfl rfl rfl rfl (by omega) | exact o_cuth2 rfl rfl rfl rfl rfl (by omega) | exact o_cutlh2 rfl rfl rfl rfl rfl rfl rfl (by omega) (by omega) | exact o_bld zero_Opn rfl rfl rfl rfl rfl rfl rfl | exact o_bld zero_Cal rfl rfl rfl rfl rfl rfl rfl | exact o_bld zero_state rfl rfl rfl rfl rfl rfl rfl | exact o_bld zero_search rfl rfl rfl rfl rfl rfl rfl | exact o_nilcr rfl rfl | exact o_nilcp rfl rfl | exact o_eqbar rfl rfl rfl (by simp) (by simp) | exact o_ldbar rfl rfl (by simp) rfl (by first | omega | (simp; omega)) rfl | exact o_idxpn rfl rfl rfl rfl (by omega) | exact o_idxvn rfl rfl rfl rfl (by omega) (by assumption) rfl | exact o_idxrn rfl rfl rfl rfl (by omega) (by assumption) | exact o_cutarr rfl rfl rfl rfl | exact o_mkfn rfl rfl rfl | exact o_callv rfl rfl rfl rfl rfl rfl (by assumption) | exact o_bld zero_Ans rfl rfl rfl rfl rfl rfl rfl | exact o_eqAns rfl rfl rfl | exact o_neAns rfl rfl rfl | exact e_bld rfl rfl rfl | exact e_bldk rfl rfl | exact z_bld0 rfl rfl rfl rfl rfl | exact z_bld rfl rfl rfl rfl rfl rfl rfl | exact o_addu rfl rfl rfl | exact z_blda rfl rfl rfl rfl rfl rfl rfl rfl rfl | exact o_idxa rfl rfl rfl rfl rfl rfl | exact o_idxra rfl rfl rfl rfl rfl rfl rfl | exact o_quo2 rfl rfl rfl (by omega) | exact o_quo rfl rfl rfl (by omega))); (focus (first | exact want_n | exact want_g rfl (by with_reducible rfl)))) | (apply Wb; (focus (first | exact o_box rfl rfl rfl rfl | exact o_app rfl rfl rfl rfl rfl (by first | exact o_many rfl | exact o_one _ _ rfl) (by first | omega | (simp; omega) | simp) (by first | omega | (simp; omega) | simp) | exact o_appn rfl rfl rfl rfl rfl (by first | exact o_many rfl | exact o_one _ _ rfl) (by first | omega | (simp; omega) | simp) (by first | omega | (simp; omega) | simp) | exact o_app1 rfl rfl rfl rfl rfl (by first | exact o_many rfl | exact o_one _ _ rfl) (by exact rfl) (by first | omega | (simp; omega) | simp) (by first | omega | (simp; omega) | simp) | exact o_app0 rfl rfl rfl rfl rfl (by first | exact o_many rfl | exact o_one _ _ rfl) (by first | omega | (simp; omega) | simp) (by first | omega | (simp; omega) | simp) | exact o_bsl0 rfl rfl rfl | exact z_bsll rfl rfl rfl rfl rfl rfl rfl rfl rfl | exact z_alloc rfl rfl rfl | exact o_alloc zero_Opn rfl rfl | exact o_alloc zero_Cal rfl rfl | exact o_alloc zero_state rfl rfl | exact o_alloc zero_b14 rfl rfl | exact o_cpents rfl rfl rfl rfl rfl rfl (by omega) | exact o_alloc zero_Ans rfl rfl | exact o_bsll zero_Ans rfl rfl rfl rfl rfl rfl rfl rfl | exact o_bsll zero_Opn rfl rfl rfl rfl rfl rfl rfl rfl)); (focus (first | exact want_n | exact want_g rfl (by with_reducible rfl)))) | (apply Ws; (focus (first | exact o_stin rfl (by simp) rfl rfl (by first | omega | (simp; omega)) rfl | exact o_stbar rfl (by simp) rfl rfl (by first | omega | (simp; omega)) rfl | exact ok_store tabT (d := none) rfl rfl rfl rfl rfl rfl rfl rfl rfl rfl)); (focus (first | exact want_n | exact want_g rfl (by with_reducible rfl)))) | (refine Wskip (by first | exact want_f rfl (by with_reducible exact b_nt) | exact want_f rfl (by with_reducible exact b_nf) | exact want_t rfl) rfl ?_) | refine Wgt rfl rfl (by first | assumption | omega | exact rfl) ?_ | refine Wgf rfl rfl (by first | assumption | omega | exact rfl) ?_ | (refine Wgb rfl rfl (by with_reducible assumption) ?_) | (refine cb_is _ (by assumption) ?_)))))
        exact fin ⟨res_of rfl rfl rfl, trivial⟩
    · cases e2
      · repeat (first | (apply Wv; (focus (exact o_eqVl (a := C) (b := A) rfl rfl rfl)); (focus (first | exact want_n | exact want_g rfl (by with_reducible rfl))); rw [he2]) | (first | (first | refine Wend _ ?_ | refine AW_seq ?_ | refine AW_reg ?_ | refine AW_drw mixed ?_ | refine AW_block ?_ | refine AW_scope ?_ | refine thenA_n ?_ | refine blockA_n ?_ | refine blockA_h ?_ | refine scopeA_n ?_ | refine thenA_r ?_ | refine blockA_r ?_ | refine scopeA_r ?_ | refine thenA_e ?_ | refine scopeA_e ?_ | refine blockA_e rfl ?_ | refine AW_exit ?_ | refine AW_ret ?_ | refine AW_skip ?_ | refine AW_c rfl ?_ | with_reducible refine cb_t ?_ | with_reducible refine cb_f ?_ | with_reducible refine cb_yes (by first | assumption | omega) ?_ | with_reducible refine cb_no (by first | assumption | omega) ?_ | refine And.intro (by decide +kernel) ?_) | (first | (apply Wb; (focus (first | exact o_bsl0O rfl rfl rfl | exact oo_app0 rfl rfl rfl rfl rfl (by first | exact o_many rfl | exact o_one _ _ rfl | exact o_zero rfl) (by first | omega | (simp; omega) | (simp; done)) (by first | omega | (simp; omega) | (simp; done)))); (focus (first | exact want_n | exact want_g rfl (by with_reducible rfl)))) | (apply Wv; (focus (first | exact oi_len rfl rfl rfl rfl (by first | rfl | assumption | omega | (simp; done) | (simp; omega)) | exact oi_idx rfl rfl rfl rfl rfl rfl (by first | rfl | assumption | omega | (simp; done) | (simp; omega)) (by first | rfl | assumption | omega | (simp; done) | (simp; omega)) | exact oi_ld rfl rfl rfl (by first | rfl | assumption | omega | (simp; done) | (simp; omega)) (by first | rfl | assumption | omega | (simp; done) | (simp; omega)) rfl rfl)); (focus (first | exact want_n | exact want_g rfl (by with_reducible rfl)))) | (apply Ws; (focus (exact oi_st (f := intA) rfl rfl rfl (by first | rfl | assumption | omega | (simp; done) | (simp; omega)) (by first | rfl | assumption | omega | (simp; done) | (simp; omega)) rfl (fun _ => rfl) rfl rfl)); (focus (first | exact want_n | exact want_g rfl (by with_reducible rfl)))) | (first | (apply Wv; (focus (first | exact step_ok rfl rfl | exact o_idx rfl rfl rfl rfl (by first | assumption | omega | decide) | exact o_idx3 rfl rfl rfl rfl (by first | assumption | omega | decide) | exact o_idx2 rfl rfl rfl rfl rfl (by first | assumption | omega | decide) | exact o_idxr rfl rfl rfl rfl rfl rfl | exact o_lenm rfl rfl rfl | exact o_len rfl rfl rfl | exact o_len0 rfl rfl rfl | exact o_lens rfl rfl rfl | exact o_lent rfl rfl | exact o_add1 rfl rfl rfl (by omega) | exact o_addn rfl rfl rfl (by omega) | exact o_add rfl rfl rfl (by omega) | exact o_sub1 rfl rfl rfl (by omega) | exact o_sub rfl rfl rfl (by omega) | exact o_mul rfl rfl rfl (by omega) | exact o_rem rfl rfl rfl (by omega) | exact ok_rem rfl rfl rfl (by decide) rfl | exact o_eqKey rfl rfl rfl | exact o_neKey rfl rfl rfl | exact o_eqVl rfl rfl rfl | exact o_neVl rfl rfl rfl | exact o_eqEnt rfl rfl rfl | exact o_neEnt rfl rfl rfl | exact o_eqMsg rfl rfl rfl | exact o_neMsg rfl rfl rfl | exact o_acall rfl rfl rfl rfl (by assumption) | exact o_minn rfl rfl rfl | exact o_cutl rfl rfl rfl rfl (by omega) | exact o_cuth rfl rfl rfl rfl (by omega) | exact o_cutl3 rfl rfl rfl rfl (by omega) | exact o_cuth3 rfl rfl rfl rfl (by omega) | exact o_cutl2 rfl rfl rfl rfl rfl (by omega) | exact o_cuth2 rfl rfl rfl rfl rfl (by omega) | exact o_cutlh2 rfl rfl rfl rfl rfl rfl rfl (by omega) (by omega) | exact o_bld zero_Opn rfl rfl rfl rfl rfl rfl rfl | exact o_bld zero_Cal rfl rfl rfl rfl rfl rfl rfl | exact o_bld zero_state rfl rfl rfl rfl rfl rfl rfl | exact o_bld zero_search rfl rfl rfl rfl rfl rfl rfl | exact o_nilcr rfl rfl | exact o_nilcp rfl rfl | exact o_eqbar rfl rfl rfl (by simp) (by simp) | exact o_ldbar rfl rfl (by simp) rfl (by first | omega | (simp; omega)) rfl | exact o_idxpn rfl rfl rfl rfl (by omega) | exact o_idxvn rfl rfl rfl rfl (by omega) (by assumption) rfl | exact o_idxrn rfl rfl rfl rfl (by omega) (by assumption) | exact o_cutarr rfl rfl rfl rfl | exact o_mkfn rfl rfl rfl | exact o_callv rfl rfl rfl rfl rfl rfl (by assumption) | exact o_bld zero_Ans rfl rfl rfl rfl rfl rfl rfl | exact o_eqAns rfl rfl rfl | exact o_neAns rfl rfl rfl | exact e_bld rfl rfl rfl | exact e_bldk rfl rfl | exact z_bld0 rfl rfl rfl rfl rfl | exact z_bld rfl rfl rfl rfl rfl rfl rfl | exact o_addu rfl rfl rfl | exact z_blda rfl rfl rfl rfl rfl rfl rfl rfl rfl | exact o_idxa rfl rfl rfl rfl rfl rfl | exact o_idxra rfl rfl rfl rfl rfl rfl rfl | exact o_quo2 rfl rfl rfl (by omega) | exact o_quo rfl rfl rfl (by omega))); (focus (first | exact want_n | exact want_g rfl (by with_reducible rfl)))) | (apply Wb; (focus (first | exact o_box rfl rfl rfl rfl | exact o_app rfl rfl rfl rfl rfl (by first | exact o_many rfl | exact o_one _ _ rfl) (by first | omega | (simp; omega) | simp) (by first | omega | (simp; omega) | simp) | exact o_appn rfl rfl rfl rfl rfl (by first | exact o_many rfl | exact o_one _ _ rfl) (by first | omega | (simp; omega) | simp) (by first | omega | (simp; omega) | simp) | exact o_app1 rfl rfl rfl rfl rfl (by first | exact o_many rfl | exact o_one _ _ rfl) (by exact rfl) (by first | omega | (simp; omega) | simp) (by first | omega | (simp; omega) | simp) | exact o_app0 rfl rfl rfl rfl rfl (by first | exact o_many rfl | exact o_one _ _ rfl) (by first | omega | (simp; omega) | simp) (by first | omega | (simp; omega) | simp) | exact o_bsl0 rfl rfl rfl | exact z_bsll rfl rfl rfl rfl rfl rfl rfl rfl rfl | exact z_alloc rfl rfl rfl | exact o_alloc zero_Opn rfl rfl | exact o_alloc zero_Cal rfl rfl | exact o_alloc zero_state rfl rfl | exact o_alloc zero_b14 rfl rfl | exact o_cpents rfl rfl rfl rfl rfl rfl (by omega) | exact o_alloc zero_Ans rfl rfl | exact o_bsll zero_Ans rfl rfl rfl rfl rfl rfl rfl rfl | exact o_bsll zero_Opn rfl rfl rfl rfl rfl rfl rfl rfl)); (focus (first | exact want_n | exact want_g rfl (by with_reducible rfl)))) | (apply Ws; (focus (first | exact o_stin rfl (by simp) rfl rfl (by first | omega | (simp; omega)) rfl | exact o_stbar rfl (by simp) rfl rfl (by first | omega | (simp; omega)) rfl | exact ok_store tabT (d := none) rfl rfl rfl rfl rfl rfl rfl rfl rfl rfl)); (focus (first | exact want_n | exact want_g rfl (by with_reducible rfl)))) | (refine Wskip (by first | exact want_f rfl (by with_reducible exact b_nt) | exact want_f rfl (by with_reducible exact b_nf) | exact want_t rfl) rfl ?_) | refine Wgt rfl rfl (by first | assumption | omega | exact rfl) ?_ | refine Wgf rfl rfl (by first | assumption | omega | exact rfl) ?_ | (refine Wgb rfl rfl (by with_reducible assumption) ?_) | (refine cb_is _ (by assumption) ?_)))))
        exact fin ⟨res_of rfl rfl rfl, trivial⟩
      · repeat (first | (apply Wv; (focus (exact o_eqVl (a := C) (b := A) rfl rfl rfl)); (focus (first | exact want_n | exact want_g rfl (by with_reducible rfl))); rw [he2]) | (first | (first | refine Wend _ ?_ | refine AW_seq ?_ | refine AW_reg ?_ | refine AW_drw mixed ?_ | refine AW_block ?_ | refine AW_scope ?_ | refine thenA_n ?_ | refine blockA_n ?_ | refine blockA_h ?_ | refine scopeA_n ?_ | refine thenA_r ?_ | refine blockA_r ?_ | refine scopeA_r ?_ | refine thenA_e ?_ | refine scopeA_e ?_ | refine blockA_e rfl ?_ | refine AW_exit ?_ | refine AW_ret ?_ | refine AW_skip ?_ | refine AW_c rfl ?_ | with_reducible refine cb_t ?_ | with_reducible refine cb_f ?_ | with_reducible refine cb_yes (by first | assumption | omega) ?_ | with_reducible refine cb_no (by first | assumption | omega) ?_ | refine And.intro (by decide +kernel) ?_) | (first | (apply Wb; (focus (first | exact o_bsl0O rfl rfl rfl | exact oo_app0 rfl rfl rfl rfl rfl (by first | exact o_many rfl | exact o_one _ _ rfl | exact o_zero rfl) (by first | omega | (simp; omega) | (simp; done)) (by first | omega | (simp; omega) | (simp; done)))); (focus (first | exact want_n | exact want_g rfl (by with_reducible rfl)))) | (apply Wv; (focus (first | exact oi_len rfl rfl rfl rfl (by first | rfl | assumption | omega | (simp; done) | (simp; omega)) | exact oi_idx rfl rfl rfl rfl rfl rfl (by first | rfl | assumption | omega | (simp; done) | (simp; omega)) (by first | rfl | assumption | omega | (simp; done) | (simp; omega)) | exact oi_ld rfl rfl rfl (by first | rfl | assumption | omega | (simp; done) | (simp; omega)) (by first | rfl | assumption | omega | (simp; done) | (simp; omega)) rfl rfl)); (focus (first | exact want_n | exact want_g rfl (by with_reducible rfl)))) | (apply Ws; (focus (exact oi_st (f := intA) rfl rfl rfl (by first | rfl | assumption | omega | (simp; done) | (simp; omega)) (by first | rfl | assumption | omega | (simp; done) | (simp; omega)) rfl (fun _ => rfl) rfl rfl)); (focus (first | exact want_n | exact want_g rfl (by with_reducible rfl)))) | (first | (apply Wv; (focus (first | exact step_ok rfl rfl | exact o_idx rfl rfl rfl rfl (by first | assumption | omega | decide) | exact o_idx3 rfl rfl rfl rfl (by first | assumption | omega | decide) | exact o_idx2 rfl rfl rfl rfl rfl (by first | assumption | omega | decide) | exact o_idxr rfl rfl rfl rfl rfl rfl | exact o_lenm rfl rfl rfl | exact o_len rfl rfl rfl | exact o_len0 rfl rfl rfl | exact o_lens rfl rfl rfl | exact o_lent rfl rfl | exact o_add1 rfl rfl rfl (by omega) | exact o_addn rfl rfl rfl (by omega) | exact o_add rfl rfl rfl (by omega) | exact o_sub1 rfl rfl rfl (by omega) | exact o_sub rfl rfl rfl (by omega) | exact o_mul rfl rfl rfl (by omega) | exact o_rem rfl rfl rfl (by omega) | exact ok_rem rfl rfl rfl (by decide) rfl | exact o_eqKey rfl rfl rfl | exact o_neKey rfl rfl rfl | exact o_eqVl rfl rfl rfl | exact o_neVl rfl rfl rfl | exact o_eqEnt rfl rfl rfl | exact o_neEnt rfl rfl rfl | exact o_eqMsg rfl rfl rfl | exact o_neMsg rfl rfl rfl | exact o_acall rfl rfl rfl rfl (by assumption) | exact o_minn rfl rfl rfl | exact o_cutl rfl rfl rfl rfl (by omega) | exact o_cuth rfl rfl rfl rfl (by omega) | exact o_cutl3 rfl rfl rfl rfl (by omega) | exact o_cuth3 rfl rfl rfl rfl (by omega) | exact o_cutl2 rfl rfl rfl rfl rfl (by omega) | exact o_cuth2 rfl rfl rfl rfl rfl (by omega) | exact o_cutlh2 rfl rfl rfl rfl rfl rfl rfl (by omega) (by omega) | exact o_bld zero_Opn rfl rfl rfl rfl rfl rfl rfl | exact o_bld zero_Cal rfl rfl rfl rfl rfl rfl rfl | exact o_bld zero_state rfl rfl rfl rfl rfl rfl rfl | exact o_bld zero_search rfl rfl rfl rfl rfl rfl rfl | exact o_nilcr rfl rfl | exact o_nilcp rfl rfl | exact o_eqbar rfl rfl rfl (by simp) (by simp) | exact o_ldbar rfl rfl (by simp) rfl (by first | omega | (simp; omega)) rfl | exact o_idxpn rfl rfl rfl rfl (by omega) | exact o_idxvn rfl rfl rfl rfl (by omega) (by assumption) rfl | exact o_idxrn rfl rfl rfl rfl (by omega) (by assumption) | exact o_cutarr rfl rfl rfl rfl | exact o_mkfn rfl rfl rfl | exact o_callv rfl rfl rfl rfl rfl rfl (by assumption) | exact o_bld zero_Ans rfl rfl rfl rfl rfl rfl rfl | exact o_eqAns rfl rfl rfl | exact o_neAns rfl rfl rfl | exact e_bld rfl rfl rfl | exact e_bldk rfl rfl | exact z_bld0 rfl rfl rfl rfl rfl | exact z_bld rfl rfl rfl rfl rfl rfl rfl | exact o_addu rfl rfl rfl | exact z_blda rfl rfl rfl rfl rfl rfl rfl rfl rfl | exact o_idxa rfl rfl rfl rfl rfl rfl | exact o_idxra rfl rfl rfl rfl rfl rfl rfl | exact o_quo2 rfl rfl rfl (by omega) | exact o_quo rfl rfl rfl (by omega))); (focus (first | exact want_n | exact want_g rfl (by with_reducible rfl)))) | (apply Wb; (focus (first | exact o_box rfl rfl rfl rfl | exact o_app rfl rfl rfl rfl rfl (by first | exact o_many rfl | exact o_one _ _ rfl) (by first | omega | (simp; omega) | simp) (by first | omega | (simp; omega) | simp) | exact o_appn rfl rfl rfl rfl rfl (by first | exact o_many rfl | exact o_one _ _ rfl) (by first | omega | (simp; omega) | simp) (by first | omega | (simp; omega) | simp) | exact o_app1 rfl rfl rfl rfl rfl (by first | exact o_many rfl | exact o_one _ _ rfl) (by exact rfl) (by first | omega | (simp; omega) | simp) (by first | omega | (simp; omega) | simp) | exact o_app0 rfl rfl rfl rfl rfl (by first | exact o_many rfl | exact o_one _ _ rfl) (by first | omega | (simp; omega) | simp) (by first | omega | (simp; omega) | simp) | exact o_bsl0 rfl rfl rfl | exact z_bsll rfl rfl rfl rfl rfl rfl rfl rfl rfl | exact z_alloc rfl rfl rfl | exact o_alloc zero_Opn rfl rfl | exact o_alloc zero_Cal rfl rfl | exact o_alloc zero_state rfl rfl | exact o_alloc zero_b14 rfl rfl | exact o_cpents rfl rfl rfl rfl rfl rfl (by omega) | exact o_alloc zero_Ans rfl rfl | exact o_bsll zero_Ans rfl rfl rfl rfl rfl rfl rfl rfl | exact o_bsll zero_Opn rfl rfl rfl rfl rfl rfl rfl rfl)); (focus (first | exact want_n | exact want_g rfl (by with_reducible rfl)))) | (apply Ws; (focus (first | exact o_stin rfl (by simp) rfl rfl (by first | omega | (simp; omega)) rfl | exact o_stbar rfl (by simp) rfl rfl (by first | omega | (simp; omega)) rfl | exact ok_store tabT (d := none) rfl rfl rfl rfl rfl rfl rfl rfl rfl rfl)); (focus (first | exact want_n | exact want_g rfl (by with_reducible rfl)))) | (refine Wskip (by first | exact want_f rfl (by with_reducible exact b_nt) | exact want_f rfl (by with_reducible exact b_nf) | exact want_t rfl) rfl ?_) | refine Wgt rfl rfl (by first | assumption | omega | exact rfl) ?_ | refine Wgf rfl rfl (by first | assumption | omega | exact rfl) ?_ | (refine Wgb rfl rfl (by with_reducible assumption) ?_) | (refine cb_is _ (by assumption) ?_)))))
        exact fin ⟨res_of rfl rfl rfl, trivial⟩
  · have f0' : AFn Try.prog 13 [.sl none 27 ((swp (bytesOf la) (bytesOf lb) C 6 7).map Cal.av)] (.tup [numsA X, boolA (e1 || (e2 && false))]) := f0
    have g0' : AFn Try.prog 13 [.sl none 27 ((swx (bytesOf la) (bytesOf lb) C 6 7).map Cal.av)] (.tup [.sl none 1 [], .v (.bool false)]) := g0
    have d9 := acall Try.func13 (f0') (by decide +kernel) (by decide +kernel)
    have d10 := acall Try.func13 (g0') (by decide +kernel) (by decide +kernel)
    repeat (first | (apply Wb; (focus (exact ok_bsl_ownZ (g := 43) rfl rfl zero_Cal rfl rfl rfl (fun H' => by (repeat (first | exact wkl0 | refine wkd rfl ?_ | refine wkt ?_ | refine wkn ?_)); done) rfl rfl rfl)); (focus (first | exact want_n | exact want_g rfl (by with_reducible rfl)))) | (refine AW_go (S' := ⟨[(3, boolA true), (12, .own 43 27 3 .row), (9, .ptr 9 0 []), (10, .ptr 10 0 []), (11, .ptr 11 0 [])], [(43, .own 46 27 ((swp (bytesOf la) (bytesOf lb) C 6 7).map Cal.av)), (9, .froz A.av), (10, .froz B.av), (11, .froz C.av)]⟩) ?_ ?_; (focus ((refine Go2.sub ⟨?_, ?_, ?_⟩ <;> repeat' (first | exact True.intro | rfl | apply And.intro)); done)); refine AW_go (Go2.thaw (S' := ⟨[(3, boolA true), (12, .sl (some 43) 27 ((swp (bytesOf la) (bytesOf lb) C 6 7).map Cal.av)), (9, .ptr 9 0 []), (10, .ptr 10 0 []), (11, .ptr 11 0 [])], [(43, .tail 46 27 ((swp (bytesOf la) (bytesOf lb) C 6 7).map Cal.av).length), (9, .froz A.av), (10, .froz B.av), (11, .froz C.av)]⟩) 43 rfl (by repeat' (first | exact True.intro | rfl | apply And.intro | (simp; done))) (by repeat' (first | exact True.intro | rfl | apply And.intro | (simp; done))) rfl) ?_) | (apply Wv; (focus (first | exact ok_idx_own tabT rfl rfl rfl rfl rfl rfl (by decide) (by decide) | exact ok_fld_own tabT rfl rfl rfl rfl (show 0 < 3 by decide) rfl rfl)); (focus (first | exact want_n | exact want_g rfl (by with_reducible rfl)))) | (apply Ws; (focus (exact ok_store_own tabT (d := none) rfl rfl rfl rfl rfl (show 0 < 3 by decide) rfl rfl rfl rfl rfl rfl)); (focus (first | exact want_n | exact want_g rfl (by with_reducible rfl)))) | (refine AW_go (S' := ⟨[(3, boolA true), (9, .ptr 9 0 []), (10, .ptr 10 0 []), (11, .ptr 11 0 [])], [(9, .var A.av), (10, .var B.av), (11, .var C.av)]⟩) ?_ ?_; (focus ((refine Go2.sub ⟨?_, ?_, ?_⟩ <;> repeat' (first | exact True.intro | rfl | apply And.intro)); done)); refine AW_go (Go2.froz hE 9 rfl) ?_; refine AW_go (Go2.froz hE 10 rfl) ?_; refine AW_go (Go2.froz hE 11 rfl) ?_) | (apply Wb; (focus (exact o_bsl0 rfl rfl rfl)); (focus (first | exact want_n | exact want_g rfl (by with_reducible rfl)))) | (apply Wb; (focus (exact o_appn (f := Cal.av) (zs := (swp (bytesOf la) (bytesOf lb) C 6 7)) rfl rfl rfl rfl rfl (o_many (f := Cal.av) (xs := (swp (bytesOf la) (bytesOf lb) C 6 7)) rfl) (show 3 * _ ≤ _ by decide) (show 3 ≤ _ by decide))); (focus (first | exact want_n | exact want_g rfl (by with_reducible rfl)))) | (apply Wb; (focus (exact o_app (f := Cal.av) (xs := (swp (bytesOf la) (bytesOf lb) C 6 7)) (zs := [callC opGk 8 9 Ans.zero]) rfl rfl rfl rfl rfl (o_many (f := Cal.av) (xs := [callC opGk 8 9 Ans.zero]) rfl) (show (3 + 1) * _ ≤ _ by decide) (show 3 + 1 ≤ _ by decide))); (focus (first | exact want_n | exact want_g rfl (by with_reducible rfl)))) | (apply Wv; (focus (exact ob_cutfh (f := byteA) (xs := A.b.toList) rfl rfl rfl rfl rfl rfl rfl na0 bla (by decide))); (focus (first | exact want_n | exact want_g rfl (by with_reducible rfl)))) | (apply Wv; (focus (exact ob_cutfh (f := byteA) (xs := B.b.toList) rfl rfl rfl rfl rfl rfl rfl nb0 blb (by decide))); (focus (first | exact want_n | exact want_g rfl (by with_reducible rfl)))) | (apply Wv; (focus (exact o_convs Try.underlying33 Try.underlying5 Try.underlying9 rfl rfl)); (focus (first | exact want_n | exact want_g rfl (by with_reducible rfl))); first | rw [tka] | rw [tkb]) | (apply Wb; (focus (exact o_bsll zero_Cal rfl rfl rfl rfl rfl rfl rfl rfl)); (focus (first | exact want_n | exact want_g rfl (by with_reducible rfl)))) | (apply Wv; (focus (exact o_eqVl (a := C) (b := B) rfl rfl rfl)); (focus (first | exact want_n | exact want_g rfl (by with_reducible rfl))); rw [he1]) | (apply Wv; (focus (exact o_eqVl (a := C) (b := A) rfl rfl rfl)); (focus (first | exact want_n | exact want_g rfl (by with_reducible rfl))); rw [he2]) | (first | (first | refine Wend _ ?_ | refine AW_seq ?_ | refine AW_reg ?_ | refine AW_drw mixed ?_ | refine AW_block ?_ | refine AW_scope ?_ | refine thenA_n ?_ | refine blockA_n ?_ | refine blockA_h ?_ | refine scopeA_n ?_ | refine thenA_r ?_ | refine blockA_r ?_ | refine scopeA_r ?_ | refine thenA_e ?_ | refine scopeA_e ?_ | refine blockA_e rfl ?_ | refine AW_exit ?_ | refine AW_ret ?_ | refine AW_skip ?_ | refine AW_c rfl ?_ | with_reducible refine cb_t ?_ | with_reducible refine cb_f ?_ | with_reducible refine cb_yes (by first | assumption | omega) ?_ | with_reducible refine cb_no (by first | assumption | omega) ?_ | refine And.intro (by decide +kernel) ?_) | (first | (apply Wb; (focus (first | exact o_bsl0O rfl rfl rfl | exact oo_app0 rfl rfl rfl rfl rfl (by first | exact o_many rfl | exact o_one _ _ rfl | exact o_zero rfl) (by first | omega | (simp; omega) | (simp; done)) (by first | omega | (simp; omega) | (simp; done)))); (focus (first | exact want_n | exact want_g rfl (by with_reducible rfl)))) | (apply Wv; (focus (first | exact oi_len rfl rfl rfl rfl (by first | rfl | assumption | omega | (simp; done) | (simp; omega)) | exact oi_idx rfl rfl rfl rfl rfl rfl (by first | rfl | assumption | omega | (simp; done) | (simp; omega)) (by first | rfl | assumption | omega | (simp; done) | (simp; omega)) | exact oi_ld rfl rfl rfl (by first | rfl | assumption | omega | (simp; done) | (simp; omega)) (by first | rfl | assumption | omega | (simp; done) | (simp; omega)) rfl rfl)); (focus (first | exact want_n | exact want_g rfl (by with_reducible rfl)))) | (apply Ws; (focus (exact oi_st (f := intA) rfl rfl rfl (by first | rfl | assumption | omega | (simp; done) | (simp; omega)) (by first | rfl | assumption | omega | (simp; done) | (simp; omega)) rfl (fun _ => rfl) rfl rfl)); (focus (first | exact want_n | exact want_g rfl (by with_reducible rfl)))) | (first | (apply Wv; (focus (first | exact step_ok rfl rfl | exact o_idx rfl rfl rfl rfl (by first | assumption | omega | decide) | exact o_idx3 rfl rfl rfl rfl (by first | assumption | omega | decide) | exact o_idx2 rfl rfl rfl rfl rfl (by first | assumption | omega | decide) | exact o_idxr rfl rfl rfl rfl rfl rfl | exact o_lenm rfl rfl rfl | exact o_len rfl rfl rfl | exact o_len0 rfl rfl rfl | exact o_lens rfl rfl rfl | exact o_lent rfl rfl | exact o_add1 rfl rfl rfl (by omega) | exact o_addn rfl rfl rfl (by omega) | exact o_add rfl rfl rfl (by omega) | exact o_sub1 rfl rfl rfl (by omega) | exact o_sub rfl rfl rfl (by omega) | exact o_mul rfl rfl rfl (by omega) | exact o_rem rfl rfl rfl (by omega) | exact ok_rem rfl rfl rfl (by decide) rfl | exact o_eqKey rfl rfl rfl | exact o_neKey rfl rfl rfl | exact o_eqVl rfl rfl rfl | exact o_neVl rfl rfl rfl | exact o_eqEnt rfl rfl rfl | exact o_neEnt rfl rfl rfl | exact o_eqMsg rfl rfl rfl | exact o_neMsg rfl rfl rfl | exact o_acall rfl rfl rfl rfl (by assumption) | exact o_minn rfl rfl rfl | exact o_cutl rfl rfl rfl rfl (by omega) | exact o_cuth rfl rfl rfl rfl (by omega) | exact o_cutl3 rfl rfl rfl rfl (by omega) | exact o_cuth3 rfl rfl rfl rfl (by omega) | exact o_cutl2 rfl rfl rfl rfl rfl (by omega) | exact o_cuth2 rfl rfl rfl rfl rfl (by omega) | exact o_cutlh2 rfl rfl rfl rfl rfl rfl rfl (by omega) (by omega) | exact o_bld zero_Opn rfl rfl rfl rfl rfl rfl rfl | exact o_bld zero_Cal rfl rfl rfl rfl rfl rfl rfl | exact o_bld zero_state rfl rfl rfl rfl rfl rfl rfl | exact o_bld zero_search rfl rfl rfl rfl rfl rfl rfl | exact o_nilcr rfl rfl | exact o_nilcp rfl rfl | exact o_eqbar rfl rfl rfl (by simp) (by simp) | exact o_ldbar rfl rfl (by simp) rfl (by first | omega | (simp; omega)) rfl | exact o_idxpn rfl rfl rfl rfl (by omega) | exact o_idxvn rfl rfl rfl rfl (by omega) (by assumption) rfl | exact o_idxrn rfl rfl rfl rfl (by omega) (by assumption) | exact o_cutarr rfl rfl rfl rfl | exact o_mkfn rfl rfl rfl | exact o_callv rfl rfl rfl rfl rfl rfl (by assumption) | exact o_bld zero_Ans rfl rfl rfl rfl rfl rfl rfl | exact o_eqAns rfl rfl rfl | exact o_neAns rfl rfl rfl | exact e_bld rfl rfl rfl | exact e_bldk rfl rfl | exact z_bld0 rfl rfl rfl rfl rfl | exact z_bld rfl rfl rfl rfl rfl rfl rfl | exact o_addu rfl rfl rfl | exact z_blda rfl rfl rfl rfl rfl rfl rfl rfl rfl | exact o_idxa rfl rfl rfl rfl rfl rfl | exact o_idxra rfl rfl rfl rfl rfl rfl rfl | exact o_quo2 rfl rfl rfl (by omega) | exact o_quo rfl rfl rfl (by omega))); (focus (first | exact want_n | exact want_g rfl (by with_reducible rfl)))) | (apply Wb; (focus (first | exact o_box rfl rfl rfl rfl | exact o_app rfl rfl rfl rfl rfl (by first | exact o_many rfl | exact o_one _ _ rfl) (by first | omega | (simp; omega) | simp) (by first | omega | (simp; omega) | simp) | exact o_appn rfl rfl rfl rfl rfl (by first | exact o_many rfl | exact o_one _ _ rfl) (by first | omega | (simp; omega) | simp) (by first | omega | (simp; omega) | simp) | exact o_app1 rfl rfl rfl rfl rfl (by first | exact o_many rfl | exact o_one _ _ rfl) (by exact rfl) (by first | omega | (simp; omega) | simp) (by first | omega | (simp; omega) | simp) | exact o_app0 rfl rfl rfl rfl rfl (by first | exact o_many rfl | exact o_one _ _ rfl) (by first | omega | (simp; omega) | simp) (by first | omega | (simp; omega) | simp) | exact o_bsl0 rfl rfl rfl | exact z_bsll rfl rfl rfl rfl rfl rfl rfl rfl rfl | exact z_alloc rfl rfl rfl | exact o_alloc zero_Opn rfl rfl | exact o_alloc zero_Cal rfl rfl | exact o_alloc zero_state rfl rfl | exact o_alloc zero_b14 rfl rfl | exact o_cpents rfl rfl rfl rfl rfl rfl (by omega) | exact o_alloc zero_Ans rfl rfl | exact o_bsll zero_Ans rfl rfl rfl rfl rfl rfl rfl rfl | exact o_bsll zero_Opn rfl rfl rfl rfl rfl rfl rfl rfl)); (focus (first | exact want_n | exact want_g rfl (by with_reducible rfl)))) | (apply Ws; (focus (first | exact o_stin rfl (by simp) rfl rfl (by first | omega | (simp; omega)) rfl | exact o_stbar rfl (by simp) rfl rfl (by first | omega | (simp; omega)) rfl | exact ok_store tabT (d := none) rfl rfl rfl rfl rfl rfl rfl rfl rfl rfl)); (focus (first | exact want_n | exact want_g rfl (by with_reducible rfl)))) | (refine Wskip (by first | exact want_f rfl (by with_reducible exact b_nt) | exact want_f rfl (by with_reducible exact b_nf) | exact want_t rfl) rfl ?_) | refine Wgt rfl rfl (by first | assumption | omega | exact rfl) ?_ | refine Wgf rfl rfl (by first | assumption | omega | exact rfl) ?_ | (refine Wgb rfl rfl (by with_reducible assumption) ?_) | (refine cb_is _ (by assumption) ?_)))))
    cases e1
    · cases e2
      · repeat (first | (apply Wv; (focus (exact o_eqVl (a := C) (b := A) rfl rfl rfl)); (focus (first | exact want_n | exact want_g rfl (by with_reducible rfl))); rw [he2]) | (first | (first | refine Wend _ ?_ | refine AW_seq ?_ | refine AW_reg ?_ | refine AW_drw mixed ?_ | refine AW_block ?_ | refine AW_scope ?_ | refine thenA_n ?_ | refine blockA_n ?_ | refine blockA_h ?_ | refine scopeA_n ?_ | refine thenA_r ?_ | refine blockA_r ?_ | refine scopeA_r ?_ | refine thenA_e ?_ | refine scopeA_e ?_ | refine blockA_e rfl ?_ | refine AW_exit ?_ | refine AW_ret ?_ | refine AW_skip ?_ | refine AW_c rfl ?_ | with_reducible refine cb_t ?_ | with_reducible refine cb_f ?_ | with_reducible refine cb_yes (by first | assumption | omega) ?_ | with_reducible refine cb_no (by first | assumption | omega) ?_ | refine And.intro (by decide +kernel) ?_) | (first | (apply Wb; (focus (first | exact o_bsl0O rfl rfl rfl | exact oo_app0 rfl rfl rfl rfl rfl (by first | exact o_many rfl | exact o_one _ _ rfl | exact o_zero rfl) (by first | omega | (simp; omega) | (simp; done)) (by first | omega | (simp; omega) | (simp; done)))); (focus (first | exact want_n | exact want_g rfl (by with_reducible rfl)))) | (apply Wv; (focus (first | exact oi_len rfl rfl rfl rfl (by first | rfl | assumption | omega | (simp; done) | (simp; omega)) | exact oi_idx rfl rfl rfl rfl rfl rfl (by first | rfl | assumption | omega | (simp; done) | (simp; omega)) (by first | rfl | assumption | omega | (simp; done) | (simp; omega)) | exact oi_ld rfl rfl rfl (by first | rfl | assumption | omega | (simp; done) | (simp; omega)) (by first | rfl | assumption | omega | (simp; done) | (simp; omega)) rfl rfl)); (focus (first | exact want_n | exact want_g rfl (by with_reducible rfl)))) | (apply Ws; (focus (exact oi_st (f := intA) rfl rfl rfl (by first | rfl | assumption | omega | (simp; done) | (simp; omega)) (by first | rfl | assumption | omega | (simp; done) | (simp; omega)) rfl (fun _ => rfl) rfl rfl)); (focus (first | exact want_n | exact want_g rfl (by with_reducible rfl)))) | (first | (apply Wv; (focus (first | exact step_ok rfl rfl | exact o_idx rfl rfl rfl rfl (by first | assumption | omega | decide) | exact o_idx3 rfl rfl rfl rfl (by first | assumption | omega | decide) | exact o_idx2 rfl rfl rfl rfl rfl (by first | assumption | omega | decide) | exact o_idxr rfl rfl rfl rfl rfl rfl | exact o_lenm rfl rfl rfl | exact o_len rfl rfl rfl | exact o_len0 rfl rfl rfl | exact o_lens rfl rfl rfl | exact o_lent rfl rfl | exact o_add1 rfl rfl rfl (by omega) | exact o_addn rfl rfl rfl (by omega) | exact o_add rfl rfl rfl (by omega) | exact o_sub1 rfl rfl rfl (by omega) | exact o_sub rfl rfl rfl (by omega) | exact o_mul rfl rfl rfl (by omega) | exact o_rem rfl rfl rfl (by omega) | exact ok_rem rfl rfl rfl (by decide) rfl | exact o_eqKey rfl rfl rfl | exact o_neKey rfl rfl rfl | exact o_eqVl rfl rfl rfl | exact o_neVl rfl rfl rfl | exact o_eqEnt rfl rfl rfl | exact o_neEnt rfl rfl rfl | exact o_eqMsg rfl rfl rfl | exact o_neMsg rfl rfl rfl | exact o_acall rfl rfl rfl rfl (by assumption) | exact o_minn rfl rfl rfl | exact o_cutl rfl rfl rfl rfl (by omega) | exact o_cuth rfl rfl rfl rfl (by omega) | exact o_cutl3 rfl rfl rfl rfl (by omega) | exact o_cuth3 rfl rfl rfl rfl (by omega) | exact o_cutl2 rfl rfl rfl rfl rfl (by omega) | exact o_cuth2 rfl rfl rfl rfl rfl (by omega) | exact o_cutlh2 rfl rfl rfl rfl rfl rfl rfl (by omega) (by omega) | exact o_bld zero_Opn rfl rfl rfl rfl rfl rfl rfl | exact o_bld zero_Cal rfl rfl rfl rfl rfl rfl rfl | exact o_bld zero_state rfl rfl rfl rfl rfl rfl rfl | exact o_bld zero_search rfl rfl rfl rfl rfl rfl rfl | exact o_nilcr rfl rfl | exact o_nilcp rfl rfl | exact o_eqbar rfl rfl rfl (by simp) (by simp) | exact o_ldbar rfl rfl (by simp) rfl (by first | omega | (simp; omega)) rfl | exact o_idxpn rfl rfl rfl rfl (by omega) | exact o_idxvn rfl rfl rfl rfl (by omega) (by assumption) rfl | exact o_idxrn rfl rfl rfl rfl (by omega) (by assumption) | exact o_cutarr rfl rfl rfl rfl | exact o_mkfn rfl rfl rfl | exact o_callv rfl rfl rfl rfl rfl rfl (by assumption) | exact o_bld zero_Ans rfl rfl rfl rfl rfl rfl rfl | exact o_eqAns rfl rfl rfl | exact o_neAns rfl rfl rfl | exact e_bld rfl rfl rfl | exact e_bldk rfl rfl | exact z_bld0 rfl rfl rfl rfl rfl | exact z_bld rfl rfl rfl rfl rfl rfl rfl | exact o_addu rfl rfl rfl | exact z_blda rfl rfl rfl rfl rfl rfl rfl rfl rfl | exact o_idxa rfl rfl rfl rfl rfl rfl | exact o_idxra rfl rfl rfl rfl rfl rfl rfl | exact o_quo2 rfl rfl rfl (by omega) | exact o_quo rfl rfl rfl (by omega))); (focus (first | exact want_n | exact want_g rfl (by with_reducible rfl)))) | (apply Wb; (focus (first | exact o_box rfl rfl rfl rfl | exact o_app rfl rfl rfl rfl rfl (by first | exact o_many rfl | exact o_one _ _ rfl) (by first | omega | (simp; omega) | simp) (by first | omega | (simp; omega) | simp) | exact o_appn rfl rfl rfl rfl rfl (by first | exact o_many rfl | exact o_one _ _ rfl) (by first | omega | (simp; omega) | simp) (by first | omega | (simp; omega) | simp) | exact o_app1 rfl rfl rfl rfl rfl (by first | exact o_many rfl | exact o_one _ _ rfl) (by exact rfl) (by first | omega | (simp; omega) | simp) (by first | omega | (simp; omega) | simp) | exact o_app0 rfl rfl rfl rfl rfl (by first | exact o_many rfl | exact o_one _ _ rfl) (by first | omega | (simp; omega) | simp) (by first | omega | (simp; omega) | simp) | exact o_bsl0 rfl rfl rfl | exact z_bsll rfl rfl rfl rfl rfl rfl rfl rfl rfl | exact z_alloc rfl rfl rfl | exact o_alloc zero_Opn rfl rfl | exact o_alloc zero_Cal rfl rfl | exact o_alloc zero_state rfl rfl | exact o_alloc zero_b14 rfl rfl | exact o_cpents rfl rfl rfl rfl rfl rfl (by omega) | exact o_alloc zero_Ans rfl rfl | exact o_bsll zero_Ans rfl rfl rfl rfl rfl rfl rfl rfl | exact o_bsll zero_Opn rfl rfl rfl rfl rfl rfl rfl rfl)); (focus (first | exact want_n | exact want_g rfl (by with_reducible rfl)))) | (apply Ws; (focus (first | exact o_stin rfl (by simp) rfl rfl (by first | omega | (simp; omega)) rfl | exact o_stbar rfl (by simp) rfl rfl (by first | omega | (simp; omega)) rfl | exact ok_store tabT (d := none) rfl rfl rfl rfl rfl rfl rfl rfl rfl rfl)); (focus (first | exact want_n | exact want_g rfl (by with_reducible rfl)))) | (refine Wskip (by first | exact want_f rfl (by with_reducible exact b_nt) | exact want_f rfl (by with_reducible exact b_nf) | exact want_t rfl) rfl ?_) | refine Wgt rfl rfl (by first | assumption | omega | exact rfl) ?_ | refine Wgf rfl rfl (by first | assumption | omega | exact rfl) ?_ | (refine Wgb rfl rfl (by with_reducible assumption) ?_) | (refine cb_is _ (by assumption) ?_)))))
        exact fin ⟨res_of rfl rfl rfl, trivial⟩
      · repeat (first | (apply Wv; (focus (exact o_eqVl (a := C) (b := A) rfl rfl rfl)); (focus (first | exact want_n | exact want_g rfl (by with_reducible rfl))); rw [he2]) | (first | (first | refine Wend _ ?_ | refine AW_seq ?_ | refine AW_reg ?_ | refine AW_drw mixed ?_ | refine AW_block ?_ | refine AW_scope ?_ | refine thenA_n ?_ | refine blockA_n ?_ | refine blockA_h ?_ | refine scopeA_n ?_ | refine thenA_r ?_ | refine blockA_r ?_ | refine scopeA_r ?_ | refine thenA_e ?_ | refine scopeA_e ?_ | refine blockA_e rfl ?_ | refine AW_exit ?_ | refine AW_ret ?_ | refine AW_skip ?_ | refine AW_c rfl ?_ | with_reducible refine cb_t ?_ | with_reducible refine cb_f ?_ | with_reducible refine cb_yes (by first | assumption | omega) ?_ | with_reducible refine cb_no (by first | assumption | omega) ?_ | refine And.intro (by decide +kernel) ?_) | (first | (apply Wb; (focus (first | exact o_bsl0O rfl rfl rfl | exact oo_app0 rfl rfl rfl rfl rfl (by first | exact o_many rfl | exact o_one _ _ rfl | exact o_zero rfl) (by first | omega | (simp; omega) | (simp; done)) (by first | omega | (simp; omega) | (simp; done)))); (focus (first | exact want_n | exact want_g rfl (by with_reducible rfl)))) | (apply Wv; (focus (first | exact oi_len rfl rfl rfl rfl (by first | rfl | assumption | omega | (simp; done) | (simp; omega)) | exact oi_idx rfl rfl rfl rfl rfl rfl (by first | rfl | assumption | omega | (simp; done) | (simp; omega)) (by first | rfl | assumption | omega | (simp; done) | (simp; omega)) | exact oi_ld rfl rfl rfl (by first | rfl | assumption | omega | (simp; done) | (simp; omega)) (by first | rfl | assumption | omega | (simp; done) | (simp; omega)) rfl rfl)); (focus (first | exact want_n | exact want_g rfl (by with_reducible rfl)))) | (apply Ws; (focus (exact oi_st (f := intA) rfl rfl rfl (by first | rfl | assumption | omega | (simp; done) | (simp; omega)) (by first | rfl | assumption | omega | (simp; done) | (simp; omega)) rfl (fun _ => rfl) rfl rfl)); (focus (first | exact want_n | exact want_g rfl (by with_reducible rfl)))) | (first | (apply Wv; (focus (first | exact step_ok rfl rfl | exact o_idx rfl rfl rfl rfl (by first | assumption | omega | decide) | exact o_idx3 rfl rfl rfl rfl (by first | assumption | omega | decide) | exact o_idx2 rfl rfl rfl rfl rfl (by first | assumption | omega | decide) | exact o_idxr rfl rfl rfl rfl rfl rfl | exact o_lenm rfl rfl rfl | exact o_len rfl rfl rfl | exact o_len0 rfl rfl rfl | exact o_lens rfl rfl rfl | exact o_lent rfl rfl | exact o_add1 rfl rfl rfl (by omega) | exact o_addn rfl rfl rfl (by omega) | exact o_add rfl rfl rfl (by omega) | exact o_sub1 rfl rfl rfl (by omega) | exact o_sub rfl rfl rfl (by omega) | exact o_mul rfl rfl rfl (by omega) | exact o_rem rfl rfl rfl (by omega) | exact ok_rem rfl rfl rfl (by decide) rfl | exact o_eqKey rfl rfl rfl | exact o_neKey rfl rfl rfl | exact o_eqVl rfl rfl rfl | exact o_neVl rfl rfl rfl | exact o_eqEnt rfl rfl rfl | exact o_neEnt rfl rfl rfl | exact o_eqMsg rfl rfl rfl | exact o_neMsg rfl rfl rfl | exact o_acall rfl rfl rfl rfl (by assumption) | exact o_minn rfl rfl rfl | exact o_cutl rfl rfl rfl rfl (by omega) | exact o_cuth rfl rfl rfl rfl (by omega) | exact o_cutl3 rfl rfl rfl rfl (by omega) | exact o_cuth3 rfl rfl rfl rfl (by omega) | exact o_cutl2 rfl rfl rfl rfl rfl (by omega) | exact o_cuth2 rfl rfl rfl rfl rfl (by omega) | exact o_cutlh2 rfl rfl rfl rfl rfl rfl rfl (by omega) (by omega) | exact o_bld zero_Opn rfl rfl rfl rfl rfl rfl rfl | exact o_bld zero_Cal rfl rfl rfl rfl rfl rfl rfl | exact o_bld zero_state rfl rfl rfl rfl rfl rfl rfl | exact o_bld zero_search rfl rfl rfl rfl rfl rfl rfl | exact o_nilcr rfl rfl | exact o_nilcp rfl rfl | exact o_eqbar rfl rfl rfl (by simp) (by simp) | exact o_ldbar rfl rfl (by simp) rfl (by first | omega | (simp; omega)) rfl | exact o_idxpn rfl rfl rfl rfl (by omega) | exact o_idxvn rfl rfl rfl rfl (by omega) (by assumption) rfl | exact o_idxrn rfl rfl rfl rfl (by omega) (by assumption) | exact o_cutarr rfl rfl rfl rfl | exact o_mkfn rfl rfl rfl | exact o_callv rfl rfl rfl rfl rfl rfl (by assumption) | exact o_bld zero_Ans rfl rfl rfl rfl rfl rfl rfl | exact o_eqAns rfl rfl rfl | exact o_neAns rfl rfl rfl | exact e_bld rfl rfl rfl | exact e_bldk rfl rfl | exact z_bld0 rfl rfl rfl rfl rfl | exact z_bld rfl rfl rfl rfl rfl rfl rfl | exact o_addu rfl rfl rfl | exact z_blda rfl rfl rfl rfl rfl rfl rfl rfl rfl | exact o_idxa rfl rfl rfl rfl rfl rfl | exact o_idxra rfl rfl rfl rfl rfl rfl rfl | exact o_quo2 rfl rfl rfl (by omega) | exact o_quo rfl rfl rfl (by omega))); (focus (first | exact want_n | exact want_g rfl (by with_reducible rfl)))) | (apply Wb; (focus (first | exact o_box rfl rfl rfl rfl | exact o_app rfl rfl rfl rfl rfl (by first | exact o_many rfl | exact o_one _ _ rfl) (by first | omega | (simp; omega) | simp) (by first | omega | (simp; omega) | simp) | exact o_appn rfl rfl rfl rfl rfl (by first | exact o_many rfl | exact o_one _ _ rfl) (by first | omega | (simp; omega) | simp) (by first | omega | (simp; omega) | simp) | exact o_app1 rfl rfl rfl rfl rfl (by first | exact o_many rfl | exact o_one _ _ rfl) (by exact rfl) (by first | omega | (simp; omega) | simp) (by first | omega | (simp; omega) | simp) | exact o_app0 rfl rfl rfl rfl rfl (by first | exact o_many rfl | exact o_one _ _ rfl) (by first | omega | (simp; omega) | simp) (by first | omega | (simp; omega) | simp) | exact o_bsl0 rfl rfl rfl | exact z_bsll rfl rfl rfl rfl rfl rfl rfl rfl rfl | exact z_alloc rfl rfl rfl | exact o_alloc zero_Opn rfl rfl | exact o_alloc zero_Cal rfl rfl | exact o_alloc zero_state rfl rfl | exact o_alloc zero_b14 rfl rfl | exact o_cpents rfl rfl rfl rfl rfl rfl (by omega) | exact o_alloc zero_Ans rfl rfl | exact o_bsll zero_Ans rfl rfl rfl rfl rfl rfl rfl rfl | exact o_bsll zero_Opn rfl rfl rfl rfl rfl rfl rfl rfl)); (focus (first | exact want_n | exact want_g rfl (by with_reducible rfl)))) | (apply Ws; (focus (first | exact o_stin rfl (by simp) rfl rfl (by first | omega | (simp; omega)) rfl | exact o_stbar rfl (by simp) rfl rfl (by first | omega | (simp; omega)) rfl | exact ok_store tabT (d := none) rfl rfl rfl rfl rfl rfl rfl rfl rfl rfl)); (focus (first | exact want_n | exact want_g rfl (by with_reducible rfl)))) | (refine Wskip (by first | exact want_f rfl (by with_reducible exact b_nt) | exact want_f rfl (by with_reducible exact b_nf) | exact want_t rfl) rfl ?_) | refine Wgt rfl rfl (by first | assumption | omega | exact rfl) ?_ | refine Wgf rfl rfl (by first | assumption | omega | exact rfl) ?_ | (refine Wgb rfl rfl (by with_reducible assumption) ?_) | (refine cb_is _ (by assumption) ?_)))))
        exact fin ⟨res_of rfl rfl rfl, trivial⟩
    · cases e2
      · repeat (first | (apply Wv; (focus (exact o_eqVl (a := C) (b := A) rfl rfl rfl)); (focus (first | exact want_n | exact want_g rfl (by with_reducible rfl))); rw [he2]) | (first | (first | refine Wend _ ?_ | refine AW_seq ?_ | refine AW_reg ?_ | refine AW_drw mixed ?_ | refine AW_block ?_ | refine AW_scope ?_ | refine thenA_n ?_ | refine blockA_n ?_ | refine blockA_h ?_ | refine scopeA_n ?_ | refine thenA_r ?_ | refine blockA_r ?_ | refine scopeA_r ?_ | refine thenA_e ?_ | refine scopeA_e ?_ | refine blockA_e rfl ?_ | refine AW_exit ?_ | refine AW_ret ?_ | refine AW_skip ?_ | refine AW_c rfl ?_ | with_reducible refine cb_t ?_ | with_reducible refine cb_f ?_ | with_reducible refine cb_yes (by first | assumption | omega) ?_ | with_reducible refine cb_no (by first | assumption | omega) ?_ | refine And.intro (by decide +kernel) ?_) | (first | (apply Wb; (focus (first | exact o_bsl0O rfl rfl rfl | exact oo_app0 rfl rfl rfl rfl rfl (by first | exact o_many rfl | exact o_one _ _ rfl | exact o_zero rfl) (by first | omega | (simp; omega) | (simp; done)) (by first | omega | (simp; omega) | (simp; done)))); (focus (first | exact want_n | exact want_g rfl (by with_reducible rfl)))) | (apply Wv; (focus (first | exact oi_len rfl rfl rfl rfl (by first | rfl | assumption | omega | (simp; done) | (simp; omega)) | exact oi_idx rfl rfl rfl rfl rfl rfl (by first | rfl | assumption | omega | (simp; done) | (simp; omega)) (by first | rfl | assumption | omega | (simp; done) | (simp; omega)) | exact oi_ld rfl rfl rfl (by first | rfl | assumption | omega | (simp; done) | (simp; omega)) (by first | rfl | assumption | omega | (simp; done) | (simp; omega)) rfl rfl)); (focus (first | exact want_n | exact want_g rfl (by with_reducible rfl)))) | (apply Ws; (focus (exact oi_st (f := intA) rfl rfl rfl (by first | rfl | assumption | omega | (simp; done) | (simp; omega)) (by first | rfl | assumption | omega | (simp; done) | (simp; omega)) rfl (fun _ => rfl) rfl rfl)); (focus (first | exact want_n | exact want_g rfl (by with_reducible rfl)))) | (first | (apply Wv; (focus (first | exact step_ok rfl rfl | exact o_idx rfl rfl rfl rfl (by first | assumption | omega | decide) | exact o_idx3 rfl rfl rfl rfl (by first | assumption | omega | decide) | exact o_idx2 rfl rfl rfl rfl rfl (by first | assumption | omega | decide) | exact o_idxr rfl rfl rfl rfl rfl rfl | exact o_lenm rfl rfl rfl | exact o_len rfl rfl rfl | exact o_len0 rfl rfl rfl | exact o_lens rfl rfl rfl | exact o_lent rfl rfl | exact o_add1 rfl rfl rfl (by omega) | exact o_addn rfl rfl rfl (by omega) | exact o_add rfl rfl rfl (by omega) | exact o_sub1 rfl rfl rfl (by omega) | exact o_sub rfl rfl rfl (by omega) | exact o_mul rfl rfl rfl (by omega) | exact o_rem rfl rfl rfl (by omega) | exact ok_rem rfl rfl rfl (by decide) rfl | exact o_eqKey rfl rfl rfl | exact o_neKey rfl rfl rfl | exact o_eqVl rfl rfl rfl | exact o_neVl rfl rfl rfl | exact o_eqEnt rfl rfl rfl | exact o_neEnt rfl rfl rfl | exact o_eqMsg rfl rfl rfl | exact o_neMsg rfl rfl rfl | exact o_acall rfl rfl rfl rfl (by assumption) | exact o_minn rfl rfl rfl | exact o_cutl rfl rfl rfl rfl (by omega) | exact o_cuth rfl rfl rfl rfl (by omega) | exact o_cutl3 rfl rfl rfl rfl (by omega) | exact o_cuth3 rfl rfl rfl rfl (by omega) | exact o_cutl2 rfl rfl rfl rfl rfl (by omega) | exact o_cuth2 rfl rfl rfl rfl rfl (by omega) | exact o_cutlh2 rfl rfl rfl rfl rfl rfl rfl (by omega) (by omega) | exact o_bld zero_Opn rfl rfl rfl rfl rfl rfl rfl | exact o_bld zero_Cal rfl rfl rfl rfl rfl rfl rfl | exact o_bld zero_state rfl rfl rfl rfl rfl rfl rfl | exact o_bld zero_search rfl rfl rfl rfl rfl rfl rfl | exact o_nilcr rfl rfl | exact o_nilcp rfl rfl | exact o_eqbar rfl rfl rfl (by simp) (by simp) | exact o_ldbar rfl rfl (by simp) rfl (by first | omega | (simp; omega)) rfl | exact o_idxpn rfl rfl rfl rfl (by omega) | exact o_idxvn rfl rfl rfl rfl (by omega) (by assumption) rfl | exact o_idxrn rfl rfl rfl rfl (by omega) (by assumption) | exact o_cutarr rfl rfl rfl rfl | exact o_mkfn rfl rfl rfl | exact o_callv rfl rfl rfl rfl rfl rfl (by assumption) | exact o_bld zero_Ans rfl rfl rfl rfl rfl rfl rfl | exact o_eqAns rfl rfl rfl | exact o_neAns rfl rfl rfl | exact e_bld rfl rfl rfl | exact e_bldk rfl rfl | exact z_bld0 rfl rfl rfl rfl rfl | exact z_bld rfl rfl rfl rfl rfl rfl rfl | exact o_addu rfl rfl rfl | exact z_blda rfl rfl rfl rfl rfl rfl rfl rfl rfl | exact o_idxa rfl rfl rfl rfl rfl rfl | exact o_idxra rfl rfl rfl rfl rfl rfl rfl | exact o_quo2 rfl rfl rfl (by omega) | exact o_quo rfl rfl rfl (by omega))); (focus (first | exact want_n | exact want_g rfl (by with_reducible rfl)))) | (apply Wb; (focus (first | exact o_box rfl rfl rfl rfl | exact o_app rfl rfl rfl rfl rfl (by first | exact o_many rfl | exact o_one _ _ rfl) (by first | omega | (simp; omega) | simp) (by first | omega | (simp; omega) | simp) | exact o_appn rfl rfl rfl rfl rfl (by first | exact o_many rfl | exact o_one _ _ rfl) (by first | omega | (simp; omega) | simp) (by first | omega | (simp; omega) | simp) | exact o_app1 rfl rfl rfl rfl rfl (by first | exact o_many rfl | exact o_one _ _ rfl) (by exact rfl) (by first | omega | (simp; omega) | simp) (by first | omega | (simp; omega) | simp) | exact o_app0 rfl rfl rfl rfl rfl (by first | exact o_many rfl | exact o_one _ _ rfl) (by first | omega | (simp; omega) | simp) (by first | omega | (simp; omega) | simp) | exact o_bsl0 rfl rfl rfl | exact z_bsll rfl rfl rfl rfl rfl rfl rfl rfl rfl | exact z_alloc rfl rfl rfl | exact o_alloc zero_Opn rfl rfl | exact o_alloc zero_Cal rfl rfl | exact o_alloc zero_state rfl rfl | exact o_alloc zero_b14 rfl rfl | exact o_cpents rfl rfl rfl rfl rfl rfl (by omega) | exact o_alloc zero_Ans rfl rfl | exact o_bsll zero_Ans rfl rfl rfl rfl rfl rfl rfl rfl | exact o_bsll zero_Opn rfl rfl rfl rfl rfl rfl rfl rfl)); (focus (first | exact want_n | exact want_g rfl (by with_reducible rfl)))) | (apply Ws; (focus (first | exact o_stin rfl (by simp) rfl rfl (by first | omega | (simp; omega)) rfl | exact o_stbar rfl (by simp) rfl rfl (by first | omega | (simp; omega)) rfl | exact ok_store tabT (d := none) rfl rfl rfl rfl rfl rfl rfl rfl rfl rfl)); (focus (first | exact want_n | exact want_g rfl (by with_reducible rfl)))) | (refine Wskip (by first | exact want_f rfl (by with_reducible exact b_nt) | exact want_f rfl (by with_reducible exact b_nf) | exact want_t rfl) rfl ?_) | refine Wgt rfl rfl (by first | assumption | omega | exact rfl) ?_ | refine Wgf rfl rfl (by first | assumption | omega | exact rfl) ?_ | (refine Wgb rfl rfl (by with_reducible assumption) ?_) | (refine cb_is _ (by assumption) ?_)))))
        exact fin ⟨res_of rfl rfl rfl, trivial⟩
      · repeat (first | (apply Wv; (focus (exact o_eqVl (a := C) (b := A) rfl rfl rfl)); (focus (first | exact want_n | exact want_g rfl (by with_reducible rfl))); rw [he2]) | (first | (first | refine Wend _ ?_ | refine AW_seq ?_ | refine AW_reg ?_ | refine AW_drw mixed ?_ | refine AW_block ?_ | refine AW_scope ?_ | refine thenA_n ?_ | refine blockA_n ?_ | refine blockA_h ?_ | refine scopeA_n ?_ | refine thenA_r ?_ | refine blockA_r ?_ | refine scopeA_r ?_ | refine thenA_e ?_ | refine scopeA_e ?_ | refine blockA_e rfl ?_ | refine AW_exit ?_ | refine AW_ret ?_ | refine AW_skip ?_ | refine AW_c rfl ?_ | with_reducible refine cb_t ?_ | with_reducible refine cb_f ?_ | with_reducible refine cb_yes (by first | assumption | omega) ?_ | with_reducible refine cb_no (by first | assumption | omega) ?_ | refine And.intro (by decide +kernel) ?_) | (first | (apply Wb; (focus (first | exact o_bsl0O rfl rfl rfl | exact oo_app0 rfl rfl rfl rfl rfl (by first | exact o_many rfl | exact o_one _ _ rfl | exact o_zero rfl) (by first | omega | (simp; omega) | (simp; done)) (by first | omega | (simp; omega) | (simp; done)))); (focus (first | exact want_n | exact want_g rfl (by with_reducible rfl)))) | (apply Wv; (focus (first | exact oi_len rfl rfl rfl rfl (by first | rfl | assumption | omega | (simp; done) | (simp; omega)) | exact oi_idx rfl rfl rfl rfl rfl rfl (by first | rfl | assumption | omega | (simp; done) | (simp; omega)) (by first | rfl | assumption | omega | (simp; done) | (simp; omega)) | exact oi_ld rfl rfl rfl (by first | rfl | assumption | omega | (simp; done) | (simp; omega)) (by first | rfl | assumption | omega | (simp; done) | (simp; omega)) rfl rfl)); (focus (first | exact want_n | exact want_g rfl (by with_reducible rfl)))) | (apply Ws; (focus (exact oi_st (f := intA) rfl rfl rfl (by first | rfl | assumption | omega | (simp; done) | (simp; omega)) (by first | rfl | assumption | omega | (simp; done) | (simp; omega)) rfl (fun _ => rfl) rfl rfl)); (focus (first | exact want_n | exact want_g rfl (by with_reducible rfl)))) | (first | (apply Wv; (focus (first | exact step_ok rfl rfl | exact o_idx rfl rfl rfl rfl (by first | assumption | omega | decide) | exact o_idx3 rfl rfl rfl rfl (by first | assumption | omega | decide) | exact o_idx2 rfl rfl rfl rfl rfl (by first | assumption | omega | decide) | exact o_idxr rfl rfl rfl rfl rfl rfl | exact o_lenm rfl rfl rfl | exact o_len rfl rfl rfl | exact o_len0 rfl rfl rfl | exact o_lens rfl rfl rfl | exact o_lent rfl rfl | exact o_add1 rfl rfl rfl (by omega) | exact o_addn rfl rfl rfl (by omega) | exact o_add rfl rfl rfl (by omega) | exact o_sub1 rfl rfl rfl (by omega) | exact o_sub rfl rfl rfl (by omega) | exact o_mul rfl rfl rfl (by omega) | exact o_rem rfl rfl rfl (by omega) | exact ok_rem rfl rfl rfl (by decide) rfl | exact o_eqKey rfl rfl rfl | exact o_neKey rfl rfl rfl | exact o_eqVl rfl rfl rfl | exact o_neVl rfl rfl rfl | exact o_eqEnt rfl rfl rfl | exact o_neEnt rfl rfl rfl | exact o_eqMsg rfl rfl rfl | exact o_neMsg rfl rfl rfl | exact o_acall rfl rfl rfl rfl (by assumption) | exact o_minn rfl rfl rfl | exact o_cutl rfl rfl rfl rfl (by omega) | exact o_cuth rfl rfl rfl rfl (by omega) | exact o_cutl3 rfl rfl rfl rfl (by omega) | exact o_cuth3 rfl rfl rfl rfl (by omega) | exact o_cutl2 rfl rfl rfl rfl rfl (by omega) | exact o_cuth2 rfl rfl rfl rfl rfl (by omega) | exact o_cutlh2 rfl rfl rfl rfl rfl rfl rfl (by omega) (by omega) | exact o_bld zero_Opn rfl rfl rfl rfl rfl rfl rfl | exact o_bld zero_Cal rfl rfl rfl rfl rfl rfl rfl | exact o_bld zero_state rfl rfl rfl rfl rfl rfl rfl | exact o_bld zero_search rfl rfl rfl rfl rfl rfl rfl | exact o_nilcr rfl rfl | exact o_nilcp rfl rfl | exact o_eqbar rfl rfl rfl (by simp) (by simp) | exact o_ldbar rfl rfl (by simp) rfl (by first | omega | (simp; omega)) rfl | exact o_idxpn rfl rfl rfl rfl (by omega) | exact o_idxvn rfl rfl rfl rfl (by omega) (by assumption) rfl | exact o_idxrn rfl rfl rfl rfl (by omega) (by assumption) | exact o_cutarr rfl rfl rfl rfl | exact o_mkfn rfl rfl rfl | exact o_callv rfl rfl rfl rfl rfl rfl (by assumption) | exact o_bld zero_Ans rfl rfl rfl rfl rfl rfl rfl | exact o_eqAns rfl rfl rfl | exact o_neAns rfl rfl rfl | exact e_bld rfl rfl rfl | exact e_bldk rfl rfl | exact z_bld0 rfl rfl rfl rfl rfl | exact z_bld rfl rfl rfl rfl rfl rfl rfl | exact o_addu rfl rfl rfl | exact z_blda rfl rfl rfl rfl rfl rfl rfl rfl rfl | exact o_idxa rfl rfl rfl rfl rfl rfl | exact o_idxra rfl rfl rfl rfl rfl rfl rfl | exact o_quo2 rfl rfl rfl (by omega) | exact o_quo rfl rfl rfl (by omega))); (focus (first | exact want_n | exact want_g rfl (by with_reducible rfl)))) | (apply Wb; (focus (first | exact o_box rfl rfl rfl rfl | exact o_app rfl rfl rfl rfl rfl (by first | exact o_many rfl | exact o_one _ _ rfl) (by first | omega | (simp; omega) | simp) (by first | omega | (simp; omega) | simp) | exact o_appn rfl rfl rfl rfl rfl (by first | exact o_many rfl | exact o_one _ _ rfl) (by first | omega | (simp; omega) | simp) (by first | omega | (simp; omega) | simp) | exact o_app1 rfl rfl rfl rfl rfl (by first | exact o_many rfl | exact o_one _ _ rfl) (by exact rfl) (by first | omega | (simp; omega) | simp) (by first | omega | (simp; omega) | simp) | exact o_app0 rfl rfl rfl rfl rfl (by first | exact o_many rfl | exact o_one _ _ rfl) (by first | omega | (simp; omega) | simp) (by first | omega | (simp; omega) | simp) | exact o_bsl0 rfl rfl rfl | exact z_bsll rfl rfl rfl rfl rfl rfl rfl rfl rfl | exact z_alloc rfl rfl rfl | exact o_alloc zero_Opn rfl rfl | exact o_alloc zero_Cal rfl rfl | exact o_alloc zero_state rfl rfl | exact o_alloc zero_b14 rfl rfl | exact o_cpents rfl rfl rfl rfl rfl rfl (by omega) | exact o_alloc zero_Ans rfl rfl | exact o_bsll zero_Ans rfl rfl rfl rfl rfl rfl rfl rfl | exact o_bsll zero_Opn rfl rfl rfl rfl rfl rfl rfl rfl)); (focus (first | exact want_n | exact want_g rfl (by with_reducible rfl)))) | (apply Ws; (focus (first | exact o_stin rfl (by simp) rfl rfl (by first | omega | (simp; omega)) rfl | exact o_stbar rfl (by simp) rfl rfl (by first | omega | (simp; omega)) rfl | exact ok_store tabT (d := none) rfl rfl rfl rfl rfl rfl rfl rfl rfl rfl)); (focus (first | exact want_n | exact want_g rfl (by with_reducible rfl)))) | (refine Wskip (by first | exact want_f rfl (by with_reducible exact b_nt) | exact want_f rfl (by with_reducible exact b_nf) | exact want_t rfl) rfl ?_) | refine Wgt rfl rfl (by first | assumption | omega | exact rfl) ?_ | refine Wgf rfl rfl (by first | assumption | omega | exact rfl) ?_ | (refine Wgb rfl rfl (by with_reducible assumption) ?_) | (refine cb_is _ (by assumption) ?_)))))
        exact fin ⟨res_of rfl rfl rfl, trivial⟩
theorem lineSwap_walk (n0 : Int) (n1 : Int) (n2 : Int) (c3 : Bool) (w : World) (b0 : -9223372036854775808 ≤ n0 ∧ n0 ≤ 9223372036854775807) (b1 : -9223372036854775808 ≤ n1 ∧ n1 ≤ 9223372036854775807) (b2 : -9223372036854775808 ≤ n2 ∧ n2 ≤ 9223372036854775807) :
    Calls Try.prog 10 #[.int .i64 n0, .int .i64 n1, .int .i64 n2, .bool c3] w (Is w (.bool true)) :=
  law_of (a_lswap n0 n1 n2 b0 b1 b2 c3) (rdp_cons rfl int_in (rdp_cons rfl int_in (rdp_cons rfl int_in (rdp_cons rfl (Rdv_v.2 ⟨rfl, rfl⟩) rdp_nil'))))
end Go.Proofs.Ytphojngdgmnpaaa
