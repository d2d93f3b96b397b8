/-
  M7: several texts as one: LawLine4, LawLine5, LawLine6. No condition beyond those that each theorem states.
-/
import Derived.Test.YtphojngdgmnpaaaM6
namespace Go.Proofs.Ytphojngdgmnpaaa
open Go Go.RowKit
set_option linter.unusedVariables false
set_option linter.unusedSimpArgs false
set_option maxRecDepth 100000
/-- a call by a number: of few keys, under way at once with others, its answer one that may be or not -/
def calN (i : Nat) (v : Int) : Cal :=
  let k := v % 1099511627776
  let o0 := lawOp (k % 4 + k / 4 % 3 * 32)
  let o : Opn := if o0.kind = 3 then { o0 with add := BitVec.ofInt 64 (1 + k / 16384 % 3) } else o0
  let c := callC o (2 * (i : Int)) (2 * (i : Int) + 1 + k / 16 % 7) Ans.zero
  if k / 128 % 8 = 7 then { c with to := -1 }
  else if large o then { c with ans := { Ans.zero with code := 2 } }
  else if o.kind = 4 ∧ k / 1024 % 2 = 0 then { c with ans := { Ans.zero with found := true, val := lawVl (k / 2048 % 3) } }
  else if o.kind ≠ 4 ∧ k / 1024 % 8 = 0 then { c with ans := { Ans.zero with code := 3 } }
  else c
def callsGo : Nat → List Int → List Cal
  | _, [] => []
  | i, v :: vs => calN i v :: callsGo (i + 1) vs
def callsC (l : List Int) (most : Nat) : List Cal := callsGo 0 (l.take most)
theorem callsGo_len : ∀ (l : List Int) (i : Nat), (callsGo i l).length = l.length
  | [], _ => rfl
  | v :: l, i => by simp [callsGo, callsGo_len l]
theorem callsC_len (l : List Int) (most : Nat) : (callsC l most).length = min most l.length := by unfold callsC; rw [callsGo_len, List.length_take]
attribute [local irreducible] OpOK AWops AW CondB Go2 AFn thenA inBlockA noGotoA orderOk wantedA
set_option maxRecDepth 100000 in
set_option maxHeartbeats 8000000 in
theorem a_calls (l : List Int) (hv : ∀ v ∈ l, -9223372036854775808 ≤ v ∧ v ≤ 9223372036854775807) (hl : l.length ≤ 1000000000000000) (most : Nat) (hm : most ≤ 100) :
    AFn Try.prog 11 [intsA l, intA (most : Nat)] (calsA (callsC l most)) := by
  refine AFn_intro Try.func11 rfl Try.ntmps11 rfl (by simp) [_] rfl fun E hE => ?_
  have hnt : (!true) = false := rfl
  have hnf : (!false) = true := rfl
  refine wSS ?_
  refine AW_go (Go2.token 5 5 26 46 rfl rfl) ?_
  refine AW_loopI (fun x : Nat × List Cal => ⟨[(0, intsA l), (1, intA (most : Nat)), (5, .sl (some 5) 27 (x.2.map Cal.av)), (6, intA (x.1 : Nat))], [(5, .tail 46 27 x.2.length)]⟩) (fun x => x.1 ≤ (l.take most).length ∧ x.2.length = x.1 ∧ x.2 ++ callsGo x.1 ((l.take most).drop x.1) = callsC l most) (fun x => (l.take most).length - x.1) (0, []) ⟨Nat.zero_le _, rfl, rfl⟩ (by (refine Go2.sub ⟨?_, ?_, ?_⟩ <;> repeat' (first | exact True.intro | rfl | apply And.intro))) (fun x hx => ?_)
  obtain ⟨i, acc⟩ := x
  obtain ⟨hi, hal, hF⟩ := hx
  dsimp only at hi hal hF ⊢
  have htl : (l.take most).length = min most l.length := List.length_take
  have end_ : (l.take most).length ≤ i → acc = callsC l most := fun h => by
    rw [List.drop_of_length_le h] at hF
    simpa [callsGo] using hF
  by_cases c1 : i < l.length
  · by_cases c2 : i < most
    · have c2i : (i : Int) < (most : Nat) := by omega
      have hlt : i < (l.take most).length := by omega
      have hvi := hv l[i] (List.getElem_mem c1)
      have hget : (l.take most)[i] = l[i] := List.getElem_take
      rw [List.drop_eq_getElem_cons hlt, hget] at hF
      have c5 := a_lplace l[i] 1099511627776 (by omega) (by omega) hvi
      unfold callsGo calN at hF
      dsimp only at hF
      obtain ⟨k, hk⟩ : ∃ k : Nat, l[i] % 1099511627776 = (k : Int) := ⟨(l[i] % 1099511627776).toNat, by omega⟩
      have hkb : k < 1099511627776 := by omega
      rw [hk] at c5 hF
      have co := a_lop ((k : Int) % 4 + (k : Int) / 4 % 3 * 32) (by omega)
      generalize lawOp ((k : Int) % 4 + (k : Int) / 4 % 3 * 32) = o0 at co hF
      have d1 := acall Try.func17 (c5) (by decide +kernel) (by decide +kernel)
      have d2 := acall Try.func26 (co) (by decide +kernel) (by decide +kernel)
--CASES
      by_cases h3 : o0.kind = 3
      · rw [if_pos h3] at hF
        refine wSS ?_
        (apply Wv; (focus (exact o_convu ⟨_, Try.underlying3⟩ Try.underlying36 rfl rfl)); (focus (first | exact want_n | exact want_g rfl (by with_reducible rfl))))
        have hkind : ({ o0 with add := BitVec.ofInt 64 (1 + (k : Int) / 16384 % 3) }).kind = o0.kind := rfl
        have cc := a_call25 ({ o0 with add := BitVec.ofInt 64 (1 + (k : Int) / 16384 % 3) }) (2 * (i : Int)) (2 * (i : Int) + 1 + (k : Int) / 16 % 7) Ans.zero
        have cl := a_ref23large ({ o0 with add := BitVec.ofInt 64 (1 + (k : Int) / 16384 % 3) })
        have d3 := acall Try.func22 (cc) (by decide +kernel) (by decide +kernel)
        by_cases h7 : (k : Int) / 128 % 8 = 7
        · rw [if_pos h7] at hF
          refine wSS ?_
          (apply Wb; (focus (exact o_bsll zero_Cal rfl rfl rfl rfl rfl rfl rfl rfl)); (focus (first | exact want_n | exact want_g rfl (by with_reducible rfl))))
          (apply Wb; (focus (exact o_app (f := Cal.av) (tk := 5) (xs := acc) (zs := [{ callC ({ o0 with add := BitVec.ofInt 64 (1 + (k : Int) / 16384 % 3) }) (2 * (i : Int)) (2 * (i : Int) + 1 + (k : Int) / 16 % 7) Ans.zero with to := -1 }]) rfl rfl rfl rfl rfl (by exact o_one Cal.av ({ callC ({ o0 with add := BitVec.ofInt 64 (1 + (k : Int) / 16384 % 3) }) (2 * (i : Int)) (2 * (i : Int) + 1 + (k : Int) / 16 % 7) Ans.zero with to := -1 }) rfl) (by simp; omega) (by simp; omega))); (focus (first | exact want_n | exact want_g rfl (by with_reducible rfl))))
          refine wSS ?_
          refine ⟨(i + 1, acc ++ [{ callC ({ o0 with add := BitVec.ofInt 64 (1 + (k : Int) / 16384 % 3) }) (2 * (i : Int)) (2 * (i : Int) + 1 + (k : Int) / 16 % 7) Ans.zero with to := -1 }]), ⟨hlt, by simp [hal], by show (acc ++ [_]) ++ _ = _; rw [List.append_assoc]; exact hF⟩, by show (l.take most).length - (i + 1) < (l.take most).length - i; omega, ?_⟩
          (refine Go2.sub ⟨?_, ?_, ?_⟩ <;> repeat' (first | exact True.intro | rfl | apply And.intro))
        rw [if_neg h7] at hF
        cases hL : large ({ o0 with add := BitVec.ofInt 64 (1 + (k : Int) / 16384 % 3) })
        case true =>
          rw [if_pos hL] at hF
          rw [hL] at cl
          have d4 := acall Try.func27 (cl) (by decide +kernel) (by decide +kernel)
          refine wSS ?_
          (apply Wb; (focus (exact o_bsll zero_Cal rfl rfl rfl rfl rfl rfl rfl rfl)); (focus (first | exact want_n | exact want_g rfl (by with_reducible rfl))))
          (apply Wb; (focus (exact o_app (f := Cal.av) (tk := 5) (xs := acc) (zs := [{ callC ({ o0 with add := BitVec.ofInt 64 (1 + (k : Int) / 16384 % 3) }) (2 * (i : Int)) (2 * (i : Int) + 1 + (k : Int) / 16 % 7) Ans.zero with ans := { Ans.zero with code := 2 } }]) rfl rfl rfl rfl rfl (by exact o_one Cal.av ({ callC ({ o0 with add := BitVec.ofInt 64 (1 + (k : Int) / 16384 % 3) }) (2 * (i : Int)) (2 * (i : Int) + 1 + (k : Int) / 16 % 7) Ans.zero with ans := { Ans.zero with code := 2 } }) rfl) (by simp; omega) (by simp; omega))); (focus (first | exact want_n | exact want_g rfl (by with_reducible rfl))))
          refine wSS ?_
          refine ⟨(i + 1, acc ++ [{ callC ({ o0 with add := BitVec.ofInt 64 (1 + (k : Int) / 16384 % 3) }) (2 * (i : Int)) (2 * (i : Int) + 1 + (k : Int) / 16 % 7) Ans.zero with ans := { Ans.zero with code := 2 } }]), ⟨hlt, by simp [hal], by show (acc ++ [_]) ++ _ = _; rw [List.append_assoc]; exact hF⟩, by show (l.take most).length - (i + 1) < (l.take most).length - i; omega, ?_⟩
          (refine Go2.sub ⟨?_, ?_, ?_⟩ <;> repeat' (first | exact True.intro | rfl | apply And.intro))
        case false =>
        rw [if_neg (by rw [hL]; simp)] at hF
        rw [hL] at cl
        have d4 := acall Try.func27 (cl) (by decide +kernel) (by decide +kernel)
        by_cases h4 : o0.kind = 4
        · exfalso; omega
        · by_cases h8 : (k : Int) / 1024 % 8 = 0
          · rw [if_neg (fun h => h4 h.1), if_pos ⟨h4, h8⟩] at hF
            refine wSS ?_
            (apply Wb; (focus (exact o_bsll zero_Cal rfl rfl rfl rfl rfl rfl rfl rfl)); (focus (first | exact want_n | exact want_g rfl (by with_reducible rfl))))
            (apply Wb; (focus (exact o_app (f := Cal.av) (tk := 5) (xs := acc) (zs := [{ callC ({ o0 with add := BitVec.ofInt 64 (1 + (k : Int) / 16384 % 3) }) (2 * (i : Int)) (2 * (i : Int) + 1 + (k : Int) / 16 % 7) Ans.zero with ans := { Ans.zero with code := 3 } }]) rfl rfl rfl rfl rfl (by exact o_one Cal.av ({ callC ({ o0 with add := BitVec.ofInt 64 (1 + (k : Int) / 16384 % 3) }) (2 * (i : Int)) (2 * (i : Int) + 1 + (k : Int) / 16 % 7) Ans.zero with ans := { Ans.zero with code := 3 } }) rfl) (by simp; omega) (by simp; omega))); (focus (first | exact want_n | exact want_g rfl (by with_reducible rfl))))
            refine wSS ?_
            refine ⟨(i + 1, acc ++ [{ callC ({ o0 with add := BitVec.ofInt 64 (1 + (k : Int) / 16384 % 3) }) (2 * (i : Int)) (2 * (i : Int) + 1 + (k : Int) / 16 % 7) Ans.zero with ans := { Ans.zero with code := 3 } }]), ⟨hlt, by simp [hal], by show (acc ++ [_]) ++ _ = _; rw [List.append_assoc]; exact hF⟩, by show (l.take most).length - (i + 1) < (l.take most).length - i; omega, ?_⟩
            (refine Go2.sub ⟨?_, ?_, ?_⟩ <;> repeat' (first | exact True.intro | rfl | apply And.intro))
          · rw [if_neg (fun h => h4 h.1), if_neg (fun h => h8 h.2)] at hF
            refine wSS ?_
            (apply Wb; (focus (exact o_bsll zero_Cal rfl rfl rfl rfl rfl rfl rfl rfl)); (focus (first | exact want_n | exact want_g rfl (by with_reducible rfl))))
            (apply Wb; (focus (exact o_app (f := Cal.av) (tk := 5) (xs := acc) (zs := [callC ({ o0 with add := BitVec.ofInt 64 (1 + (k : Int) / 16384 % 3) }) (2 * (i : Int)) (2 * (i : Int) + 1 + (k : Int) / 16 % 7) Ans.zero]) rfl rfl rfl rfl rfl (by exact o_one Cal.av (callC ({ o0 with add := BitVec.ofInt 64 (1 + (k : Int) / 16384 % 3) }) (2 * (i : Int)) (2 * (i : Int) + 1 + (k : Int) / 16 % 7) Ans.zero) rfl) (by simp; omega) (by simp; omega))); (focus (first | exact want_n | exact want_g rfl (by with_reducible rfl))))
            refine wSS ?_
            refine ⟨(i + 1, acc ++ [callC ({ o0 with add := BitVec.ofInt 64 (1 + (k : Int) / 16384 % 3) }) (2 * (i : Int)) (2 * (i : Int) + 1 + (k : Int) / 16 % 7) Ans.zero]), ⟨hlt, by simp [hal], by show (acc ++ [_]) ++ _ = _; rw [List.append_assoc]; exact hF⟩, by show (l.take most).length - (i + 1) < (l.take most).length - i; omega, ?_⟩
            (refine Go2.sub ⟨?_, ?_, ?_⟩ <;> repeat' (first | exact True.intro | rfl | apply And.intro))
      · rw [if_neg h3] at hF
        have hkind : (o0).kind = o0.kind := rfl
        have cc := a_call25 (o0) (2 * (i : Int)) (2 * (i : Int) + 1 + (k : Int) / 16 % 7) Ans.zero
        have cl := a_ref23large (o0)
        have d3 := acall Try.func22 (cc) (by decide +kernel) (by decide +kernel)
        by_cases h7 : (k : Int) / 128 % 8 = 7
        · rw [if_pos h7] at hF
          refine wSS ?_
          (apply Wb; (focus (exact o_bsll zero_Cal rfl rfl rfl rfl rfl rfl rfl rfl)); (focus (first | exact want_n | exact want_g rfl (by with_reducible rfl))))
          (apply Wb; (focus (exact o_app (f := Cal.av) (tk := 5) (xs := acc) (zs := [{ callC (o0) (2 * (i : Int)) (2 * (i : Int) + 1 + (k : Int) / 16 % 7) Ans.zero with to := -1 }]) rfl rfl rfl rfl rfl (by exact o_one Cal.av ({ callC (o0) (2 * (i : Int)) (2 * (i : Int) + 1 + (k : Int) / 16 % 7) Ans.zero with to := -1 }) rfl) (by simp; omega) (by simp; omega))); (focus (first | exact want_n | exact want_g rfl (by with_reducible rfl))))
          refine wSS ?_
          refine ⟨(i + 1, acc ++ [{ callC (o0) (2 * (i : Int)) (2 * (i : Int) + 1 + (k : Int) / 16 % 7) Ans.zero with to := -1 }]), ⟨hlt, by simp [hal], by show (acc ++ [_]) ++ _ = _; rw [List.append_assoc]; exact hF⟩, by show (l.take most).length - (i + 1) < (l.take most).length - i; omega, ?_⟩
          (refine Go2.sub ⟨?_, ?_, ?_⟩ <;> repeat' (first | exact True.intro | rfl | apply And.intro))
        rw [if_neg h7] at hF
        cases hL : large (o0)
        case true =>
          rw [if_pos hL] at hF
          rw [hL] at cl
          have d4 := acall Try.func27 (cl) (by decide +kernel) (by decide +kernel)
          refine wSS ?_
          (apply Wb; (focus (exact o_bsll zero_Cal rfl rfl rfl rfl rfl rfl rfl rfl)); (focus (first | exact want_n | exact want_g rfl (by with_reducible rfl))))
          (apply Wb; (focus (exact o_app (f := Cal.av) (tk := 5) (xs := acc) (zs := [{ callC (o0) (2 * (i : Int)) (2 * (i : Int) + 1 + (k : Int) / 16 % 7) Ans.zero with ans := { Ans.zero with code := 2 } }]) rfl rfl rfl rfl rfl (by exact o_one Cal.av ({ callC (o0) (2 * (i : Int)) (2 * (i : Int) + 1 + (k : Int) / 16 % 7) Ans.zero with ans := { Ans.zero with code := 2 } }) rfl) (by simp; omega) (by simp; omega))); (focus (first | exact want_n | exact want_g rfl (by with_reducible rfl))))
          refine wSS ?_
          refine ⟨(i + 1, acc ++ [{ callC (o0) (2 * (i : Int)) (2 * (i : Int) + 1 + (k : Int) / 16 % 7) Ans.zero with ans := { Ans.zero with code := 2 } }]), ⟨hlt, by simp [hal], by show (acc ++ [_]) ++ _ = _; rw [List.append_assoc]; exact hF⟩, by show (l.take most).length - (i + 1) < (l.take most).length - i; omega, ?_⟩
          (refine Go2.sub ⟨?_, ?_, ?_⟩ <;> repeat' (first | exact True.intro | rfl | apply And.intro))
        case false =>
        rw [if_neg (by rw [hL]; simp)] at hF
        rw [hL] at cl
        have d4 := acall Try.func27 (cl) (by decide +kernel) (by decide +kernel)
        by_cases h4 : o0.kind = 4
        · by_cases h2 : (k : Int) / 1024 % 2 = 0
          · rw [if_pos ⟨h4, h2⟩] at hF
            have cv := a_lval ((k : Int) / 2048 % 3) (by omega)
            have d5 := acall Try.func21 (cv) (by decide +kernel) (by decide +kernel)
            refine wSS ?_
            (apply Wb; (focus (exact o_bsll zero_Cal rfl rfl rfl rfl rfl rfl rfl rfl)); (focus (first | exact want_n | exact want_g rfl (by with_reducible rfl))))
            (apply Wb; (focus (exact o_app (f := Cal.av) (tk := 5) (xs := acc) (zs := [{ callC (o0) (2 * (i : Int)) (2 * (i : Int) + 1 + (k : Int) / 16 % 7) Ans.zero with ans := { Ans.zero with found := true, val := lawVl ((k : Int) / 2048 % 3) } }]) rfl rfl rfl rfl rfl (by exact o_one Cal.av ({ callC (o0) (2 * (i : Int)) (2 * (i : Int) + 1 + (k : Int) / 16 % 7) Ans.zero with ans := { Ans.zero with found := true, val := lawVl ((k : Int) / 2048 % 3) } }) rfl) (by simp; omega) (by simp; omega))); (focus (first | exact want_n | exact want_g rfl (by with_reducible rfl))))
            refine wSS ?_
            refine ⟨(i + 1, acc ++ [{ callC (o0) (2 * (i : Int)) (2 * (i : Int) + 1 + (k : Int) / 16 % 7) Ans.zero with ans := { Ans.zero with found := true, val := lawVl ((k : Int) / 2048 % 3) } }]), ⟨hlt, by simp [hal], by show (acc ++ [_]) ++ _ = _; rw [List.append_assoc]; exact hF⟩, by show (l.take most).length - (i + 1) < (l.take most).length - i; omega, ?_⟩
            (refine Go2.sub ⟨?_, ?_, ?_⟩ <;> repeat' (first | exact True.intro | rfl | apply And.intro))
          · rw [if_neg (fun h => h2 h.2), if_neg (fun h => h.1 h4)] at hF
            refine wSS ?_
            (apply Wb; (focus (exact o_bsll zero_Cal rfl rfl rfl rfl rfl rfl rfl rfl)); (focus (first | exact want_n | exact want_g rfl (by with_reducible rfl))))
            (apply Wb; (focus (exact o_app (f := Cal.av) (tk := 5) (xs := acc) (zs := [callC (o0) (2 * (i : Int)) (2 * (i : Int) + 1 + (k : Int) / 16 % 7) Ans.zero]) rfl rfl rfl rfl rfl (by exact o_one Cal.av (callC (o0) (2 * (i : Int)) (2 * (i : Int) + 1 + (k : Int) / 16 % 7) Ans.zero) rfl) (by simp; omega) (by simp; omega))); (focus (first | exact want_n | exact want_g rfl (by with_reducible rfl))))
            refine wSS ?_
            refine ⟨(i + 1, acc ++ [callC (o0) (2 * (i : Int)) (2 * (i : Int) + 1 + (k : Int) / 16 % 7) Ans.zero]), ⟨hlt, by simp [hal], by show (acc ++ [_]) ++ _ = _; rw [List.append_assoc]; exact hF⟩, by show (l.take most).length - (i + 1) < (l.take most).length - i; omega, ?_⟩
            (refine Go2.sub ⟨?_, ?_, ?_⟩ <;> repeat' (first | exact True.intro | rfl | apply And.intro))
        · by_cases h8 : (k : Int) / 1024 % 8 = 0
          · rw [if_neg (fun h => h4 h.1), if_pos ⟨h4, h8⟩] at hF
            refine wSS ?_
            (apply Wb; (focus (exact o_bsll zero_Cal rfl rfl rfl rfl rfl rfl rfl rfl)); (focus (first | exact want_n | exact want_g rfl (by with_reducible rfl))))
            (apply Wb; (focus (exact o_app (f := Cal.av) (tk := 5) (xs := acc) (zs := [{ callC (o0) (2 * (i : Int)) (2 * (i : Int) + 1 + (k : Int) / 16 % 7) Ans.zero with ans := { Ans.zero with code := 3 } }]) rfl rfl rfl rfl rfl (by exact o_one Cal.av ({ callC (o0) (2 * (i : Int)) (2 * (i : Int) + 1 + (k : Int) / 16 % 7) Ans.zero with ans := { Ans.zero with code := 3 } }) rfl) (by simp; omega) (by simp; omega))); (focus (first | exact want_n | exact want_g rfl (by with_reducible rfl))))
            refine wSS ?_
            refine ⟨(i + 1, acc ++ [{ callC (o0) (2 * (i : Int)) (2 * (i : Int) + 1 + (k : Int) / 16 % 7) Ans.zero with ans := { Ans.zero with code := 3 } }]), ⟨hlt, by simp [hal], by show (acc ++ [_]) ++ _ = _; rw [List.append_assoc]; exact hF⟩, by show (l.take most).length - (i + 1) < (l.take most).length - i; omega, ?_⟩
            (refine Go2.sub ⟨?_, ?_, ?_⟩ <;> repeat' (first | exact True.intro | rfl | apply And.intro))
          · rw [if_neg (fun h => h4 h.1), if_neg (fun h => h8 h.2)] at hF
            refine wSS ?_
            (apply Wb; (focus (exact o_bsll zero_Cal rfl rfl rfl rfl rfl rfl rfl rfl)); (focus (first | exact want_n | exact want_g rfl (by with_reducible rfl))))
            (apply Wb; (focus (exact o_app (f := Cal.av) (tk := 5) (xs := acc) (zs := [callC (o0) (2 * (i : Int)) (2 * (i : Int) + 1 + (k : Int) / 16 % 7) Ans.zero]) rfl rfl rfl rfl rfl (by exact o_one Cal.av (callC (o0) (2 * (i : Int)) (2 * (i : Int) + 1 + (k : Int) / 16 % 7) Ans.zero) rfl) (by simp; omega) (by simp; omega))); (focus (first | exact want_n | exact want_g rfl (by with_reducible rfl))))
            refine wSS ?_
            refine ⟨(i + 1, acc ++ [callC (o0) (2 * (i : Int)) (2 * (i : Int) + 1 + (k : Int) / 16 % 7) Ans.zero]), ⟨hlt, by simp [hal], by show (acc ++ [_]) ++ _ = _; rw [List.append_assoc]; exact hF⟩, by show (l.take most).length - (i + 1) < (l.take most).length - i; omega, ?_⟩
            (refine Go2.sub ⟨?_, ?_, ?_⟩ <;> repeat' (first | exact True.intro | rfl | apply And.intro))
--END
    · have c2i : ¬ (i : Int) < (most : Nat) := by omega
      rw [← end_ (by omega)]
      refine wSS ?_
      exact fin ⟨res_sl rfl, trivial⟩
  · rw [← end_ (by omega)]
    refine wSS ?_
    exact fin ⟨res_sl rfl, trivial⟩
end Go.Proofs.Ytphojngdgmnpaaa

namespace Go.Proofs.Ytphojngdgmnpaaa
open Go Go.RowKit
set_option linter.unusedVariables false
set_option linter.unusedSimpArgs false
set_option maxRecDepth 100000
section
variable {E : Env} {nt : Nat} {ops : Array Oper} {T : Nat → Option AV} {H : Hp} {d : Option Nat} {ty : TypeId} {pos : String} {af : Array Edge} {gd : Option (Nat × Bool)}
theorem oi_len {x : Operand} {t e e' : TypeId} {es bytes : Nat} {ea : Bool} {g n len : Nat} {f : Int → AV} {xs : List (Int)} (hs : tabT.ti t = some (.sl e es bytes ea)) (hd : dOk nt d = true) (hx : evalO T x = some (.own g n len .row)) (hg : H g = some (.own e' n (xs.map f))) (hl : len = xs.length) :
    OpOK Try.prog E nt ops ⟨d, .call { callee := .builtin .len, args := #[x], argTypes := #[t] }, ty, pos, af, gd⟩ T H [g] ⟨.v (.int .i64 (len : Nat)), []⟩ := ok_len_own hs hd hx hg (by simpa using hl)
theorem oi_idx {x ix : Operand} {t e : TypeId} {es bytes : Nat} {ea : Bool} {g len : Nat} {f : Int → AV} {xs : List (Int)} {k : IntKind} {n : Int} {i : Nat} (hd : dOk nt d = true) (hs : tabT.ti t = some (.sl e es bytes ea)) (hx : evalO T x = some (.own g es len .row)) (hg : H g = some (.own e es (xs.map f))) (hi : evalO T ix = some (.v (.int k n))) (hn : natOf n = some i)
    (hl : len = xs.length) (hlt : i < len) : OpOK Try.prog E nt ops ⟨d, .indexAddr t x ix, ty, pos, af, gd⟩ T H [g] ⟨.own g es len (.at (i * es) [i]), []⟩ := by
  subst hl
  exact oo_idx hd hs hx hg hi hn hlt
theorem oi_ld {x : Operand} {t e : TypeId} {g len i : Nat} {f : Int → AV} {xs : List (Int)} (hd : dOk nt d = true) (hx : evalO T x = some (.own g 1 len (.at (i * 1) [i]))) (hg : H g = some (.own e 1 (xs.map f))) (hl : len = xs.length) (hlt : i < xs.length) (hs : tabT.sa t = some (isAggA (f xs[i]), 1)) (h1 : sizeA (f xs[i]) = 1) :
    OpOK Try.prog E nt ops ⟨d, .load t x, ty, pos, af, gd⟩ T H [g] ⟨f xs[i], []⟩ := by
  subst hl
  exact oo_load hd hx hg (by omega) (by simp [subA, hlt]) (by simp [offA]) (by rw [h1]; exact hs)
theorem oi_st {x y : Operand} {t e : TypeId} {g len i : Nat} {b : Int} {f : Int → AV} {xs : List (Int)} (hx : evalO T x = some (.own g 1 len (.at (i * 1) [i]))) (hy : evalO T y = some (f b)) (hg : H g = some (.own e 1 (xs.map f))) (hl : len = xs.length) (hlt : i < xs.length) (hs : tabT.sa t = some (isAggA (f b), 1)) (h1 : ∀ a, sizeA (f a) = 1) (hdt : dataA (f b) = true) (hnt : notTup (f b) = true) :
    OpOK Try.prog E nt ops ⟨none, .store t x y, ty, pos, af, gd⟩ T H [g] ⟨.tup [], [(g, .own e 1 ((xs.set i b).map f))]⟩ := by
  subst hl
  exact oo_store hx hy hg (by omega) (old := f xs[i]) (by simp [subA, hlt]) (by simp [offA]) (by simp [setA, hlt, hdt, List.map_set]) (by rw [h1]; exact hs) (by rw [h1, h1]) hnt
end
theorem wOI {Q R : Prop} (k : R) (h : Hid R → Q := by intro kHid; (repeat (first | (first | refine Wend _ ?_ | refine AW_seq ?_ | refine AW_reg ?_ | refine AW_drw mixed ?_ | refine AW_block ?_ | refine AW_scope ?_ | refine thenA_n ?_ | refine blockA_n ?_ | refine blockA_h ?_ | refine scopeA_n ?_ | refine thenA_r ?_ | refine blockA_r ?_ | refine scopeA_r ?_ | refine thenA_e ?_ | refine scopeA_e ?_ | refine blockA_e rfl ?_ | refine AW_exit ?_ | refine AW_ret ?_ | refine AW_skip ?_ | refine AW_c rfl ?_ | with_reducible refine cb_t ?_ | with_reducible refine cb_f ?_ | with_reducible refine cb_yes (by first | assumption | omega) ?_ | with_reducible refine cb_no (by first | assumption | omega) ?_ | refine And.intro (by decide +kernel) ?_) | (first | (apply Wb; (focus (first | exact o_bsl0O rfl rfl rfl | exact oo_app0 rfl rfl rfl rfl rfl (by first | exact o_many rfl | exact o_one _ _ rfl | exact o_zero rfl) (by first | omega | (simp; omega) | (simp; done)) (by first | omega | (simp; omega) | (simp; done)))); (focus (first | exact want_n | exact want_g rfl (by with_reducible rfl)))) | (apply Wv; (focus (first | exact oi_len rfl rfl rfl rfl (by first | rfl | assumption | omega | (simp; done) | (simp; omega)) | exact oi_idx rfl rfl rfl rfl rfl rfl (by first | rfl | assumption | omega | (simp; done) | (simp; omega)) (by first | rfl | assumption | omega | (simp; done) | (simp; omega)) | exact oi_ld rfl rfl rfl (by first | rfl | assumption | omega | (simp; done) | (simp; omega)) (by first | rfl | assumption | omega | (simp; done) | (simp; omega)) rfl rfl)); (focus (first | exact want_n | exact want_g rfl (by with_reducible rfl)))) | (apply Ws; (focus (exact oi_st (f := intA) rfl rfl rfl (by first | rfl | assumption | omega | (simp; done) | (simp; omega)) (by first | rfl | assumption | omega | (simp; done) | (simp; omega)) rfl (fun _ => rfl) rfl rfl)); (focus (first | exact want_n | exact want_g rfl (by with_reducible rfl)))) | (first | (apply Wv; (focus (first | exact step_ok rfl rfl | exact o_idx rfl rfl rfl rfl (by first | assumption | omega | decide) | exact o_idx3 rfl rfl rfl rfl (by first | assumption | omega | decide) | exact o_idx2 rfl rfl rfl rfl rfl (by first | assumption | omega | decide) | exact o_idxr rfl rfl rfl rfl rfl rfl | exact o_lenm rfl rfl rfl | exact o_len rfl rfl rfl | exact o_len0 rfl rfl rfl | exact o_lens rfl rfl rfl | exact o_lent rfl rfl | exact o_add1 rfl rfl rfl (by omega) | exact o_addn rfl rfl rfl (by omega) | exact o_add rfl rfl rfl (by omega) | exact o_sub1 rfl rfl rfl (by omega) | exact o_sub rfl rfl rfl (by omega) | exact o_mul rfl rfl rfl (by omega) | exact o_rem rfl rfl rfl (by omega) | exact ok_rem rfl rfl rfl (by decide) rfl | exact o_eqKey rfl rfl rfl | exact o_neKey rfl rfl rfl | exact o_eqVl rfl rfl rfl | exact o_neVl rfl rfl rfl | exact o_eqEnt rfl rfl rfl | exact o_neEnt rfl rfl rfl | exact o_eqMsg rfl rfl rfl | exact o_neMsg rfl rfl rfl | exact o_acall rfl rfl rfl rfl (by assumption) | exact o_minn rfl rfl rfl | exact o_cutl rfl rfl rfl rfl (by omega) | exact o_cuth rfl rfl rfl rfl (by omega) | exact o_cutl3 rfl rfl rfl rfl (by omega) | exact o_cuth3 rfl rfl rfl rfl (by omega) | exact o_cutl2 rfl rfl rfl rfl rfl (by omega) | exact o_cuth2 rfl rfl rfl rfl rfl (by omega) | exact o_cutlh2 rfl rfl rfl rfl rfl rfl rfl (by omega) (by omega) | exact o_bld zero_Opn rfl rfl rfl rfl rfl rfl rfl | exact o_bld zero_Cal rfl rfl rfl rfl rfl rfl rfl | exact o_bld zero_state rfl rfl rfl rfl rfl rfl rfl | exact o_bld zero_search rfl rfl rfl rfl rfl rfl rfl | exact o_nilcr rfl rfl | exact o_nilcp rfl rfl | exact o_eqbar rfl rfl rfl (by simp) (by simp) | exact o_ldbar rfl rfl (by simp) rfl (by first | omega | (simp; omega)) rfl | exact o_idxpn rfl rfl rfl rfl (by omega) | exact o_idxvn rfl rfl rfl rfl (by omega) (by assumption) rfl | exact o_idxrn rfl rfl rfl rfl (by omega) (by assumption) | exact o_cutarr rfl rfl rfl rfl | exact o_mkfn rfl rfl rfl | exact o_callv rfl rfl rfl rfl rfl rfl (by assumption) | exact o_bld zero_Ans rfl rfl rfl rfl rfl rfl rfl | exact o_eqAns rfl rfl rfl | exact o_neAns rfl rfl rfl | exact e_bld rfl rfl rfl | exact e_bldk rfl rfl | exact z_bld0 rfl rfl rfl rfl rfl | exact z_bld rfl rfl rfl rfl rfl rfl rfl | exact o_addu rfl rfl rfl | exact z_blda rfl rfl rfl rfl rfl rfl rfl rfl rfl | exact o_idxa rfl rfl rfl rfl rfl rfl | exact o_idxra rfl rfl rfl rfl rfl rfl rfl | exact o_quo2 rfl rfl rfl (by omega) | exact o_quo rfl rfl rfl (by omega))); (focus (first | exact want_n | exact want_g rfl (by with_reducible rfl)))) | (apply Wb; (focus (first | exact o_box rfl rfl rfl rfl | exact o_app rfl rfl rfl rfl rfl (by first | exact o_many rfl | exact o_one _ _ rfl) (by first | omega | (simp; omega) | simp) (by first | omega | (simp; omega) | simp) | exact o_appn rfl rfl rfl rfl rfl (by first | exact o_many rfl | exact o_one _ _ rfl) (by first | omega | (simp; omega) | simp) (by first | omega | (simp; omega) | simp) | exact o_app1 rfl rfl rfl rfl rfl (by first | exact o_many rfl | exact o_one _ _ rfl) (by exact rfl) (by first | omega | (simp; omega) | simp) (by first | omega | (simp; omega) | simp) | exact o_app0 rfl rfl rfl rfl rfl (by first | exact o_many rfl | exact o_one _ _ rfl) (by first | omega | (simp; omega) | simp) (by first | omega | (simp; omega) | simp) | exact o_bsl0 rfl rfl rfl | exact z_bsll rfl rfl rfl rfl rfl rfl rfl rfl rfl | exact z_alloc rfl rfl rfl | exact o_alloc zero_Opn rfl rfl | exact o_alloc zero_Cal rfl rfl | exact o_alloc zero_state rfl rfl | exact o_alloc zero_b14 rfl rfl | exact o_cpents rfl rfl rfl rfl rfl rfl (by omega) | exact o_alloc zero_Ans rfl rfl | exact o_bsll zero_Ans rfl rfl rfl rfl rfl rfl rfl rfl | exact o_bsll zero_Opn rfl rfl rfl rfl rfl rfl rfl rfl)); (focus (first | exact want_n | exact want_g rfl (by with_reducible rfl)))) | (apply Ws; (focus (first | exact o_stin rfl (by simp) rfl rfl (by first | omega | (simp; omega)) rfl | exact o_stbar rfl (by simp) rfl rfl (by first | omega | (simp; omega)) rfl | exact ok_store tabT (d := none) rfl rfl rfl rfl rfl rfl rfl rfl rfl rfl)); (focus (first | exact want_n | exact want_g rfl (by with_reducible rfl)))) | (refine Wskip (by first | exact want_f rfl (by with_reducible exact b_nt) | exact want_f rfl (by with_reducible exact b_nf) | exact want_t rfl) rfl ?_) | refine Wgt rfl rfl (by first | assumption | omega | exact rfl) ?_ | refine Wgf rfl rfl (by first | assumption | omega | exact rfl) ?_ | (refine Wgb rfl rfl (by with_reducible assumption) ?_) | (refine cb_is _ (by assumption) ?_))))); exact kHid.out) : Q := h ⟨k⟩
/-- the numbers ahead of a place, but each fifth, within 0 to 6 -/
def mx (j : Nat) (l : List Int) : List Int := (List.range l.length).map fun i => if i < j ∧ 0 < i % 5 then l.getD i 0 % 7 else l.getD i 0
@[simp] theorem mx_len (j : Nat) (l : List Int) : (mx j l).length = l.length := by simp [mx]
theorem mx_at {j i : Nat} {l : List Int} (h : i < l.length) : (mx j l)[i]'(by rw [mx_len]; exact h) = if i < j ∧ 0 < i % 5 then l[i] % 7 else l[i] := by
  unfold mx
  simp only [List.getElem_map, List.getElem_range]
  rw [List.getD_eq_getElem?_getD, List.getElem?_eq_getElem h]; rfl
theorem mx_zero (l : List Int) : mx 0 l = l := by
  apply List.ext_getElem (by simp)
  intro i h1 h2
  rw [mx_at h2, if_neg (by omega)]
theorem mx_same {j : Nat} {l : List Int} (h : j % 5 = 0) : mx (j + 1) l = mx j l := by
  apply List.ext_getElem (by simp)
  intro i h1 h2
  rw [mx_len] at h1
  rw [mx_at h1, mx_at h1]
  by_cases c : i < j
  · by_cases e : 0 < i % 5
    · rw [if_pos ⟨by omega, e⟩, if_pos ⟨c, e⟩]
    · rw [if_neg (fun h => e h.2), if_neg (fun h => e h.2)]
  · rw [if_neg (show ¬ (i < j ∧ 0 < i % 5) from fun h => c h.1)]
    by_cases e : i = j
    · subst e; rw [if_neg (by omega)]
    · rw [if_neg (by omega)]
theorem mx_set {j : Nat} {l : List Int} (hj : j < l.length) (h : 0 < j % 5) : (mx j l).set j (l[j] % 7) = mx (j + 1) l := by
  apply List.ext_getElem (by simp)
  intro i h1 h2
  rw [mx_len] at h2
  rw [List.getElem_set, mx_at h2, mx_at h2]
  by_cases c : j = i
  · subst c; rw [if_pos rfl, if_pos ⟨by omega, h⟩]
  · rw [if_neg c]
    by_cases e : i < j ∧ 0 < i % 5
    · rw [if_pos e, if_pos ⟨by omega, e.2⟩]
    · rw [if_neg e, if_neg (by omega)]
attribute [local irreducible] OpOK AWops AW CondB Go2 AFn thenA inBlockA noGotoA orderOk wantedA
set_option maxRecDepth 100000 in
set_option maxHeartbeats 8000000 in
theorem a_lall (l : List Int) (hv : ∀ v ∈ l, -9223372036854775808 ≤ v ∧ v ≤ 9223372036854775807) (hl : l.length ≤ 17592186043904) (ord : List Int) (ho : ∀ v ∈ ord, -9223372036854775808 ≤ v ∧ v ≤ 9223372036854775807) :
    AFn Try.prog 3 [intsA l, intsA ord] (boolA true) := by
  have cc := a_calls l hv (by omega) 7 (by omega)
  have hlen := callsC_len l 7
  generalize callsC l 7 = c at cc hlen
  have hl7 : c.length ≤ 7 := by rw [hlen]; exact Nat.min_le_left _ _
  by_cases h20 : 20 < ord.length
  · refine AFn_intro Try.func3 rfl Try.ntmps3 rfl (by simp) [_] rfl fun E hE => ?_
    have hnt : (!true) = false := rfl
    have hnf : (!false) = true := rfl
    have d1 := acall Try.func11 (cc) (by decide +kernel) (by decide +kernel)
    have d6 := acall Try.func12 (a_awake25) (by decide +kernel) (by decide +kernel)
    refine wSS ?_
    exact fin ⟨res_of rfl rfl rfl, trivial⟩
  have f1 := a_find c
  have f2 := a_reffind c
  have f3 := a_least c
  have hq : (ordO [] (findC c)).length ≤ 14 := by
    cases h : findC c with
    | none => exact Nat.zero_le _
    | some q => exact found_len h
  generalize ordO [] (findC c) = q at f1 f2 f3 hq
  generalize (findC c).isSome = b at f1 f2 f3
  have f4 := a_lsame q q (by omega) (by omega)
  rw [decide_eq_true rfl] at f4
  have f5 := a_legal c ord (by omega) (by omega)
  have f6 := a_reflegal c ord (by omega) (by omega)
  generalize legC c ord = b1 at f5 f6
  have f7 := a_legal c (mx ord.length ord) (by omega) (by rw [mx_len]; omega)
  have f8 := a_reflegal c (mx ord.length ord) (by omega) (by rw [mx_len]; omega)
  generalize legC c (mx ord.length ord) = b2 at f7 f8
  have g1 : ¬ (b ≠ b) := fun h => h rfl
  have g2 : b1 = b1 := rfl
  have g3 : b2 = b2 := rfl
  have h20i : ¬ (20 : Int) < (ord.length : Nat) := by omega
  have g0 : ¬ ((q.length : Nat) : Int) ≠ (q.length : Nat) := by omega
  refine AFn_intro Try.func3 rfl Try.ntmps3 rfl (by simp) [_] rfl fun E hE => ?_
  have hnt : (!true) = false := rfl
  have hnf : (!false) = true := rfl
  have d1 := acall Try.func11 (cc) (by decide +kernel) (by decide +kernel)
  have d2 := acall Try.func13 (f1) (by decide +kernel) (by decide +kernel)
  have d3 := acall Try.func14 (f2) (by decide +kernel) (by decide +kernel)
  have d4 := acall Try.func15 (f3) (by decide +kernel) (by decide +kernel)
  have d5 := acall Try.func16 (f4) (by decide +kernel) (by decide +kernel)
  have d7 := acall Try.func18 (f5) (by decide +kernel) (by decide +kernel)
  have d8 := acall Try.func19 (f6) (by decide +kernel) (by decide +kernel)
  have d9 := acall Try.func18 (f7) (by decide +kernel) (by decide +kernel)
  have d10 := acall Try.func19 (f8) (by decide +kernel) (by decide +kernel)
  have d6 := acall Try.func12 (a_awake25) (by decide +kernel) (by decide +kernel)
  refine wOI ?_
  refine AW_loopI (fun j : Nat => ⟨[(1, intsA ord), (5, calsA c), (12, .own 55 1 ord.length .row), (13, intA (j : Nat))], [(55, .own 3 1 ((mx j ord).map intA))]⟩) (fun j => j ≤ ord.length) (fun j => ord.length - j) 0 (Nat.zero_le _) (by simp only [mx_zero]; (refine Go2.sub ⟨?_, ?_, ?_⟩ <;> repeat' (first | exact True.intro | rfl | apply And.intro))) (fun j hj => ?_)
  have hml : ord.length = (mx j ord).length := (mx_len j ord).symm
  by_cases c1 : j < ord.length
  · have c1m : j < (mx j ord).length := by rw [mx_len]; exact c1
    by_cases h5 : 0 < j % 5
    · have h5i : (0 : Int) < (j : Int) % 5 := by omega
      have hat : (mx j ord)[j] = ord[j] := by rw [mx_at c1, if_neg (by omega)]
      have cp := a_lplace ord[j] 7 (by omega) (by omega) (ho _ (List.getElem_mem c1))
      rw [← hat] at cp
      have hset := mx_set c1 h5
      rw [← hat] at hset
      have d11 := acall Try.func17 (cp) (by decide +kernel) (by decide +kernel)
      refine wOI ?_
      refine ⟨j + 1, c1, by omega, ?_⟩
      rw [← hset]
      (refine Go2.sub ⟨?_, ?_, ?_⟩ <;> repeat' (first | exact True.intro | rfl | apply And.intro))
    · have h5i : ¬ (0 : Int) < (j : Int) % 5 := by omega
      have hsm := mx_same (l := ord) (show j % 5 = 0 by omega)
      refine wOI ?_
      refine ⟨j + 1, c1, by omega, ?_⟩
      rw [hsm]
      (refine Go2.sub ⟨?_, ?_, ?_⟩ <;> repeat' (first | exact True.intro | rfl | apply And.intro))
  · obtain rfl : j = ord.length := by omega
    repeat (first | (refine AW_go (S' := ⟨[(61, .v (.bool (decide ((ord.length : Int) < (ord.length : Int))))), (1, intsA ord), (5, calsA c), (12, .own 55 1 ord.length .row)], [(55, .own 3 1 ((mx ord.length ord).map intA))]⟩) ?_ ?_; (focus ((refine Go2.sub ⟨?_, ?_, ?_⟩ <;> repeat' (first | exact True.intro | rfl | apply And.intro)); done)); rw [show (AV.own 55 1 ord.length .row) = AV.own 55 1 ((mx ord.length ord).map intA).length .row by rw [List.length_map, mx_len]]; refine AW_go (Go2.thaw (S' := ⟨[(61, .v (.bool (decide ((ord.length : Int) < (ord.length : Int))))), (1, intsA ord), (5, calsA c), (12, .sl (some 55) 1 ((mx ord.length ord).map intA))], [(55, .tail 3 1 ((mx ord.length ord).map intA).length)]⟩) 55 rfl (by repeat' (first | exact True.intro | rfl | apply And.intro | (simp; done))) (by repeat' (first | exact True.intro | rfl | apply And.intro | (simp; done))) rfl) ?_) | (first | (first | refine Wend _ ?_ | refine AW_seq ?_ | refine AW_reg ?_ | refine AW_drw mixed ?_ | refine AW_block ?_ | refine AW_scope ?_ | refine thenA_n ?_ | refine blockA_n ?_ | refine blockA_h ?_ | refine scopeA_n ?_ | refine thenA_r ?_ | refine blockA_r ?_ | refine scopeA_r ?_ | refine thenA_e ?_ | refine scopeA_e ?_ | refine blockA_e rfl ?_ | refine AW_exit ?_ | refine AW_ret ?_ | refine AW_skip ?_ | refine AW_c rfl ?_ | with_reducible refine cb_t ?_ | with_reducible refine cb_f ?_ | with_reducible refine cb_yes (by first | assumption | omega) ?_ | with_reducible refine cb_no (by first | assumption | omega) ?_ | refine And.intro (by decide +kernel) ?_) | (first | (apply Wb; (focus (first | exact o_bsl0O rfl rfl rfl | exact oo_app0 rfl rfl rfl rfl rfl (by first | exact o_many rfl | exact o_one _ _ rfl | exact o_zero rfl) (by first | omega | (simp; omega) | (simp; done)) (by first | omega | (simp; omega) | (simp; done)))); (focus (first | exact want_n | exact want_g rfl (by with_reducible rfl)))) | (apply Wv; (focus (first | exact oi_len rfl rfl rfl rfl (by first | rfl | assumption | omega | (simp; done) | (simp; omega)) | exact oi_idx rfl rfl rfl rfl rfl rfl (by first | rfl | assumption | omega | (simp; done) | (simp; omega)) (by first | rfl | assumption | omega | (simp; done) | (simp; omega)) | exact oi_ld rfl rfl rfl (by first | rfl | assumption | omega | (simp; done) | (simp; omega)) (by first | rfl | assumption | omega | (simp; done) | (simp; omega)) rfl rfl)); (focus (first | exact want_n | exact want_g rfl (by with_reducible rfl)))) | (apply Ws; (focus (exact oi_st (f := intA) rfl rfl rfl (by first | rfl | assumption | omega | (simp; done) | (simp; omega)) (by first | rfl | assumption | omega | (simp; done) | (simp; omega)) rfl (fun _ => rfl) rfl rfl)); (focus (first | exact want_n | exact want_g rfl (by with_reducible rfl)))) | (first | (apply Wv; (focus (first | exact step_ok rfl rfl | exact o_idx rfl rfl rfl rfl (by first | assumption | omega | decide) | exact o_idx3 rfl rfl rfl rfl (by first | assumption | omega | decide) | exact o_idx2 rfl rfl rfl rfl rfl (by first | assumption | omega | decide) | exact o_idxr rfl rfl rfl rfl rfl rfl | exact o_lenm rfl rfl rfl | exact o_len rfl rfl rfl | exact o_len0 rfl rfl rfl | exact o_lens rfl rfl rfl | exact o_lent rfl rfl | exact o_add1 rfl rfl rfl (by omega) | exact o_addn rfl rfl rfl (by omega) | exact o_add rfl rfl rfl (by omega) | exact o_sub1 rfl rfl rfl (by omega) | exact o_sub rfl rfl rfl (by omega) | exact o_mul rfl rfl rfl (by omega) | exact o_rem rfl rfl rfl (by omega) | exact ok_rem rfl rfl rfl (by decide) rfl | exact o_eqKey rfl rfl rfl | exact o_neKey rfl rfl rfl | exact o_eqVl rfl rfl rfl | exact o_neVl rfl rfl rfl | exact o_eqEnt rfl rfl rfl | exact o_neEnt rfl rfl rfl | exact o_eqMsg rfl rfl rfl | exact o_neMsg rfl rfl rfl | exact o_acall rfl rfl rfl rfl (by assumption) | exact o_minn rfl rfl rfl | exact o_cutl rfl rfl rfl rfl (by omega) | exact o_cuth rfl rfl rfl rfl (by omega) | exact o_cutl3 rfl rfl rfl rfl (by omega) | exact o_cuth3 rfl rfl rfl rfl (by omega) | exact o_cutl2 rfl rfl rfl rfl rfl (by omega) | exact o_cuth2 rfl rfl rfl rfl rfl (by omega) | exact o_cutlh2 rfl rfl rfl rfl rfl rfl rfl (by omega) (by omega) | exact o_bld zero_Opn rfl rfl rfl rfl rfl rfl rfl | exact o_bld zero_Cal rfl rfl rfl rfl rfl rfl rfl | exact o_bld zero_state rfl rfl rfl rfl rfl rfl rfl | exact o_bld zero_search rfl rfl rfl rfl rfl rfl rfl | exact o_nilcr rfl rfl | exact o_nilcp rfl rfl | exact o_eqbar rfl rfl rfl (by simp) (by simp) | exact o_ldbar rfl rfl (by simp) rfl (by first | omega | (simp; omega)) rfl | exact o_idxpn rfl rfl rfl rfl (by omega) | exact o_idxvn rfl rfl rfl rfl (by omega) (by assumption) rfl | exact o_idxrn rfl rfl rfl rfl (by omega) (by assumption) | exact o_cutarr rfl rfl rfl rfl | exact o_mkfn rfl rfl rfl | exact o_callv rfl rfl rfl rfl rfl rfl (by assumption) | exact o_bld zero_Ans rfl rfl rfl rfl rfl rfl rfl | exact o_eqAns rfl rfl rfl | exact o_neAns rfl rfl rfl | exact e_bld rfl rfl rfl | exact e_bldk rfl rfl | exact z_bld0 rfl rfl rfl rfl rfl | exact z_bld rfl rfl rfl rfl rfl rfl rfl | exact o_addu rfl rfl rfl | exact z_blda rfl rfl rfl rfl rfl rfl rfl rfl rfl | exact o_idxa rfl rfl rfl rfl rfl rfl | exact o_idxra rfl rfl rfl rfl rfl rfl rfl | exact o_quo2 rfl rfl rfl (by omega) | exact o_quo rfl rfl rfl (by omega))); (focus (first | exact want_n | exact want_g rfl (by with_reducible rfl)))) | (apply Wb; (focus (first | exact o_box rfl rfl rfl rfl | exact o_app rfl rfl rfl rfl rfl (by first | exact o_many rfl | exact o_one _ _ rfl) (by first | omega | (simp; omega) | simp) (by first | omega | (simp; omega) | simp) | exact o_appn rfl rfl rfl rfl rfl (by first | exact o_many rfl | exact o_one _ _ rfl) (by first | omega | (simp; omega) | simp) (by first | omega | (simp; omega) | simp) | exact o_app1 rfl rfl rfl rfl rfl (by first | exact o_many rfl | exact o_one _ _ rfl) (by exact rfl) (by first | omega | (simp; omega) | simp) (by first | omega | (simp; omega) | simp) | exact o_app0 rfl rfl rfl rfl rfl (by first | exact o_many rfl | exact o_one _ _ rfl) (by first | omega | (simp; omega) | simp) (by first | omega | (simp; omega) | simp) | exact o_bsl0 rfl rfl rfl | exact z_bsll rfl rfl rfl rfl rfl rfl rfl rfl rfl | exact z_alloc rfl rfl rfl | exact o_alloc zero_Opn rfl rfl | exact o_alloc zero_Cal rfl rfl | exact o_alloc zero_state rfl rfl | exact o_alloc zero_b14 rfl rfl | exact o_cpents rfl rfl rfl rfl rfl rfl (by omega) | exact o_alloc zero_Ans rfl rfl | exact o_bsll zero_Ans rfl rfl rfl rfl rfl rfl rfl rfl | exact o_bsll zero_Opn rfl rfl rfl rfl rfl rfl rfl rfl)); (focus (first | exact want_n | exact want_g rfl (by with_reducible rfl)))) | (apply Ws; (focus (first | exact o_stin rfl (by simp) rfl rfl (by first | omega | (simp; omega)) rfl | exact o_stbar rfl (by simp) rfl rfl (by first | omega | (simp; omega)) rfl | exact ok_store tabT (d := none) rfl rfl rfl rfl rfl rfl rfl rfl rfl rfl)); (focus (first | exact want_n | exact want_g rfl (by with_reducible rfl)))) | (refine Wskip (by first | exact want_f rfl (by with_reducible exact b_nt) | exact want_f rfl (by with_reducible exact b_nf) | exact want_t rfl) rfl ?_) | refine Wgt rfl rfl (by first | assumption | omega | exact rfl) ?_ | refine Wgf rfl rfl (by first | assumption | omega | exact rfl) ?_ | (refine Wgb rfl rfl (by with_reducible assumption) ?_) | (refine cb_is _ (by assumption) ?_)))))
    exact fin ⟨res_of rfl rfl rfl, trivial⟩
theorem lineAll_walk (v0 : Value) (l0 : List (Int)) (v1 : Value) (l1 : List (Int)) (w : World) (s0 : Sl ie 1 w v0 l0) (g0 : ∀ n ∈ l0, -9223372036854775808 ≤ n ∧ n ≤ 9223372036854775807) (z0 : l0.length ≤ 17592186043904) (s1 : Sl ie 1 w v1 l1) (g1 : ∀ n ∈ l1, -9223372036854775808 ≤ n ∧ n ≤ 9223372036854775807) (z1 : l1.length ≤ 17592186043904) :
    Calls Try.prog 3 #[v0, v1] w (Is w (.bool true)) :=
  law_of (a_lall l0 g0 z0 l1 g1) (rdp_cons rfl (ints_in s0) (rdp_cons rfl (ints_in s1) rdp_nil'))
end Go.Proofs.Ytphojngdgmnpaaa

namespace Go.Proofs.Ytphojngdgmnpaaa
open Go Go.RowKit
set_option linter.unusedVariables false
set_option linter.unusedSimpArgs false
set_option maxRecDepth 100000
section
variable {E : Env} {nt : Nat} {T : Nat → Option AV} {H : Hp}
theorem Rel.tokenO {B : Blk} {a : Act} {w : World} (r : Rel E nt B T H a w) {g n : Nat} {e : TypeId} (hg : H g = none) (hn : 0 < n) : Rel E nt B T (upd H g (.own e n [])) a w := by
  have hb := r.non g hg
  have pic : Pic w w B B H (upd H g (.own e n [])) := by
    refine ⟨fun _ _ _ h => h, fun j h => ?_, fun t n len A cap h => ?_, ownPic (Evo.refl (fun _ _ => False) w) fun g' e' n' ys h => ?_⟩
    · have hj : j ≠ g := fun e => by rw [e, hg] at h; cases h
      rw [upd_ne _ _ hj]; exact h
    · obtain ⟨e', k, h1, h2⟩ := h
      have hj : t ≠ g := fun e => by rw [e, hg] at h1; cases h1
      exact ⟨e', k, by rw [upd_ne _ _ hj]; exact h1, h2⟩
    · have hne : g' ≠ g := fun e' => by rw [e', hg] at h; cases h
      exact ⟨(upd_ne _ _ hne).trans h, rfl⟩
  refine r.move (Evo.refl _ w) (fun b o _ h => (unst_none hg hb).1 h) pic r.left (fun j bj h => ?_) (fun j h => ?_) (fun j j' b h1 h2 h3 h4 => ?_)
  · by_cases hj : j = g
    · subst hj; rw [upd_same] at h; injection h with h; subst h; exact .inl ⟨hn, Tie.none (r.keep _ hg), .inl ⟨hb, rfl⟩⟩
    · rw [upd_ne _ _ hj] at h
      exact .inr ⟨h, rfl, fun _ _ _ => rfl⟩
  · by_cases hj : j = g
    · subst hj; rw [upd_same] at h; cases h
    · rw [upd_ne _ _ hj] at h; exact ⟨h, r.non j h⟩
  · have hne : ∀ j, B j = some b → j ≠ g := fun j h e => by rw [e, hb] at h; cases h
    rw [upd_ne _ _ (hne j h3)] at h1
    rw [upd_ne _ _ (hne j' h4)] at h2
    exact r.inj j j' b h1 h2 h3 h4
end
theorem Go2.tokenO {E : Env} {nt : Nat} {T : List (Nat × AV)} {H : List (Nat × Bx)} (s g n : Nat) (e : TypeId) (hs : look s T = some (.v (.slice none 0 0))) (hg : look g H = none) : Go2 E nt ⟨T, H⟩ ⟨(s, .own g (n + 1) 0 .row) :: T, (g, .own e (n + 1) []) :: H⟩ := fun B a w r => by
  have r1 := r.tokenO (g := g) (n := n + 1) (e := e) hg (Nat.succ_pos n)
  refine ⟨B, r1.nt, r1.df, fun s' x hx => ?_, fun g' bx h => ?_, fun g' h => ?_, fun g1 g2 b h1 h2 => ?_, r1.left, fun g' h => ?_⟩
  all_goals have eH : St.h ⟨(s, AV.own g (n + 1) 0 .row) :: T, (g, .own e (n + 1) []) :: H⟩ = upd (St.h ⟨T, H⟩) g (.own e (n + 1) []) := look_cons _ _ _
  · have eT : St.t ⟨(s, AV.own g (n + 1) 0 .row) :: T, (g, .own e (n + 1) []) :: H⟩ = upd (St.t ⟨T, H⟩) s (.own g (n + 1) 0 .row) := look_cons _ _ _
    rw [eH]
    rw [eT] at hx
    by_cases h : s' = s
    · subst h
      rw [upd_same] at hx
      injection hx with hx
      subst hx
      obtain ⟨v, h1, h2⟩ := r1.tmp s' _ hs
      rw [Rdv_v] at h2
      refine ⟨v, h1, ?_⟩
      rw [Rdv_not (by simp), h2.2]
      exact ⟨[_], by simp only [Rd]; exact ⟨_, ⟨e, [], upd_same _ _ _, Nat.le_refl _, rfl, fun _ => ⟨fun _ => rfl, fun b hb => by rw [r.non g hg] at hb; cases hb⟩⟩, rfl⟩, rfl⟩
    · rw [upd_ne _ _ h] at hx
      exact r1.tmp s' x hx
  · rw [eH] at h ⊢; exact r1.box g' bx h
  · rw [eH] at h; exact r1.non g' h
  · rw [eH] at h1 h2; exact r1.inj g1 g2 b h1 h2
  · rw [eH] at h; exact r1.keep g' h
theorem und_none {l : List Cal} {d : List Bool} (h : ∀ k, k < l.length → dOf d k = true) : und l d 0 = 0 := by
  unfold und
  rw [List.countP_eq_zero]
  intro k hk
  rw [Nat.sub_zero, ← List.range_eq_range'] at hk
  rw [h k (List.mem_range.1 hk)]; simp
theorem und_all {l : List Cal} (hl : l.length ≤ 14) : und l (inn []) 0 = l.length := by
  unfold und
  rw [List.countP_eq_length.2]
  · simp
  · intro k hk
    rw [Nat.sub_zero, ← List.range_eq_range'] at hk
    rw [dOf_nil (by have := List.mem_range.1 hk; omega)]; rfl
theorem pth_full {l : List Cal} (hl : l.length ≤ 14) (ht : ∀ k, k < l.length → 0 ≤ (atC l k).to) : ∀ (s : List Nat) (d : List Bool) (m : List Ent), d.length = 14 → pth l d m s = true → s.length = und l d 0
  | [], d, m, hd, h => by
    have h : ovr l d = true := h
    rw [ovr_whl hl hd] at h
    unfold whl at h
    rw [List.all_eq_true] at h
    rw [und_none]; · rfl
    intro k hk
    have h1 := h k (List.mem_range.2 hk)
    unfold whlAt at h1
    rw [decide_eq_false (show ¬ (atC l k).to < 0 by have := ht k hk; omega), Bool.false_or] at h1
    exact h1
  | i :: s, d, m, hd, h => by
    rw [pth_cons] at h
    simp only [Bool.and_eq_true, decide_eq_true_eq] at h
    obtain ⟨⟨⟨⟨h1, h2⟩, h3⟩, h4⟩, h5⟩ := h
    have h2 : dOf d i = false := by simpa using h2
    have h6 := pth_full hl ht s (d.set i true) _ (by simpa using hd) h5
    have h7 := und_set (d := d) h1 (by omega) h2
    rw [List.length_cons]; omega
theorem runC_to (ops : List Int) (wide : List (BitVec 8)) (most : Nat) (k : Nat) (hk : k < (runC ops wide most).length) : 0 ≤ (atC (runC ops wide most) k).to := by
  have h := (runGo_at wide (ops.take most) 0 [] k hk).2
  rw [← atC_get hk]
  have h : 10 * ((0 + k : Nat) : Int) + 1 ≤ (runC ops wide most)[k].to := h
  omega
/-- what the search tells of calls one by one -/
theorem run_full (ops : List Int) (wide : List (BitVec 8)) (most : Nat) (h : (runC ops wide most).length ≤ 14) : ∃ q, findC (runC ops wide most) = some q ∧ q.length = (runC ops wide most).length := by
  obtain ⟨q, h1, _, _⟩ := run_found ops wide most h
  have h2 := pth_full h (runC_to ops wide most) q (inn []) [] (inn_len []) (findC_some h1).2
  rw [und_all h] at h2
  exact ⟨q, h1, h2⟩
theorem findC_large {l : List Cal} (h : 14 < l.length) : findC l = none := by unfold findC; rw [if_pos h]
def rowM (ops : List Int) (j : Nat) : List Int := (List.range j).map fun i => if i < ops.length then ops.getD i 0 else 3 + 4 * (i : Int)
@[simp] theorem rowM_len (ops : List Int) (j : Nat) : (rowM ops j).length = j := by simp [rowM]
theorem rowM_in {ops : List Int} {j : Nat} (h : j < ops.length) : rowM ops (j + 1) = rowM ops j ++ [ops[j]] := by
  unfold rowM
  rw [List.range_succ, List.map_append, List.map_singleton, if_pos h, List.getD_eq_getElem?_getD, List.getElem?_eq_getElem h]; rfl
theorem rowM_out {ops : List Int} {j : Nat} (h : ¬ j < ops.length) : rowM ops (j + 1) = rowM ops j ++ [3 + 4 * (j : Int)] := by
  unfold rowM
  rw [List.range_succ, List.map_append, List.map_singleton, if_neg h]
theorem rowM_ok {ops : List Int} (h : ∀ v ∈ ops, -9223372036854775808 ≤ v ∧ v ≤ 9223372036854775807) {j : Nat} (hj : j ≤ 100) : ∀ v ∈ rowM ops j, -9223372036854775808 ≤ v ∧ v ≤ 9223372036854775807 := by
  intro v hv
  unfold rowM at hv
  rw [List.mem_map] at hv
  obtain ⟨i, hi, rfl⟩ := hv
  have hi := List.mem_range.1 hi
  split
  · rename_i h1
    rw [List.getD_eq_getElem?_getD, List.getElem?_eq_getElem h1]
    exact h _ (List.getElem_mem h1)
  · omega
theorem set_last {α : Type} (l : List α) (x y : α) : (l ++ [x]).set l.length y = l ++ [y] := by
  rw [List.set_append_right _ _ (Nat.le_refl _)]; simp
attribute [local irreducible] OpOK AWops AW CondB Go2 AFn thenA inBlockA noGotoA orderOk wantedA
set_option maxRecDepth 100000 in
set_option maxHeartbeats 8000000 in
theorem a_lmany (ops : List Int) (hv : ∀ v ∈ ops, -9223372036854775808 ≤ v ∧ v ≤ 9223372036854775807) (hl : ops.length ≤ 17592186043904) (n : Int) (hn : -9223372036854775808 ≤ n ∧ n ≤ 9223372036854775807) :
    AFn Try.prog 7 [intsA ops, intA n] (boolA true) := by
  have cp := a_lplace n 20 (by omega) (by omega) hn
  obtain ⟨k, hk⟩ : ∃ k : Nat, n % 20 = (k : Int) := ⟨(n % 20).toNat, by omega⟩
  have hk20 : k < 20 := by omega
  rw [hk] at cp
  have cr := a_run (rowM ops k) (rowM_ok hv (by omega)) (by rw [rowM_len]; omega) [] 20 (by omega)
  have hlen := runC_len (rowM ops k) [] 20
  rw [rowM_len, Nat.min_eq_right (by omega)] at hlen
  have hfull := run_full (rowM ops k) [] 20
  generalize runC (rowM ops k) [] 20 = c at cr hlen hfull
  have f1 := a_find c
  have f2 := a_least c
  refine AFn_intro Try.func7 rfl Try.ntmps7 rfl (by simp) [_] rfl fun E hE => ?_
  have hnt : (!true) = false := rfl
  have hnf : (!false) = true := rfl
  have d1 := acall Try.func17 (cp) (by decide +kernel) (by decide +kernel)
  have d2 := acall Try.func20 (cr) (by decide +kernel) (by decide +kernel)
  have d6 := acall Try.func12 (a_awake25) (by decide +kernel) (by decide +kernel)
  refine wOI ?_
  refine AW_go (Go2.tokenO 6 6 0 3 rfl rfl) ?_
  refine AW_loopI (fun j : Nat => ⟨[(0, intsA ops), (5, intA (k : Nat)), (6, .own 6 1 (rowM ops j).length .row), (7, intA (j : Nat))], [(6, .own 3 1 ((rowM ops j).map intA))]⟩) (fun j => j ≤ k) (fun j => k - j) 0 (Nat.zero_le _) (by (refine Go2.sub ⟨?_, ?_, ?_⟩ <;> repeat' (first | exact True.intro | rfl | apply And.intro))) (fun j hj => ?_)
  have hrl : (rowM ops j).length = j := rowM_len ops j
  by_cases c1 : j < k
  · have c1i : (j : Int) < (k : Nat) := by omega
    by_cases c2 : j < ops.length
    · have hin := rowM_in c2
      repeat (first | (apply Wb; (focus (exact oo_app (f := intA) (xs := rowM ops j) (zs := [3 + 4 * (j : Int)]) rfl rfl rfl rfl rfl (by exact o_one intA (3 + 4 * (j : Int)) rfl) (by simp; omega) (by simp; omega))); (focus (first | exact want_n | exact want_g rfl (by with_reducible rfl)))) | (first | (first | refine Wend _ ?_ | refine AW_seq ?_ | refine AW_reg ?_ | refine AW_drw mixed ?_ | refine AW_block ?_ | refine AW_scope ?_ | refine thenA_n ?_ | refine blockA_n ?_ | refine blockA_h ?_ | refine scopeA_n ?_ | refine thenA_r ?_ | refine blockA_r ?_ | refine scopeA_r ?_ | refine thenA_e ?_ | refine scopeA_e ?_ | refine blockA_e rfl ?_ | refine AW_exit ?_ | refine AW_ret ?_ | refine AW_skip ?_ | refine AW_c rfl ?_ | with_reducible refine cb_t ?_ | with_reducible refine cb_f ?_ | with_reducible refine cb_yes (by first | assumption | omega) ?_ | with_reducible refine cb_no (by first | assumption | omega) ?_ | refine And.intro (by decide +kernel) ?_) | (first | (apply Wb; (focus (first | exact o_bsl0O rfl rfl rfl | exact oo_app0 rfl rfl rfl rfl rfl (by first | exact o_many rfl | exact o_one _ _ rfl | exact o_zero rfl) (by first | omega | (simp; omega) | (simp; done)) (by first | omega | (simp; omega) | (simp; done)))); (focus (first | exact want_n | exact want_g rfl (by with_reducible rfl)))) | (apply Wv; (focus (first | exact oi_len rfl rfl rfl rfl (by first | rfl | assumption | omega | (simp; done) | (simp; omega)) | exact oi_idx rfl rfl rfl rfl rfl rfl (by first | rfl | assumption | omega | (simp; done) | (simp; omega)) (by first | rfl | assumption | omega | (simp; done) | (simp; omega)) | exact oi_ld rfl rfl rfl (by first | rfl | assumption | omega | (simp; done) | (simp; omega)) (by first | rfl | assumption | omega | (simp; done) | (simp; omega)) rfl rfl)); (focus (first | exact want_n | exact want_g rfl (by with_reducible rfl)))) | (apply Ws; (focus (exact oi_st (f := intA) rfl rfl rfl (by first | rfl | assumption | omega | (simp; done) | (simp; omega)) (by first | rfl | assumption | omega | (simp; done) | (simp; omega)) rfl (fun _ => rfl) rfl rfl)); (focus (first | exact want_n | exact want_g rfl (by with_reducible rfl)))) | (first | (apply Wv; (focus (first | exact step_ok rfl rfl | exact o_idx rfl rfl rfl rfl (by first | assumption | omega | decide) | exact o_idx3 rfl rfl rfl rfl (by first | assumption | omega | decide) | exact o_idx2 rfl rfl rfl rfl rfl (by first | assumption | omega | decide) | exact o_idxr rfl rfl rfl rfl rfl rfl | exact o_lenm rfl rfl rfl | exact o_len rfl rfl rfl | exact o_len0 rfl rfl rfl | exact o_lens rfl rfl rfl | exact o_lent rfl rfl | exact o_add1 rfl rfl rfl (by omega) | exact o_addn rfl rfl rfl (by omega) | exact o_add rfl rfl rfl (by omega) | exact o_sub1 rfl rfl rfl (by omega) | exact o_sub rfl rfl rfl (by omega) | exact o_mul rfl rfl rfl (by omega) | exact o_rem rfl rfl rfl (by omega) | exact ok_rem rfl rfl rfl (by decide) rfl | exact o_eqKey rfl rfl rfl | exact o_neKey rfl rfl rfl | exact o_eqVl rfl rfl rfl | exact o_neVl rfl rfl rfl | exact o_eqEnt rfl rfl rfl | exact o_neEnt rfl rfl rfl | exact o_eqMsg rfl rfl rfl | exact o_neMsg rfl rfl rfl | exact o_acall rfl rfl rfl rfl (by assumption) | exact o_minn rfl rfl rfl | exact o_cutl rfl rfl rfl rfl (by omega) | exact o_cuth rfl rfl rfl rfl (by omega) | exact o_cutl3 rfl rfl rfl rfl (by omega) | exact o_cuth3 rfl rfl rfl rfl (by omega) | exact o_cutl2 rfl rfl rfl rfl rfl (by omega) | exact o_cuth2 rfl rfl rfl rfl rfl (by omega) | exact o_cutlh2 rfl rfl rfl rfl rfl rfl rfl (by omega) (by omega) | exact o_bld zero_Opn rfl rfl rfl rfl rfl rfl rfl | exact o_bld zero_Cal rfl rfl rfl rfl rfl rfl rfl | exact o_bld zero_state rfl rfl rfl rfl rfl rfl rfl | exact o_bld zero_search rfl rfl rfl rfl rfl rfl rfl | exact o_nilcr rfl rfl | exact o_nilcp rfl rfl | exact o_eqbar rfl rfl rfl (by simp) (by simp) | exact o_ldbar rfl rfl (by simp) rfl (by first | omega | (simp; omega)) rfl | exact o_idxpn rfl rfl rfl rfl (by omega) | exact o_idxvn rfl rfl rfl rfl (by omega) (by assumption) rfl | exact o_idxrn rfl rfl rfl rfl (by omega) (by assumption) | exact o_cutarr rfl rfl rfl rfl | exact o_mkfn rfl rfl rfl | exact o_callv rfl rfl rfl rfl rfl rfl (by assumption) | exact o_bld zero_Ans rfl rfl rfl rfl rfl rfl rfl | exact o_eqAns rfl rfl rfl | exact o_neAns rfl rfl rfl | exact e_bld rfl rfl rfl | exact e_bldk rfl rfl | exact z_bld0 rfl rfl rfl rfl rfl | exact z_bld rfl rfl rfl rfl rfl rfl rfl | exact o_addu rfl rfl rfl | exact z_blda rfl rfl rfl rfl rfl rfl rfl rfl rfl | exact o_idxa rfl rfl rfl rfl rfl rfl | exact o_idxra rfl rfl rfl rfl rfl rfl rfl | exact o_quo2 rfl rfl rfl (by omega) | exact o_quo rfl rfl rfl (by omega))); (focus (first | exact want_n | exact want_g rfl (by with_reducible rfl)))) | (apply Wb; (focus (first | exact o_box rfl rfl rfl rfl | exact o_app rfl rfl rfl rfl rfl (by first | exact o_many rfl | exact o_one _ _ rfl) (by first | omega | (simp; omega) | simp) (by first | omega | (simp; omega) | simp) | exact o_appn rfl rfl rfl rfl rfl (by first | exact o_many rfl | exact o_one _ _ rfl) (by first | omega | (simp; omega) | simp) (by first | omega | (simp; omega) | simp) | exact o_app1 rfl rfl rfl rfl rfl (by first | exact o_many rfl | exact o_one _ _ rfl) (by exact rfl) (by first | omega | (simp; omega) | simp) (by first | omega | (simp; omega) | simp) | exact o_app0 rfl rfl rfl rfl rfl (by first | exact o_many rfl | exact o_one _ _ rfl) (by first | omega | (simp; omega) | simp) (by first | omega | (simp; omega) | simp) | exact o_bsl0 rfl rfl rfl | exact z_bsll rfl rfl rfl rfl rfl rfl rfl rfl rfl | exact z_alloc rfl rfl rfl | exact o_alloc zero_Opn rfl rfl | exact o_alloc zero_Cal rfl rfl | exact o_alloc zero_state rfl rfl | exact o_alloc zero_b14 rfl rfl | exact o_cpents rfl rfl rfl rfl rfl rfl (by omega) | exact o_alloc zero_Ans rfl rfl | exact o_bsll zero_Ans rfl rfl rfl rfl rfl rfl rfl rfl | exact o_bsll zero_Opn rfl rfl rfl rfl rfl rfl rfl rfl)); (focus (first | exact want_n | exact want_g rfl (by with_reducible rfl)))) | (apply Ws; (focus (first | exact o_stin rfl (by simp) rfl rfl (by first | omega | (simp; omega)) rfl | exact o_stbar rfl (by simp) rfl rfl (by first | omega | (simp; omega)) rfl | exact ok_store tabT (d := none) rfl rfl rfl rfl rfl rfl rfl rfl rfl rfl)); (focus (first | exact want_n | exact want_g rfl (by with_reducible rfl)))) | (refine Wskip (by first | exact want_f rfl (by with_reducible exact b_nt) | exact want_f rfl (by with_reducible exact b_nf) | exact want_t rfl) rfl ?_) | refine Wgt rfl rfl (by first | assumption | omega | exact rfl) ?_ | refine Wgf rfl rfl (by first | assumption | omega | exact rfl) ?_ | (refine Wgb rfl rfl (by with_reducible assumption) ?_) | (refine cb_is _ (by assumption) ?_)))))
      refine ⟨j + 1, c1, by omega, ?_⟩
      have e1 : (rowM ops j ++ [3 + 4 * (j : Int)]).set j ops[j] = rowM ops (j + 1) := by
        rw [hin]
        have := set_last (rowM ops j) (3 + 4 * (j : Int)) ops[j]
        rw [rowM_len] at this
        exact this
      have e2 : (rowM ops j ++ [3 + 4 * (j : Int)]).length = (rowM ops (j + 1)).length := by simp
      rw [e1, e2]
      (refine Go2.sub ⟨?_, ?_, ?_⟩ <;> repeat' (first | exact True.intro | rfl | apply And.intro))
    · have hout := rowM_out c2
      have c2i : ¬ (j : Int) < (ops.length : Nat) := by omega
      repeat (first | (apply Wb; (focus (exact oo_app (f := intA) (xs := rowM ops j) (zs := [3 + 4 * (j : Int)]) rfl rfl rfl rfl rfl (by exact o_one intA (3 + 4 * (j : Int)) rfl) (by simp; omega) (by simp; omega))); (focus (first | exact want_n | exact want_g rfl (by with_reducible rfl)))) | (first | (first | refine Wend _ ?_ | refine AW_seq ?_ | refine AW_reg ?_ | refine AW_drw mixed ?_ | refine AW_block ?_ | refine AW_scope ?_ | refine thenA_n ?_ | refine blockA_n ?_ | refine blockA_h ?_ | refine scopeA_n ?_ | refine thenA_r ?_ | refine blockA_r ?_ | refine scopeA_r ?_ | refine thenA_e ?_ | refine scopeA_e ?_ | refine blockA_e rfl ?_ | refine AW_exit ?_ | refine AW_ret ?_ | refine AW_skip ?_ | refine AW_c rfl ?_ | with_reducible refine cb_t ?_ | with_reducible refine cb_f ?_ | with_reducible refine cb_yes (by first | assumption | omega) ?_ | with_reducible refine cb_no (by first | assumption | omega) ?_ | refine And.intro (by decide +kernel) ?_) | (first | (apply Wb; (focus (first | exact o_bsl0O rfl rfl rfl | exact oo_app0 rfl rfl rfl rfl rfl (by first | exact o_many rfl | exact o_one _ _ rfl | exact o_zero rfl) (by first | omega | (simp; omega) | (simp; done)) (by first | omega | (simp; omega) | (simp; done)))); (focus (first | exact want_n | exact want_g rfl (by with_reducible rfl)))) | (apply Wv; (focus (first | exact oi_len rfl rfl rfl rfl (by first | rfl | assumption | omega | (simp; done) | (simp; omega)) | exact oi_idx rfl rfl rfl rfl rfl rfl (by first | rfl | assumption | omega | (simp; done) | (simp; omega)) (by first | rfl | assumption | omega | (simp; done) | (simp; omega)) | exact oi_ld rfl rfl rfl (by first | rfl | assumption | omega | (simp; done) | (simp; omega)) (by first | rfl | assumption | omega | (simp; done) | (simp; omega)) rfl rfl)); (focus (first | exact want_n | exact want_g rfl (by with_reducible rfl)))) | (apply Ws; (focus (exact oi_st (f := intA) rfl rfl rfl (by first | rfl | assumption | omega | (simp; done) | (simp; omega)) (by first | rfl | assumption | omega | (simp; done) | (simp; omega)) rfl (fun _ => rfl) rfl rfl)); (focus (first | exact want_n | exact want_g rfl (by with_reducible rfl)))) | (first | (apply Wv; (focus (first | exact step_ok rfl rfl | exact o_idx rfl rfl rfl rfl (by first | assumption | omega | decide) | exact o_idx3 rfl rfl rfl rfl (by first | assumption | omega | decide) | exact o_idx2 rfl rfl rfl rfl rfl (by first | assumption | omega | decide) | exact o_idxr rfl rfl rfl rfl rfl rfl | exact o_lenm rfl rfl rfl | exact o_len rfl rfl rfl | exact o_len0 rfl rfl rfl | exact o_lens rfl rfl rfl | exact o_lent rfl rfl | exact o_add1 rfl rfl rfl (by omega) | exact o_addn rfl rfl rfl (by omega) | exact o_add rfl rfl rfl (by omega) | exact o_sub1 rfl rfl rfl (by omega) | exact o_sub rfl rfl rfl (by omega) | exact o_mul rfl rfl rfl (by omega) | exact o_rem rfl rfl rfl (by omega) | exact ok_rem rfl rfl rfl (by decide) rfl | exact o_eqKey rfl rfl rfl | exact o_neKey rfl rfl rfl | exact o_eqVl rfl rfl rfl | exact o_neVl rfl rfl rfl | exact o_eqEnt rfl rfl rfl | exact o_neEnt rfl rfl rfl | exact o_eqMsg rfl rfl rfl | exact o_neMsg rfl rfl rfl | exact o_acall rfl rfl rfl rfl (by assumption) | exact o_minn rfl rfl rfl | exact o_cutl rfl rfl rfl rfl (by omega) | exact o_cuth rfl rfl rfl rfl (by omega) | exact o_cutl3 rfl rfl rfl rfl (by omega) | exact o_cuth3 rfl rfl rfl rfl (by omega) | exact o_cutl2 rfl rfl rfl rfl rfl (by omega) | exact o_cuth2 rfl rfl rfl rfl rfl (by omega) | exact o_cutlh2 rfl rfl rfl rfl rfl rfl rfl (by omega) (by omega) | exact o_bld zero_Opn rfl rfl rfl rfl rfl rfl rfl | exact o_bld zero_Cal rfl rfl rfl rfl rfl rfl rfl | exact o_bld zero_state rfl rfl rfl rfl rfl rfl rfl | exact o_bld zero_search rfl rfl rfl rfl rfl rfl rfl | exact o_nilcr rfl rfl | exact o_nilcp rfl rfl | exact o_eqbar rfl rfl rfl (by simp) (by simp) | exact o_ldbar rfl rfl (by simp) rfl (by first | omega | (simp; omega)) rfl | exact o_idxpn rfl rfl rfl rfl (by omega) | exact o_idxvn rfl rfl rfl rfl (by omega) (by assumption) rfl | exact o_idxrn rfl rfl rfl rfl (by omega) (by assumption) | exact o_cutarr rfl rfl rfl rfl | exact o_mkfn rfl rfl rfl | exact o_callv rfl rfl rfl rfl rfl rfl (by assumption) | exact o_bld zero_Ans rfl rfl rfl rfl rfl rfl rfl | exact o_eqAns rfl rfl rfl | exact o_neAns rfl rfl rfl | exact e_bld rfl rfl rfl | exact e_bldk rfl rfl | exact z_bld0 rfl rfl rfl rfl rfl | exact z_bld rfl rfl rfl rfl rfl rfl rfl | exact o_addu rfl rfl rfl | exact z_blda rfl rfl rfl rfl rfl rfl rfl rfl rfl | exact o_idxa rfl rfl rfl rfl rfl rfl | exact o_idxra rfl rfl rfl rfl rfl rfl rfl | exact o_quo2 rfl rfl rfl (by omega) | exact o_quo rfl rfl rfl (by omega))); (focus (first | exact want_n | exact want_g rfl (by with_reducible rfl)))) | (apply Wb; (focus (first | exact o_box rfl rfl rfl rfl | exact o_app rfl rfl rfl rfl rfl (by first | exact o_many rfl | exact o_one _ _ rfl) (by first | omega | (simp; omega) | simp) (by first | omega | (simp; omega) | simp) | exact o_appn rfl rfl rfl rfl rfl (by first | exact o_many rfl | exact o_one _ _ rfl) (by first | omega | (simp; omega) | simp) (by first | omega | (simp; omega) | simp) | exact o_app1 rfl rfl rfl rfl rfl (by first | exact o_many rfl | exact o_one _ _ rfl) (by exact rfl) (by first | omega | (simp; omega) | simp) (by first | omega | (simp; omega) | simp) | exact o_app0 rfl rfl rfl rfl rfl (by first | exact o_many rfl | exact o_one _ _ rfl) (by first | omega | (simp; omega) | simp) (by first | omega | (simp; omega) | simp) | exact o_bsl0 rfl rfl rfl | exact z_bsll rfl rfl rfl rfl rfl rfl rfl rfl rfl | exact z_alloc rfl rfl rfl | exact o_alloc zero_Opn rfl rfl | exact o_alloc zero_Cal rfl rfl | exact o_alloc zero_state rfl rfl | exact o_alloc zero_b14 rfl rfl | exact o_cpents rfl rfl rfl rfl rfl rfl (by omega) | exact o_alloc zero_Ans rfl rfl | exact o_bsll zero_Ans rfl rfl rfl rfl rfl rfl rfl rfl | exact o_bsll zero_Opn rfl rfl rfl rfl rfl rfl rfl rfl)); (focus (first | exact want_n | exact want_g rfl (by with_reducible rfl)))) | (apply Ws; (focus (first | exact o_stin rfl (by simp) rfl rfl (by first | omega | (simp; omega)) rfl | exact o_stbar rfl (by simp) rfl rfl (by first | omega | (simp; omega)) rfl | exact ok_store tabT (d := none) rfl rfl rfl rfl rfl rfl rfl rfl rfl rfl)); (focus (first | exact want_n | exact want_g rfl (by with_reducible rfl)))) | (refine Wskip (by first | exact want_f rfl (by with_reducible exact b_nt) | exact want_f rfl (by with_reducible exact b_nf) | exact want_t rfl) rfl ?_) | refine Wgt rfl rfl (by first | assumption | omega | exact rfl) ?_ | refine Wgf rfl rfl (by first | assumption | omega | exact rfl) ?_ | (refine Wgb rfl rfl (by with_reducible assumption) ?_) | (refine cb_is _ (by assumption) ?_)))))
      refine ⟨j + 1, c1, by omega, ?_⟩
      rw [hout]
      (refine Go2.sub ⟨?_, ?_, ?_⟩ <;> repeat' (first | exact True.intro | rfl | apply And.intro))
  · obtain rfl : j = k := by omega
    by_cases h14 : j ≤ 14
    · obtain ⟨q, h1, h2⟩ := hfull (by omega)
      have hql : q.length = j := by omega
      have f1' : AFn Try.prog 13 [calsA c] (.tup [numsA q, boolA true]) := by rw [h1] at f1; exact f1
      have f2' : AFn Try.prog 15 [calsA c] (.tup [intA (j : Nat), boolA true]) := by
        rw [h1] at f2
        have f2 : AFn Try.prog 15 [calsA c] (.tup [intA (q.length : Nat), boolA true]) := f2
        rw [hql] at f2; exact f2
      clear f1 f2
      have g1 : true = decide ((j : Int) ≤ 14) := (decide_eq_true (by omega)).symm
      have g2 : true = true := rfl
      have d3 := acall Try.func13 (f1') (by decide +kernel) (by decide +kernel)
      have d4 := acall Try.func15 (f2') (by decide +kernel) (by decide +kernel)
      repeat (first | (refine AW_go (S' := ⟨[(17, .v (.bool (decide ((j : Int) < (j : Int))))), (0, intsA ops), (5, intA (j : Nat)), (6, .own 6 1 (rowM ops j).length .row)], [(6, .own 3 1 ((rowM ops j).map intA))]⟩) ?_ ?_; (focus ((refine Go2.sub ⟨?_, ?_, ?_⟩ <;> repeat' (first | exact True.intro | rfl | apply And.intro)); done)); rw [show (AV.own 6 1 (rowM ops j).length .row) = AV.own 6 1 ((rowM ops j).map intA).length .row by rw [List.length_map]]; refine AW_go (Go2.thaw (S' := ⟨[(17, .v (.bool (decide ((j : Int) < (j : Int))))), (0, intsA ops), (5, intA (j : Nat)), (6, .sl (some 6) 1 ((rowM ops j).map intA))], [(6, .tail 3 1 ((rowM ops j).map intA).length)]⟩) 6 rfl (by repeat' (first | exact True.intro | rfl | apply And.intro | (simp; done))) (by repeat' (first | exact True.intro | rfl | apply And.intro | (simp; done))) rfl) ?_) | (first | (first | refine Wend _ ?_ | refine AW_seq ?_ | refine AW_reg ?_ | refine AW_drw mixed ?_ | refine AW_block ?_ | refine AW_scope ?_ | refine thenA_n ?_ | refine blockA_n ?_ | refine blockA_h ?_ | refine scopeA_n ?_ | refine thenA_r ?_ | refine blockA_r ?_ | refine scopeA_r ?_ | refine thenA_e ?_ | refine scopeA_e ?_ | refine blockA_e rfl ?_ | refine AW_exit ?_ | refine AW_ret ?_ | refine AW_skip ?_ | refine AW_c rfl ?_ | with_reducible refine cb_t ?_ | with_reducible refine cb_f ?_ | with_reducible refine cb_yes (by first | assumption | omega) ?_ | with_reducible refine cb_no (by first | assumption | omega) ?_ | refine And.intro (by decide +kernel) ?_) | (first | (apply Wb; (focus (first | exact o_bsl0O rfl rfl rfl | exact oo_app0 rfl rfl rfl rfl rfl (by first | exact o_many rfl | exact o_one _ _ rfl | exact o_zero rfl) (by first | omega | (simp; omega) | (simp; done)) (by first | omega | (simp; omega) | (simp; done)))); (focus (first | exact want_n | exact want_g rfl (by with_reducible rfl)))) | (apply Wv; (focus (first | exact oi_len rfl rfl rfl rfl (by first | rfl | assumption | omega | (simp; done) | (simp; omega)) | exact oi_idx rfl rfl rfl rfl rfl rfl (by first | rfl | assumption | omega | (simp; done) | (simp; omega)) (by first | rfl | assumption | omega | (simp; done) | (simp; omega)) | exact oi_ld rfl rfl rfl (by first | rfl | assumption | omega | (simp; done) | (simp; omega)) (by first | rfl | assumption | omega | (simp; done) | (simp; omega)) rfl rfl)); (focus (first | exact want_n | exact want_g rfl (by with_reducible rfl)))) | (apply Ws; (focus (exact oi_st (f := intA) rfl rfl rfl (by first | rfl | assumption | omega | (simp; done) | (simp; omega)) (by first | rfl | assumption | omega | (simp; done) | (simp; omega)) rfl (fun _ => rfl) rfl rfl)); (focus (first | exact want_n | exact want_g rfl (by with_reducible rfl)))) | (first | (apply Wv; (focus (first | exact step_ok rfl rfl | exact o_idx rfl rfl rfl rfl (by first | assumption | omega | decide) | exact o_idx3 rfl rfl rfl rfl (by first | assumption | omega | decide) | exact o_idx2 rfl rfl rfl rfl rfl (by first | assumption | omega | decide) | exact o_idxr rfl rfl rfl rfl rfl rfl | exact o_lenm rfl rfl rfl | exact o_len rfl rfl rfl | exact o_len0 rfl rfl rfl | exact o_lens rfl rfl rfl | exact o_lent rfl rfl | exact o_add1 rfl rfl rfl (by omega) | exact o_addn rfl rfl rfl (by omega) | exact o_add rfl rfl rfl (by omega) | exact o_sub1 rfl rfl rfl (by omega) | exact o_sub rfl rfl rfl (by omega) | exact o_mul rfl rfl rfl (by omega) | exact o_rem rfl rfl rfl (by omega) | exact ok_rem rfl rfl rfl (by decide) rfl | exact o_eqKey rfl rfl rfl | exact o_neKey rfl rfl rfl | exact o_eqVl rfl rfl rfl | exact o_neVl rfl rfl rfl | exact o_eqEnt rfl rfl rfl | exact o_neEnt rfl rfl rfl | exact o_eqMsg rfl rfl rfl | exact o_neMsg rfl rfl rfl | exact o_acall rfl rfl rfl rfl (by assumption) | exact o_minn rfl rfl rfl | exact o_cutl rfl rfl rfl rfl (by omega) | exact o_cuth rfl rfl rfl rfl (by omega) | exact o_cutl3 rfl rfl rfl rfl (by omega) | exact o_cuth3 rfl rfl rfl rfl (by omega) | exact o_cutl2 rfl rfl rfl rfl rfl (by omega) | exact o_cuth2 rfl rfl rfl rfl rfl (by omega) | exact o_cutlh2 rfl rfl rfl rfl rfl rfl rfl (by omega) (by omega) | exact o_bld zero_Opn rfl rfl rfl rfl rfl rfl rfl | exact o_bld zero_Cal rfl rfl rfl rfl rfl rfl rfl | exact o_bld zero_state rfl rfl rfl rfl rfl rfl rfl | exact o_bld zero_search rfl rfl rfl rfl rfl rfl rfl | exact o_nilcr rfl rfl | exact o_nilcp rfl rfl | exact o_eqbar rfl rfl rfl (by simp) (by simp) | exact o_ldbar rfl rfl (by simp) rfl (by first | omega | (simp; omega)) rfl | exact o_idxpn rfl rfl rfl rfl (by omega) | exact o_idxvn rfl rfl rfl rfl (by omega) (by assumption) rfl | exact o_idxrn rfl rfl rfl rfl (by omega) (by assumption) | exact o_cutarr rfl rfl rfl rfl | exact o_mkfn rfl rfl rfl | exact o_callv rfl rfl rfl rfl rfl rfl (by assumption) | exact o_bld zero_Ans rfl rfl rfl rfl rfl rfl rfl | exact o_eqAns rfl rfl rfl | exact o_neAns rfl rfl rfl | exact e_bld rfl rfl rfl | exact e_bldk rfl rfl | exact z_bld0 rfl rfl rfl rfl rfl | exact z_bld rfl rfl rfl rfl rfl rfl rfl | exact o_addu rfl rfl rfl | exact z_blda rfl rfl rfl rfl rfl rfl rfl rfl rfl | exact o_idxa rfl rfl rfl rfl rfl rfl | exact o_idxra rfl rfl rfl rfl rfl rfl rfl | exact o_quo2 rfl rfl rfl (by omega) | exact o_quo rfl rfl rfl (by omega))); (focus (first | exact want_n | exact want_g rfl (by with_reducible rfl)))) | (apply Wb; (focus (first | exact o_box rfl rfl rfl rfl | exact o_app rfl rfl rfl rfl rfl (by first | exact o_many rfl | exact o_one _ _ rfl) (by first | omega | (simp; omega) | simp) (by first | omega | (simp; omega) | simp) | exact o_appn rfl rfl rfl rfl rfl (by first | exact o_many rfl | exact o_one _ _ rfl) (by first | omega | (simp; omega) | simp) (by first | omega | (simp; omega) | simp) | exact o_app1 rfl rfl rfl rfl rfl (by first | exact o_many rfl | exact o_one _ _ rfl) (by exact rfl) (by first | omega | (simp; omega) | simp) (by first | omega | (simp; omega) | simp) | exact o_app0 rfl rfl rfl rfl rfl (by first | exact o_many rfl | exact o_one _ _ rfl) (by first | omega | (simp; omega) | simp) (by first | omega | (simp; omega) | simp) | exact o_bsl0 rfl rfl rfl | exact z_bsll rfl rfl rfl rfl rfl rfl rfl rfl rfl | exact z_alloc rfl rfl rfl | exact o_alloc zero_Opn rfl rfl | exact o_alloc zero_Cal rfl rfl | exact o_alloc zero_state rfl rfl | exact o_alloc zero_b14 rfl rfl | exact o_cpents rfl rfl rfl rfl rfl rfl (by omega) | exact o_alloc zero_Ans rfl rfl | exact o_bsll zero_Ans rfl rfl rfl rfl rfl rfl rfl rfl | exact o_bsll zero_Opn rfl rfl rfl rfl rfl rfl rfl rfl)); (focus (first | exact want_n | exact want_g rfl (by with_reducible rfl)))) | (apply Ws; (focus (first | exact o_stin rfl (by simp) rfl rfl (by first | omega | (simp; omega)) rfl | exact o_stbar rfl (by simp) rfl rfl (by first | omega | (simp; omega)) rfl | exact ok_store tabT (d := none) rfl rfl rfl rfl rfl rfl rfl rfl rfl rfl)); (focus (first | exact want_n | exact want_g rfl (by with_reducible rfl)))) | (refine Wskip (by first | exact want_f rfl (by with_reducible exact b_nt) | exact want_f rfl (by with_reducible exact b_nf) | exact want_t rfl) rfl ?_) | refine Wgt rfl rfl (by first | assumption | omega | exact rfl) ?_ | refine Wgf rfl rfl (by first | assumption | omega | exact rfl) ?_ | (refine Wgb rfl rfl (by with_reducible assumption) ?_) | (refine cb_is _ (by assumption) ?_)))))
      (apply Wv; (focus (apply o_call Try.func20 (cr) rfl (by decide +kernel) rfl rfl; (any_goals (intro _; (repeat (first | exact wkl0 | refine wkd rfl ?_ | refine wkt ?_ | refine wkn ?_)); done)); (any_goals rfl))); (focus (first | exact want_n | exact want_g rfl (by with_reducible rfl))))
      refine wOI ?_
      exact fin ⟨res_of rfl rfl rfl, trivial⟩
    · have h1 := findC_large (l := c) (by omega)
      have f1' : AFn Try.prog 13 [calsA c] (.tup [numsA [], boolA false]) := by rw [h1] at f1; exact f1
      have f2' : AFn Try.prog 15 [calsA c] (.tup [intA 0, boolA false]) := by rw [h1] at f2; exact f2
      clear f1 f2
      have g1 : false = decide ((j : Int) ≤ 14) := (decide_eq_false (by omega)).symm
      have g2 : false = false := rfl
      have d3 := acall Try.func13 (f1') (by decide +kernel) (by decide +kernel)
      have d4 := acall Try.func15 (f2') (by decide +kernel) (by decide +kernel)
      repeat (first | (refine AW_go (S' := ⟨[(17, .v (.bool (decide ((j : Int) < (j : Int))))), (0, intsA ops), (5, intA (j : Nat)), (6, .own 6 1 (rowM ops j).length .row)], [(6, .own 3 1 ((rowM ops j).map intA))]⟩) ?_ ?_; (focus ((refine Go2.sub ⟨?_, ?_, ?_⟩ <;> repeat' (first | exact True.intro | rfl | apply And.intro)); done)); rw [show (AV.own 6 1 (rowM ops j).length .row) = AV.own 6 1 ((rowM ops j).map intA).length .row by rw [List.length_map]]; refine AW_go (Go2.thaw (S' := ⟨[(17, .v (.bool (decide ((j : Int) < (j : Int))))), (0, intsA ops), (5, intA (j : Nat)), (6, .sl (some 6) 1 ((rowM ops j).map intA))], [(6, .tail 3 1 ((rowM ops j).map intA).length)]⟩) 6 rfl (by repeat' (first | exact True.intro | rfl | apply And.intro | (simp; done))) (by repeat' (first | exact True.intro | rfl | apply And.intro | (simp; done))) rfl) ?_) | (first | (first | refine Wend _ ?_ | refine AW_seq ?_ | refine AW_reg ?_ | refine AW_drw mixed ?_ | refine AW_block ?_ | refine AW_scope ?_ | refine thenA_n ?_ | refine blockA_n ?_ | refine blockA_h ?_ | refine scopeA_n ?_ | refine thenA_r ?_ | refine blockA_r ?_ | refine scopeA_r ?_ | refine thenA_e ?_ | refine scopeA_e ?_ | refine blockA_e rfl ?_ | refine AW_exit ?_ | refine AW_ret ?_ | refine AW_skip ?_ | refine AW_c rfl ?_ | with_reducible refine cb_t ?_ | with_reducible refine cb_f ?_ | with_reducible refine cb_yes (by first | assumption | omega) ?_ | with_reducible refine cb_no (by first | assumption | omega) ?_ | refine And.intro (by decide +kernel) ?_) | (first | (apply Wb; (focus (first | exact o_bsl0O rfl rfl rfl | exact oo_app0 rfl rfl rfl rfl rfl (by first | exact o_many rfl | exact o_one _ _ rfl | exact o_zero rfl) (by first | omega | (simp; omega) | (simp; done)) (by first | omega | (simp; omega) | (simp; done)))); (focus (first | exact want_n | exact want_g rfl (by with_reducible rfl)))) | (apply Wv; (focus (first | exact oi_len rfl rfl rfl rfl (by first | rfl | assumption | omega | (simp; done) | (simp; omega)) | exact oi_idx rfl rfl rfl rfl rfl rfl (by first | rfl | assumption | omega | (simp; done) | (simp; omega)) (by first | rfl | assumption | omega | (simp; done) | (simp; omega)) | exact oi_ld rfl rfl rfl (by first | rfl | assumption | omega | (simp; done) | (simp; omega)) (by first | rfl | assumption | omega | (simp; done) | (simp; omega)) rfl rfl)); (focus (first | exact want_n | exact want_g rfl (by with_reducible rfl)))) | (apply Ws; (focus (exact oi_st (f := intA) rfl rfl rfl (by first | rfl | assumption | omega | (simp; done) | (simp; omega)) (by first | rfl | assumption | omega | (simp; done) | (simp; omega)) rfl (fun _ => rfl) rfl rfl)); (focus (first | exact want_n | exact want_g rfl (by with_reducible rfl)))) | (first | (apply Wv; (focus (first | exact step_ok rfl rfl | exact o_idx rfl rfl rfl rfl (by first | assumption | omega | decide) | exact o_idx3 rfl rfl rfl rfl (by first | assumption | omega | decide) | exact o_idx2 rfl rfl rfl rfl rfl (by first | assumption | omega | decide) | exact o_idxr rfl rfl rfl rfl rfl rfl | exact o_lenm rfl rfl rfl | exact o_len rfl rfl rfl | exact o_len0 rfl rfl rfl | exact o_lens rfl rfl rfl | exact o_lent rfl rfl | exact o_add1 rfl rfl rfl (by omega) | exact o_addn rfl rfl rfl (by omega) | exact o_add rfl rfl rfl (by omega) | exact o_sub1 rfl rfl rfl (by omega) | exact o_sub rfl rfl rfl (by omega) | exact o_mul rfl rfl rfl (by omega) | exact o_rem rfl rfl rfl (by omega) | exact ok_rem rfl rfl rfl (by decide) rfl | exact o_eqKey rfl rfl rfl | exact o_neKey rfl rfl rfl | exact o_eqVl rfl rfl rfl | exact o_neVl rfl rfl rfl | exact o_eqEnt rfl rfl rfl | exact o_neEnt rfl rfl rfl | exact o_eqMsg rfl rfl rfl | exact o_neMsg rfl rfl rfl | exact o_acall rfl rfl rfl rfl (by assumption) | exact o_minn rfl rfl rfl | exact o_cutl rfl rfl rfl rfl (by omega) | exact o_cuth rfl rfl rfl rfl (by omega) | exact o_cutl3 rfl rfl rfl rfl (by omega) | exact o_cuth3 rfl rfl rfl rfl (by omega) | exact o_cutl2 rfl rfl rfl rfl rfl (by omega) | exact o_cuth2 rfl rfl rfl rfl rfl (by omega) | exact o_cutlh2 rfl rfl rfl rfl rfl rfl rfl (by omega) (by omega) | exact o_bld zero_Opn rfl rfl rfl rfl rfl rfl rfl | exact o_bld zero_Cal rfl rfl rfl rfl rfl rfl rfl | exact o_bld zero_state rfl rfl rfl rfl rfl rfl rfl | exact o_bld zero_search rfl rfl rfl rfl rfl rfl rfl | exact o_nilcr rfl rfl | exact o_nilcp rfl rfl | exact o_eqbar rfl rfl rfl (by simp) (by simp) | exact o_ldbar rfl rfl (by simp) rfl (by first | omega | (simp; omega)) rfl | exact o_idxpn rfl rfl rfl rfl (by omega) | exact o_idxvn rfl rfl rfl rfl (by omega) (by assumption) rfl | exact o_idxrn rfl rfl rfl rfl (by omega) (by assumption) | exact o_cutarr rfl rfl rfl rfl | exact o_mkfn rfl rfl rfl | exact o_callv rfl rfl rfl rfl rfl rfl (by assumption) | exact o_bld zero_Ans rfl rfl rfl rfl rfl rfl rfl | exact o_eqAns rfl rfl rfl | exact o_neAns rfl rfl rfl | exact e_bld rfl rfl rfl | exact e_bldk rfl rfl | exact z_bld0 rfl rfl rfl rfl rfl | exact z_bld rfl rfl rfl rfl rfl rfl rfl | exact o_addu rfl rfl rfl | exact z_blda rfl rfl rfl rfl rfl rfl rfl rfl rfl | exact o_idxa rfl rfl rfl rfl rfl rfl | exact o_idxra rfl rfl rfl rfl rfl rfl rfl | exact o_quo2 rfl rfl rfl (by omega) | exact o_quo rfl rfl rfl (by omega))); (focus (first | exact want_n | exact want_g rfl (by with_reducible rfl)))) | (apply Wb; (focus (first | exact o_box rfl rfl rfl rfl | exact o_app rfl rfl rfl rfl rfl (by first | exact o_many rfl | exact o_one _ _ rfl) (by first | omega | (simp; omega) | simp) (by first | omega | (simp; omega) | simp) | exact o_appn rfl rfl rfl rfl rfl (by first | exact o_many rfl | exact o_one _ _ rfl) (by first | omega | (simp; omega) | simp) (by first | omega | (simp; omega) | simp) | exact o_app1 rfl rfl rfl rfl rfl (by first | exact o_many rfl | exact o_one _ _ rfl) (by exact rfl) (by first | omega | (simp; omega) | simp) (by first | omega | (simp; omega) | simp) | exact o_app0 rfl rfl rfl rfl rfl (by first | exact o_many rfl | exact o_one _ _ rfl) (by first | omega | (simp; omega) | simp) (by first | omega | (simp; omega) | simp) | exact o_bsl0 rfl rfl rfl | exact z_bsll rfl rfl rfl rfl rfl rfl rfl rfl rfl | exact z_alloc rfl rfl rfl | exact o_alloc zero_Opn rfl rfl | exact o_alloc zero_Cal rfl rfl | exact o_alloc zero_state rfl rfl | exact o_alloc zero_b14 rfl rfl | exact o_cpents rfl rfl rfl rfl rfl rfl (by omega) | exact o_alloc zero_Ans rfl rfl | exact o_bsll zero_Ans rfl rfl rfl rfl rfl rfl rfl rfl | exact o_bsll zero_Opn rfl rfl rfl rfl rfl rfl rfl rfl)); (focus (first | exact want_n | exact want_g rfl (by with_reducible rfl)))) | (apply Ws; (focus (first | exact o_stin rfl (by simp) rfl rfl (by first | omega | (simp; omega)) rfl | exact o_stbar rfl (by simp) rfl rfl (by first | omega | (simp; omega)) rfl | exact ok_store tabT (d := none) rfl rfl rfl rfl rfl rfl rfl rfl rfl rfl)); (focus (first | exact want_n | exact want_g rfl (by with_reducible rfl)))) | (refine Wskip (by first | exact want_f rfl (by with_reducible exact b_nt) | exact want_f rfl (by with_reducible exact b_nf) | exact want_t rfl) rfl ?_) | refine Wgt rfl rfl (by first | assumption | omega | exact rfl) ?_ | refine Wgf rfl rfl (by first | assumption | omega | exact rfl) ?_ | (refine Wgb rfl rfl (by with_reducible assumption) ?_) | (refine cb_is _ (by assumption) ?_)))))
      (apply Wv; (focus (apply o_call Try.func20 (cr) rfl (by decide +kernel) rfl rfl; (any_goals (intro _; (repeat (first | exact wkl0 | refine wkd rfl ?_ | refine wkt ?_ | refine wkn ?_)); done)); (any_goals rfl))); (focus (first | exact want_n | exact want_g rfl (by with_reducible rfl))))
      refine wOI ?_
      exact fin ⟨res_of rfl rfl rfl, trivial⟩
theorem lineMany_walk (v0 : Value) (l0 : List (Int)) (n1 : Int) (w : World) (s0 : Sl ie 1 w v0 l0) (g0 : ∀ n ∈ l0, -9223372036854775808 ≤ n ∧ n ≤ 9223372036854775807) (z0 : l0.length ≤ 17592186043904) (b1 : -9223372036854775808 ≤ n1 ∧ n1 ≤ 9223372036854775807) :
    Calls Try.prog 7 #[v0, .int .i64 n1] w (Is w (.bool true)) :=
  law_of (a_lmany l0 g0 z0 n1 b1) (rdp_cons rfl (ints_in s0) (rdp_cons rfl int_in rdp_nil'))
end Go.Proofs.Ytphojngdgmnpaaa
