/-
  M6: several texts as one: Codec5, LawVal, LawMsgs, LawEnts, NodeLaw, NodeWalks2, NodeFacts, Codec9, Codec10, Codec11, Codec12, Codec13, CodecRT, StructIn, NodeIn. No condition beyond those that each theorem states.
-/
import Derived.Test.YtcmdhpinelnclaaM5
import Derived.Laws.IdiomStrings
import Derived.OpenShut
import Derived.Deep.Slices
import Derived.Deep.Strs
import Derived.WideShapes
namespace Go.Proofs.Ytcmdhpinelnclaa
open Go Go.RowKit
set_option linter.unusedVariables false
set_option linter.unusedSimpArgs false
set_option maxRecDepth 100000

theorem put4_nil {α : Type} (xs : List α) (off : Nat) : put4 xs off [] = xs := by simp [put4]
theorem put4_set {α : Type} (xs : List α) (off : Nat) (s : List α) (j : Nat) (h : j < s.length) (hf : off + s.length ≤ xs.length) : put4 xs off (s.take (j + 1)) = (put4 xs off (s.take j)).set (off + j) s[j] := by
  apply List.ext_getElem?
  intro k
  have l1 : (s.take j).length = j := by rw [List.length_take]; omega
  have l2 : (s.take (j + 1)).length = j + 1 := by rw [List.length_take]; omega
  have l3 : (xs.take off).length = off := by rw [List.length_take]; omega
  have hp := put4_len xs off (s.take j) (by omega)
  rw [List.getElem?_set]
  unfold put4 at hp ⊢
  by_cases c1 : k < off
  · rw [if_neg (by omega), List.getElem?_append_left (by omega), List.getElem?_append_left (by omega)]
  · rw [List.getElem?_append_right (by omega), l3]
    by_cases c2 : off + j = k
    · subst c2
      rw [if_pos rfl, if_pos (by omega), List.getElem?_append_left (by omega), List.getElem?_take, if_pos (by omega)]
      rw [show off + j - off = j by omega]
      exact List.getElem?_eq_getElem h
    · rw [if_neg c2, show (xs.take off ++ (s.take j ++ xs.drop (off + (s.take j).length)))[k]? = (s.take j ++ xs.drop (off + (s.take j).length))[k - (xs.take off).length]? from List.getElem?_append_right (by omega), l3]
      by_cases c3 : k - off < j
      · rw [List.getElem?_append_left (by omega), List.getElem?_append_left (by omega), List.getElem?_take, List.getElem?_take, if_pos (by omega), if_pos (by omega)]
      · rw [List.getElem?_append_right (by omega), List.getElem?_append_right (by omega), List.getElem?_drop, List.getElem?_drop]
        congr 1
        omega
attribute [local irreducible] OpOK AWops AW CondB Go2 AFn thenA inBlockA noGotoA orderOk wantedA
set_option maxRecDepth 100000 in
set_option maxHeartbeats 16000000 in
theorem a_refencode (n : Nd) (h : n.Sm) : AFn Try.prog 20 [n.av] (.tup [bytesA (encode n).1, intA (encode n).2]) := by
  have c0 := a_ref09fits n h
  cases hf : nodeFits n with
  | false =>
    rw [hf] at c0
    unfold encode
    rw [hf, if_neg (by simp)]
    refine AFn_intro Try.func20 rfl Try.ntmps20 rfl (by simp) [_, _] rfl fun E hE => ?_; have hnt : (!true) = false := rfl; have hnf : (!false) = true := rfl
    have d0 := acall Try.func21 (c0) (by decide +kernel) (by decide +kernel)
    refine wY ?_
    exact fin ⟨res_nil rfl, res_of rfl rfl rfl, trivial⟩
  | true =>
    rw [hf] at c0
    have hn := fits_ndr hf
    have hb := body_len hf
    have hrl := rawB_len hf
    have e1 : (encode n).1 = encB n := by unfold encode; rw [if_pos hf]
    have e2 : (encode n).2 = 0 := by unfold encode; rw [if_pos hf]
    rw [e1, e2]
    clear e1 e2
    have hhl := headB_len n
    have hel : (encB n).length = (rawB n).length := by rw [encB_len hf, hrl]
    have c2 := c_refsum (rawB n)
    have c3 := a_refputnil ((sumL (rawB n)).setWidth 64) 4 (by omega) (by omega)
    obtain ⟨S4, hS4⟩ : ∃ S4, sum4 (rawB n) = S4 := ⟨_, rfl⟩
    have hs4 : S4.length = 4 := by rw [← hS4]; exact sum4_len _
    have hS4' : leBytes ((sumL (rawB n)).setWidth 64) 4 = S4 := hS4
    rw [hS4'] at c3
    have eE : put4 (rawB n) 4 S4 = encB n := by rw [← hS4]; rfl
    have eF : put4 (rawB n) 4 S4 = encB n := eE
    clear hS4 hS4'
    obtain ⟨leaf, es, ks, ps, ms⟩ := n
    obtain ⟨hes, hps, hms, hle, hlk, hlp, hlm⟩ := hn
    dsimp only at hes hps hms hle hlk hlp hlm
    obtain ⟨X0, hX0⟩ : ∃ X0, headB ⟨leaf, es, ks, ps, ms⟩ ++ List.replicate 4 0#8 = X0 := ⟨_, rfl⟩
    have x0 : X0.length = 8 := by rw [← hX0]; simp [headB_len]
    have e0 : X0 ++ bodyB ⟨leaf, es, ks, ps, ms⟩ = fl msgB (fl pivB (fl kidB (fl entB X0 es es.length) ks ks.length) ps ps.length) ms ms.length := by
      rw [fl_end, fl_end, fl_end, fl_end]; unfold bodyB; simp only [List.append_assoc]
    have b1 := fl_len entB X0 es (fun e he => entB_len (hes e he))
    generalize hX1 : fl entB X0 es es.length = X1 at e0
    have b1' : X1.length ≤ 1000 + 40 * 100000 := by have := b1 es.length; rw [hX1] at this; omega
    have b2 := fl_len kidB X1 ks (fun e he => by rw [kidB_len]; omega)
    generalize hX2 : fl kidB X1 ks ks.length = X2 at e0
    have b2' : X2.length ≤ 1000 + 80 * 100000 := by have := b2 ks.length; rw [hX2] at this; omega
    have b3 := fl_len pivB X2 ps (fun e he => pivB_len (hps e he))
    generalize hX3 : fl pivB X2 ps ps.length = X3 at e0
    have b3' : X3.length ≤ 1000 + 120 * 100000 := by have := b3 ps.length; rw [hX3] at this; omega
    have b4 := fl_len msgB X3 ms (fun e he => msgB_len (hms e he))
    generalize hX4 : fl msgB X3 ms ms.length = X4 at e0
    have x4 : X4.length = 8 + (bodyB ⟨leaf, es, ks, ps, ms⟩).length := by rw [← e0, List.length_append, x0]
    have eR : X4 ++ List.replicate (256 - X4.length) 0#8 = rawB ⟨leaf, es, ks, ps, ms⟩ := by
      rw [x4, ← e0, ← hX0]; unfold rawB; congr 2; omega
    generalize hRAW : rawB ⟨leaf, es, ks, ps, ms⟩ = RAW at *
    generalize hENC : encB ⟨leaf, es, ks, ps, ms⟩ = ENC at *
    cases leaf with
    | true =>
      have eh : X0 = [1#8, BitVec.ofInt 8 (es.length : Nat), BitVec.ofInt 8 (ms.length : Nat), 0#8, 0#8, 0#8, 0#8, 0#8] := by rw [← hX0]; rfl
      refine AFn_intro Try.func20 rfl Try.ntmps20 rfl (by simp) [_, _] rfl fun E hE => ?_; have hnt : (!true) = false := rfl; have hnf : (!false) = true := rfl
      have d0 := acall Try.func21 (c0) (by decide +kernel) (by decide +kernel)
      have dS := ccall Try.func37 (c2) (by decide +kernel) (by decide +kernel)
      have dP := acall Try.func43 (c3) (by decide +kernel) (by decide +kernel)
      refine wZ ?_
      (apply Wb; (focus (exact ob_bsl (f := byteA) (z := 0#8) [1#8, BitVec.ofInt 8 (es.length : Nat), BitVec.ofInt 8 (ms.length : Nat), 0#8, 0#8, 0#8, 0#8, 0#8] rfl rfl rfl rfl (by simp only [List.map_cons, List.map_nil, byte0, byte1, byte2]; exact rfl) (by exact rfl) (by intro H'; simp only [List.map_cons, List.map_nil]; (repeat (first | exact wkl0 | refine wkd rfl ?_ | refine wkt ?_ | refine wkn ?_)); done) (by exact rfl) (by exact rfl) (by exact rfl))); (focus (first | exact want_n | exact want_g rfl (by with_reducible rfl))))
      rw [← eh]
      refine wY ?_
      refine AW_loopI (fun j : Nat => ⟨[(1, .ptr 1 0 []), (6, .own 34 1 (fl entB X0 es j).length .row), (7, .v (.int .i64 (j : Nat)))], [(1, .var (Nd.av ⟨true, es, ks, ps, ms⟩)), (34, .own 5 1 ((fl entB X0 es j).map byteA))]⟩) (fun j => j ≤ es.length) (fun j => es.length - j) 0 (Nat.zero_le _) (by rw [fl_zero]; (refine Go2.sub ⟨?_, ?_, ?_⟩ <;> repeat' (first | exact True.intro | rfl | apply And.intro))) (fun j hj => ?_)
      by_cases hlt : j < es.length
      · have hlt' : (j : Int) < (es.length : Nat) := by omega
        have hr := hes es[j] (List.getElem_mem hlt)
        have hb := b1 j
        have hk := kyS_len hr.1
        have hv := vlS_len hr.2
        obtain ⟨⟨q1, q2⟩, q3, q4⟩ := hr
        have d0 := c_reftext (fl entB X0 es j) es[j].key.b.toList es[j].key.n (by omega) (by simp) q1 (by simp; omega)
        have d1 := c_reftext (fl entB X0 es j ++ [BitVec.ofInt 8 ((kyS es[j].key).length : Nat)] ++ kyS es[j].key) es[j].val.b.toList es[j].val.n (by simp only [List.length_append, List.length_singleton]; omega) (by simp) q3 (by simp; omega)
        have hs := fl_snoc entB X0 es j hlt
        rw [entB_split] at hs
        have d2 := ccall Try.func46 (d0) (by decide +kernel) (by decide +kernel)
        have d3 := ccall Try.func46 (d1) (by decide +kernel) (by decide +kernel)
        refine wRG ?_
        refine thenA_n ?_
        refine wRG ?_
        refine thenA_n ?_
        refine wRG ?_
        refine thenA_n ?_
        refine AW_go (Go2.frozB 8 rfl) ?_
        refine wY ?_
        (apply WcN [34] [34]; (focus (exact o_ccall [(1000, 34)] d2 rfl rfl rfl rfl (by repeat (first | exact .nil | refine .cons (.inl ⟨rfl, rfl⟩) ?_ | refine .cons (.inr ⟨rfl, fun _ => Wk.tok⟩) ?_)) (by repeat' (first | exact True.intro | rfl | apply And.intro)) (by repeat' (first | exact True.intro | rfl | apply And.intro)) rfl rfl rfl)); (focus (exact rfl)); (focus (exact rfl)); (focus (first | exact want_n | exact want_g rfl (by with_reducible rfl))))
        refine wY ?_
        (apply WcN [34] [34]; (focus (exact o_ccall [(1000, 34)] d3 rfl rfl rfl rfl (by repeat (first | exact .nil | refine .cons (.inl ⟨rfl, rfl⟩) ?_ | refine .cons (.inr ⟨rfl, fun _ => Wk.tok⟩) ?_)) (by repeat' (first | exact True.intro | rfl | apply And.intro)) (by repeat' (first | exact True.intro | rfl | apply And.intro)) rfl rfl rfl)); (focus (exact rfl)); (focus (exact rfl)); (focus (first | exact want_n | exact want_g rfl (by with_reducible rfl))))
        refine wY ?_
        refine ⟨j + 1, by omega, by omega, ?_⟩
        rw [hs]
        (refine Go2.sub ⟨?_, ?_, ?_⟩ <;> repeat' (first | exact True.intro | rfl | apply And.intro))
      obtain rfl : j = es.length := by omega
      have hlt' : ¬ (es.length : Int) < (es.length : Nat) := by omega
      rw [hX1]
      refine wY ?_
      clear hlt hlt' hj
      refine AW_loopI (fun j : Nat => ⟨[(1, .ptr 1 0 []), (6, .own 34 1 (fl kidB X1 ks j).length .row), (9, .v (.int .i64 (j : Nat)))], [(1, .var (Nd.av ⟨true, es, ks, ps, ms⟩)), (34, .own 5 1 ((fl kidB X1 ks j).map byteA))]⟩) (fun j => j ≤ ks.length) (fun j => ks.length - j) 0 (Nat.zero_le _) (by rw [fl_zero]; (refine Go2.sub ⟨?_, ?_, ?_⟩ <;> repeat' (first | exact True.intro | rfl | apply And.intro))) (fun j hj => ?_)
      by_cases hlt : j < ks.length
      · have hlt' : (j : Int) < (ks.length : Nat) := by omega
        have hb := b2 j
        have d0 := c_refput (fl kidB X1 ks j) (BitVec.ofInt 64 ks[j]) 4 (by omega) (by omega) (by omega)
        have hs : fl kidB X1 ks (j + 1) = fl kidB X1 ks j ++ leBytes (BitVec.ofInt 64 ks[j]) 4 := fl_snoc kidB X1 ks j hlt
        have d2 := ccall Try.func43 (d0) (by decide +kernel) (by decide +kernel)
        refine wY ?_
        (apply WcN [34] [34]; (focus (exact o_ccall [(1000, 34)] d2 rfl rfl rfl rfl (by repeat (first | exact .nil | refine .cons (.inl ⟨rfl, rfl⟩) ?_ | refine .cons (.inr ⟨rfl, fun _ => Wk.tok⟩) ?_)) (by repeat' (first | exact True.intro | rfl | apply And.intro)) (by repeat' (first | exact True.intro | rfl | apply And.intro)) rfl rfl rfl)); (focus (exact rfl)); (focus (exact rfl)); (focus (first | exact want_n | exact want_g rfl (by with_reducible rfl))))
        refine wY ?_
        refine ⟨j + 1, by omega, by omega, ?_⟩
        rw [hs]
        (refine Go2.sub ⟨?_, ?_, ?_⟩ <;> repeat' (first | exact True.intro | rfl | apply And.intro))
      obtain rfl : j = ks.length := by omega
      have hlt' : ¬ (ks.length : Int) < (ks.length : Nat) := by omega
      rw [hX2]
      refine wY ?_
      clear hlt hlt' hj
      refine AW_loopI (fun j : Nat => ⟨[(1, .ptr 1 0 []), (6, .own 34 1 (fl pivB X2 ps j).length .row), (10, .v (.int .i64 (j : Nat)))], [(1, .var (Nd.av ⟨true, es, ks, ps, ms⟩)), (34, .own 5 1 ((fl pivB X2 ps j).map byteA))]⟩) (fun j => j ≤ ps.length) (fun j => ps.length - j) 0 (Nat.zero_le _) (by rw [fl_zero]; (refine Go2.sub ⟨?_, ?_, ?_⟩ <;> repeat' (first | exact True.intro | rfl | apply And.intro))) (fun j hj => ?_)
      by_cases hlt : j < ps.length
      · have hlt' : (j : Int) < (ps.length : Nat) := by omega
        have hr := hps ps[j] (List.getElem_mem hlt)
        have hb := b3 j
        have hk := kyS_len hr
        obtain ⟨q1, q2⟩ := hr
        have d0 := c_reftext (fl pivB X2 ps j) ps[j].b.toList ps[j].n (by omega) (by simp) q1 (by simp; omega)
        have hs := fl_snoc pivB X2 ps j hlt
        rw [pivB_split] at hs
        have d2 := ccall Try.func46 (d0) (by decide +kernel) (by decide +kernel)
        refine wY ?_
        (apply WcN [34] [34]; (focus (exact o_ccall [(1000, 34)] d2 rfl rfl rfl rfl (by repeat (first | exact .nil | refine .cons (.inl ⟨rfl, rfl⟩) ?_ | refine .cons (.inr ⟨rfl, fun _ => Wk.tok⟩) ?_)) (by repeat' (first | exact True.intro | rfl | apply And.intro)) (by repeat' (first | exact True.intro | rfl | apply And.intro)) rfl rfl rfl)); (focus (exact rfl)); (focus (exact rfl)); (focus (first | exact want_n | exact want_g rfl (by with_reducible rfl))))
        refine wY ?_
        refine ⟨j + 1, by omega, by omega, ?_⟩
        rw [hs]
        (refine Go2.sub ⟨?_, ?_, ?_⟩ <;> repeat' (first | exact True.intro | rfl | apply And.intro))
      obtain rfl : j = ps.length := by omega
      have hlt' : ¬ (ps.length : Int) < (ps.length : Nat) := by omega
      rw [hX3]
      refine wY ?_
      clear hlt hlt' hj
      refine AW_loopI (fun j : Nat => ⟨[(1, .ptr 1 0 []), (6, .own 34 1 (fl msgB X3 ms j).length .row), (11, .v (.int .i64 (j : Nat)))], [(1, .var (Nd.av ⟨true, es, ks, ps, ms⟩)), (34, .own 5 1 ((fl msgB X3 ms j).map byteA))]⟩) (fun j => j ≤ ms.length) (fun j => ms.length - j) 0 (Nat.zero_le _) (by rw [fl_zero]; (refine Go2.sub ⟨?_, ?_, ?_⟩ <;> repeat' (first | exact True.intro | rfl | apply And.intro))) (fun j hj => ?_)
      by_cases hlt : j < ms.length
      · have hlt' : (j : Int) < (ms.length : Nat) := by omega
        have hr := hms ms[j] (List.getElem_mem hlt)
        have hb := b4 j
        have hk := kyS_len hr.1
        have hv := vlS_len hr.2
        obtain ⟨⟨q1, q2⟩, q3, q4⟩ := hr
        have d0 := c_refput (fl msgB X3 ms j ++ [BitVec.ofInt 8 ms[j].kind]) ms[j].seq 8 (by simp only [List.length_append, List.length_singleton]; omega) (by omega) (by omega)
        have d1 := c_reftext (fl msgB X3 ms j ++ [BitVec.ofInt 8 ms[j].kind] ++ leBytes ms[j].seq 8) ms[j].key.b.toList ms[j].key.n (by simp only [List.length_append, List.length_singleton, leBytes_length]; omega) (by simp) q1 (by simp; omega)
        have hs := fl_snoc msgB X3 ms j hlt
        rw [msgB_split] at hs
        obtain ⟨Y, hY⟩ : ∃ Y, fl msgB X3 ms j ++ [BitVec.ofInt 8 ms[j].kind] ++ leBytes ms[j].seq 8 ++ [BitVec.ofInt 8 ((kyS ms[j].key).length : Nat)] ++ kyS ms[j].key = Y := ⟨_, rfl⟩
        have hYl : Y.length ≤ 17000000 := by rw [← hY]; simp only [List.length_append, List.length_singleton, leBytes_length]; omega
        rw [hY] at hs
        have hY' : fl msgB X3 ms j ++ [BitVec.ofInt 8 ms[j].kind] ++ leBytes ms[j].seq 8 ++ [BitVec.ofInt 8 ((ms[j].key.b.toList.take ms[j].key.n.toNat).length : Nat)] ++ ms[j].key.b.toList.take ms[j].key.n.toNat = Y := hY
        rw [hY'] at d1
        clear hY hY'
        have d2 := ccall Try.func43 (d0) (by decide +kernel) (by decide +kernel)
        have d3 := ccall Try.func46 (d1) (by decide +kernel) (by decide +kernel)
        refine wRG ?_
        refine thenA_n ?_
        refine wRG ?_
        refine thenA_n ?_
        refine wRG ?_
        refine thenA_n ?_
        refine AW_go (Go2.frozB 12 rfl) ?_
        by_cases k1 : ms[j].kind = 1
        · have n3 : ¬ ms[j].kind = 3 := by omega
          have d4 := c_reftext Y ms[j].val.b.toList ms[j].val.n (by omega) (by simp) q3 (by simp; omega)
          have d5 := ccall Try.func46 (d4) (by decide +kernel) (by decide +kernel)
          refine wY ?_
          (apply WcN [34] [34]; (focus (exact o_ccall [(1000, 34)] d2 rfl rfl rfl rfl (by repeat (first | exact .nil | refine .cons (.inl ⟨rfl, rfl⟩) ?_ | refine .cons (.inr ⟨rfl, fun _ => Wk.tok⟩) ?_)) (by repeat' (first | exact True.intro | rfl | apply And.intro)) (by repeat' (first | exact True.intro | rfl | apply And.intro)) rfl rfl rfl)); (focus (exact rfl)); (focus (exact rfl)); (focus (first | exact want_n | exact want_g rfl (by with_reducible rfl))))
          refine wY ?_
          (apply WcN [34] [34]; (focus (exact o_ccall [(1000, 34)] d3 rfl rfl rfl rfl (by repeat (first | exact .nil | refine .cons (.inl ⟨rfl, rfl⟩) ?_ | refine .cons (.inr ⟨rfl, fun _ => Wk.tok⟩) ?_)) (by repeat' (first | exact True.intro | rfl | apply And.intro)) (by repeat' (first | exact True.intro | rfl | apply And.intro)) rfl rfl rfl)); (focus (exact rfl)); (focus (exact rfl)); (focus (first | exact want_n | exact want_g rfl (by with_reducible rfl))))
          refine wY ?_
          (apply WcN [34] [34]; (focus (exact o_ccall [(1000, 34)] d5 rfl rfl rfl rfl (by repeat (first | exact .nil | refine .cons (.inl ⟨rfl, rfl⟩) ?_ | refine .cons (.inr ⟨rfl, fun _ => Wk.tok⟩) ?_)) (by repeat' (first | exact True.intro | rfl | apply And.intro)) (by repeat' (first | exact True.intro | rfl | apply And.intro)) rfl rfl rfl)); (focus (exact rfl)); (focus (exact rfl)); (focus (first | exact want_n | exact want_g rfl (by with_reducible rfl))))
          refine wY ?_
          refine ⟨j + 1, by omega, by omega, ?_⟩
          have he : restB ms[j] = [BitVec.ofInt 8 ((vlS ms[j].val).length : Nat)] ++ vlS ms[j].val := by unfold restB tx; rw [if_pos k1]
          rw [hs, he, ← List.append_assoc Y]
          (refine Go2.sub ⟨?_, ?_, ?_⟩ <;> repeat' (first | exact True.intro | rfl | apply And.intro))
        · by_cases k3 : ms[j].kind = 3
          · have d4 := c_refput Y ms[j].add 8 (by omega) (by omega) (by omega)
            have d5 := ccall Try.func43 (d4) (by decide +kernel) (by decide +kernel)
            refine wY ?_
            (apply WcN [34] [34]; (focus (exact o_ccall [(1000, 34)] d2 rfl rfl rfl rfl (by repeat (first | exact .nil | refine .cons (.inl ⟨rfl, rfl⟩) ?_ | refine .cons (.inr ⟨rfl, fun _ => Wk.tok⟩) ?_)) (by repeat' (first | exact True.intro | rfl | apply And.intro)) (by repeat' (first | exact True.intro | rfl | apply And.intro)) rfl rfl rfl)); (focus (exact rfl)); (focus (exact rfl)); (focus (first | exact want_n | exact want_g rfl (by with_reducible rfl))))
            refine wY ?_
            (apply WcN [34] [34]; (focus (exact o_ccall [(1000, 34)] d3 rfl rfl rfl rfl (by repeat (first | exact .nil | refine .cons (.inl ⟨rfl, rfl⟩) ?_ | refine .cons (.inr ⟨rfl, fun _ => Wk.tok⟩) ?_)) (by repeat' (first | exact True.intro | rfl | apply And.intro)) (by repeat' (first | exact True.intro | rfl | apply And.intro)) rfl rfl rfl)); (focus (exact rfl)); (focus (exact rfl)); (focus (first | exact want_n | exact want_g rfl (by with_reducible rfl))))
            refine wY ?_
            (apply WcN [34] [34]; (focus (exact o_ccall [(1000, 34)] d5 rfl rfl rfl rfl (by repeat (first | exact .nil | refine .cons (.inl ⟨rfl, rfl⟩) ?_ | refine .cons (.inr ⟨rfl, fun _ => Wk.tok⟩) ?_)) (by repeat' (first | exact True.intro | rfl | apply And.intro)) (by repeat' (first | exact True.intro | rfl | apply And.intro)) rfl rfl rfl)); (focus (exact rfl)); (focus (exact rfl)); (focus (first | exact want_n | exact want_g rfl (by with_reducible rfl))))
            refine wY ?_
            refine ⟨j + 1, by omega, by omega, ?_⟩
            have he : restB ms[j] = leBytes ms[j].add 8 := by unfold restB; rw [if_neg k1, if_pos k3]
            rw [hs, he]
            (refine Go2.sub ⟨?_, ?_, ?_⟩ <;> repeat' (first | exact True.intro | rfl | apply And.intro))
          · refine wY ?_
            (apply WcN [34] [34]; (focus (exact o_ccall [(1000, 34)] d2 rfl rfl rfl rfl (by repeat (first | exact .nil | refine .cons (.inl ⟨rfl, rfl⟩) ?_ | refine .cons (.inr ⟨rfl, fun _ => Wk.tok⟩) ?_)) (by repeat' (first | exact True.intro | rfl | apply And.intro)) (by repeat' (first | exact True.intro | rfl | apply And.intro)) rfl rfl rfl)); (focus (exact rfl)); (focus (exact rfl)); (focus (first | exact want_n | exact want_g rfl (by with_reducible rfl))))
            refine wY ?_
            (apply WcN [34] [34]; (focus (exact o_ccall [(1000, 34)] d3 rfl rfl rfl rfl (by repeat (first | exact .nil | refine .cons (.inl ⟨rfl, rfl⟩) ?_ | refine .cons (.inr ⟨rfl, fun _ => Wk.tok⟩) ?_)) (by repeat' (first | exact True.intro | rfl | apply And.intro)) (by repeat' (first | exact True.intro | rfl | apply And.intro)) rfl rfl rfl)); (focus (exact rfl)); (focus (exact rfl)); (focus (first | exact want_n | exact want_g rfl (by with_reducible rfl))))
            refine wY ?_
            refine ⟨j + 1, by omega, by omega, ?_⟩
            have he : restB ms[j] = [] := by unfold restB; rw [if_neg k1, if_neg k3]
            rw [hs, he, List.append_nil]
            (refine Go2.sub ⟨?_, ?_, ?_⟩ <;> repeat' (first | exact True.intro | rfl | apply And.intro))
      obtain rfl : j = ms.length := by omega
      have hlt' : ¬ (ms.length : Int) < (ms.length : Nat) := by omega
      rw [hX4]
      refine wY ?_
      clear hlt hlt' hj
      refine AW_loopI (fun j : Nat => ⟨[(1, .ptr 1 0 []), (6, .own 34 1 (X4 ++ List.replicate j 0#8).length .row)], [(1, .var (Nd.av ⟨true, es, ks, ps, ms⟩)), (34, .own 5 1 ((X4 ++ List.replicate j 0#8).map byteA))]⟩) (fun j => j ≤ 256 - X4.length) (fun j => 256 - X4.length - j) 0 (Nat.zero_le _) (by rw [List.replicate_zero, List.append_nil]; (refine Go2.sub ⟨?_, ?_, ?_⟩ <;> repeat' (first | exact True.intro | rfl | apply And.intro))) (fun j hj => ?_)
      have hjl : (X4 ++ List.replicate j 0#8).length = X4.length + j := by rw [List.length_append, List.length_replicate]
      by_cases hlt : j < 256 - X4.length
      · have hlt' : ((X4 ++ List.replicate j 0#8).length : Int) < 256 := by omega
        have hs : X4 ++ List.replicate (j + 1) 0#8 = X4 ++ List.replicate j 0#8 ++ [0#8] := by rw [List.replicate_succ', List.append_assoc]
        refine wY ?_
        refine ⟨j + 1, by omega, by omega, ?_⟩
        rw [hs]
        (refine Go2.sub ⟨?_, ?_, ?_⟩ <;> repeat' (first | exact True.intro | rfl | apply And.intro))
      obtain rfl : j = 256 - X4.length := by omega
      have hlt' : ¬ ((X4 ++ List.replicate (256 - X4.length) 0#8).length : Int) < 256 := by omega
      rw [eR] at hlt' ⊢
      refine wY ?_
      clear hlt hlt' hj hjl
      (apply WvN [34]; (focus (exact o_rcall [(1000, 34)] dS rfl rfl rfl rfl rfl (by repeat (first | exact .nil | refine .cons (.inl ⟨rfl, rfl⟩) ?_ | refine .cons (.inr ⟨rfl, fun _ => Wk.tok⟩) ?_)) (by repeat' (first | exact True.intro | rfl | apply And.intro)) (by repeat' (first | exact True.intro | rfl | apply And.intro)) rfl rfl)); (focus (exact rfl)); (focus (first | exact want_n | exact want_g rfl (by with_reducible rfl))))
      refine wY ?_
      refine AW_loopI (fun j : Nat => ⟨[(6, .own 34 1 RAW.length .row), (13, bytesA S4), (14, .v (.int .i64 (j : Nat)))], [(34, .own 5 1 ((put4 RAW 4 (S4.take j)).map byteA))]⟩) (fun j => j ≤ 4) (fun j => 4 - j) 0 (Nat.zero_le _) (by rw [List.take_zero, put4_nil]; (refine Go2.sub ⟨?_, ?_, ?_⟩ <;> repeat' (first | exact True.intro | rfl | apply And.intro))) (fun j hj => ?_)
      have hpl : (put4 RAW 4 (S4.take j)).length = RAW.length := put4_len _ _ _ (by rw [List.length_take]; omega)
      by_cases hlt : j < 4
      · have hlt' : (j : Int) < 4 := by omega
        have hj4 : j < S4.length := by omega
        have hs := put4_set RAW 4 S4 j hj4 (by omega)
        refine wY ?_
        refine ⟨j + 1, by omega, by omega, ?_⟩
        rw [hs]
        (refine Go2.sub ⟨?_, ?_, ?_⟩ <;> repeat' (first | exact True.intro | rfl | apply And.intro))
      obtain rfl : j = 4 := by omega
      have hlt' : ¬ (((4 : Nat) : Int) < 4) := by omega
      rw [List.take_of_length_le (by omega)]
      rw [List.take_of_length_le (by omega)] at hpl
      refine wRG ?_
      refine thenA_n ?_
      refine AW_go (S' := ⟨[(6, .own 34 1 (put4 RAW 4 S4).length .row), (158, .v (.bool (decide (((4 : Nat) : Int) < 4))))], [(34, .own 5 1 ((put4 RAW 4 S4).map byteA))]⟩) (by rw [hpl]; (refine Go2.sub ⟨?_, ?_, ?_⟩ <;> repeat' (first | exact True.intro | rfl | apply And.intro))) ?_
      refine AW_go (Go2.thaw (S' := ⟨[(6, .sl (some 34) 1 ((put4 RAW 4 S4).map byteA)), (158, .v (.bool (decide (((4 : Nat) : Int) < 4))))], [(34, .tail 5 1 ((put4 RAW 4 S4).map byteA).length)]⟩) 34 rfl (by repeat' (first | exact True.intro | rfl | apply And.intro | (simp; done))) (by repeat' (first | exact True.intro | rfl | apply And.intro | (simp; done))) rfl) ?_
      rw [eE]
      refine wY ?_
      exact fin ⟨res_sl rfl, res_of rfl rfl rfl, trivial⟩
    | false =>
      have eh : X0 = [2#8, BitVec.ofInt 8 (ks.length : Nat), BitVec.ofInt 8 (ms.length : Nat), 0#8, 0#8, 0#8, 0#8, 0#8] := by rw [← hX0]; rfl
      refine AFn_intro Try.func20 rfl Try.ntmps20 rfl (by simp) [_, _] rfl fun E hE => ?_; have hnt : (!true) = false := rfl; have hnf : (!false) = true := rfl
      have d0 := acall Try.func21 (c0) (by decide +kernel) (by decide +kernel)
      have dS := ccall Try.func37 (c2) (by decide +kernel) (by decide +kernel)
      have dP := acall Try.func43 (c3) (by decide +kernel) (by decide +kernel)
      refine wZ ?_
      (apply Wb; (focus (exact ob_bsl (f := byteA) (z := 0#8) [2#8, BitVec.ofInt 8 (ks.length : Nat), BitVec.ofInt 8 (ms.length : Nat), 0#8, 0#8, 0#8, 0#8, 0#8] rfl rfl rfl rfl (by simp only [List.map_cons, List.map_nil, byte0, byte1, byte2]; exact rfl) (by exact rfl) (by intro H'; simp only [List.map_cons, List.map_nil]; (repeat (first | exact wkl0 | refine wkd rfl ?_ | refine wkt ?_ | refine wkn ?_)); done) (by exact rfl) (by exact rfl) (by exact rfl))); (focus (first | exact want_n | exact want_g rfl (by with_reducible rfl))))
      rw [← eh]
      refine wY ?_
      refine AW_loopI (fun j : Nat => ⟨[(1, .ptr 1 0 []), (6, .own 34 1 (fl entB X0 es j).length .row), (7, .v (.int .i64 (j : Nat)))], [(1, .var (Nd.av ⟨false, es, ks, ps, ms⟩)), (34, .own 5 1 ((fl entB X0 es j).map byteA))]⟩) (fun j => j ≤ es.length) (fun j => es.length - j) 0 (Nat.zero_le _) (by rw [fl_zero]; (refine Go2.sub ⟨?_, ?_, ?_⟩ <;> repeat' (first | exact True.intro | rfl | apply And.intro))) (fun j hj => ?_)
      by_cases hlt : j < es.length
      · have hlt' : (j : Int) < (es.length : Nat) := by omega
        have hr := hes es[j] (List.getElem_mem hlt)
        have hb := b1 j
        have hk := kyS_len hr.1
        have hv := vlS_len hr.2
        obtain ⟨⟨q1, q2⟩, q3, q4⟩ := hr
        have d0 := c_reftext (fl entB X0 es j) es[j].key.b.toList es[j].key.n (by omega) (by simp) q1 (by simp; omega)
        have d1 := c_reftext (fl entB X0 es j ++ [BitVec.ofInt 8 ((kyS es[j].key).length : Nat)] ++ kyS es[j].key) es[j].val.b.toList es[j].val.n (by simp only [List.length_append, List.length_singleton]; omega) (by simp) q3 (by simp; omega)
        have hs := fl_snoc entB X0 es j hlt
        rw [entB_split] at hs
        have d2 := ccall Try.func46 (d0) (by decide +kernel) (by decide +kernel)
        have d3 := ccall Try.func46 (d1) (by decide +kernel) (by decide +kernel)
        refine wRG ?_
        refine thenA_n ?_
        refine wRG ?_
        refine thenA_n ?_
        refine wRG ?_
        refine thenA_n ?_
        refine AW_go (Go2.frozB 8 rfl) ?_
        refine wY ?_
        (apply WcN [34] [34]; (focus (exact o_ccall [(1000, 34)] d2 rfl rfl rfl rfl (by repeat (first | exact .nil | refine .cons (.inl ⟨rfl, rfl⟩) ?_ | refine .cons (.inr ⟨rfl, fun _ => Wk.tok⟩) ?_)) (by repeat' (first | exact True.intro | rfl | apply And.intro)) (by repeat' (first | exact True.intro | rfl | apply And.intro)) rfl rfl rfl)); (focus (exact rfl)); (focus (exact rfl)); (focus (first | exact want_n | exact want_g rfl (by with_reducible rfl))))
        refine wY ?_
        (apply WcN [34] [34]; (focus (exact o_ccall [(1000, 34)] d3 rfl rfl rfl rfl (by repeat (first | exact .nil | refine .cons (.inl ⟨rfl, rfl⟩) ?_ | refine .cons (.inr ⟨rfl, fun _ => Wk.tok⟩) ?_)) (by repeat' (first | exact True.intro | rfl | apply And.intro)) (by repeat' (first | exact True.intro | rfl | apply And.intro)) rfl rfl rfl)); (focus (exact rfl)); (focus (exact rfl)); (focus (first | exact want_n | exact want_g rfl (by with_reducible rfl))))
        refine wY ?_
        refine ⟨j + 1, by omega, by omega, ?_⟩
        rw [hs]
        (refine Go2.sub ⟨?_, ?_, ?_⟩ <;> repeat' (first | exact True.intro | rfl | apply And.intro))
      obtain rfl : j = es.length := by omega
      have hlt' : ¬ (es.length : Int) < (es.length : Nat) := by omega
      rw [hX1]
      refine wY ?_
      clear hlt hlt' hj
      refine AW_loopI (fun j : Nat => ⟨[(1, .ptr 1 0 []), (6, .own 34 1 (fl kidB X1 ks j).length .row), (9, .v (.int .i64 (j : Nat)))], [(1, .var (Nd.av ⟨false, es, ks, ps, ms⟩)), (34, .own 5 1 ((fl kidB X1 ks j).map byteA))]⟩) (fun j => j ≤ ks.length) (fun j => ks.length - j) 0 (Nat.zero_le _) (by rw [fl_zero]; (refine Go2.sub ⟨?_, ?_, ?_⟩ <;> repeat' (first | exact True.intro | rfl | apply And.intro))) (fun j hj => ?_)
      by_cases hlt : j < ks.length
      · have hlt' : (j : Int) < (ks.length : Nat) := by omega
        have hb := b2 j
        have d0 := c_refput (fl kidB X1 ks j) (BitVec.ofInt 64 ks[j]) 4 (by omega) (by omega) (by omega)
        have hs : fl kidB X1 ks (j + 1) = fl kidB X1 ks j ++ leBytes (BitVec.ofInt 64 ks[j]) 4 := fl_snoc kidB X1 ks j hlt
        have d2 := ccall Try.func43 (d0) (by decide +kernel) (by decide +kernel)
        refine wY ?_
        (apply WcN [34] [34]; (focus (exact o_ccall [(1000, 34)] d2 rfl rfl rfl rfl (by repeat (first | exact .nil | refine .cons (.inl ⟨rfl, rfl⟩) ?_ | refine .cons (.inr ⟨rfl, fun _ => Wk.tok⟩) ?_)) (by repeat' (first | exact True.intro | rfl | apply And.intro)) (by repeat' (first | exact True.intro | rfl | apply And.intro)) rfl rfl rfl)); (focus (exact rfl)); (focus (exact rfl)); (focus (first | exact want_n | exact want_g rfl (by with_reducible rfl))))
        refine wY ?_
        refine ⟨j + 1, by omega, by omega, ?_⟩
        rw [hs]
        (refine Go2.sub ⟨?_, ?_, ?_⟩ <;> repeat' (first | exact True.intro | rfl | apply And.intro))
      obtain rfl : j = ks.length := by omega
      have hlt' : ¬ (ks.length : Int) < (ks.length : Nat) := by omega
      rw [hX2]
      refine wY ?_
      clear hlt hlt' hj
      refine AW_loopI (fun j : Nat => ⟨[(1, .ptr 1 0 []), (6, .own 34 1 (fl pivB X2 ps j).length .row), (10, .v (.int .i64 (j : Nat)))], [(1, .var (Nd.av ⟨false, es, ks, ps, ms⟩)), (34, .own 5 1 ((fl pivB X2 ps j).map byteA))]⟩) (fun j => j ≤ ps.length) (fun j => ps.length - j) 0 (Nat.zero_le _) (by rw [fl_zero]; (refine Go2.sub ⟨?_, ?_, ?_⟩ <;> repeat' (first | exact True.intro | rfl | apply And.intro))) (fun j hj => ?_)
      by_cases hlt : j < ps.length
      · have hlt' : (j : Int) < (ps.length : Nat) := by omega
        have hr := hps ps[j] (List.getElem_mem hlt)
        have hb := b3 j
        have hk := kyS_len hr
        obtain ⟨q1, q2⟩ := hr
        have d0 := c_reftext (fl pivB X2 ps j) ps[j].b.toList ps[j].n (by omega) (by simp) q1 (by simp; omega)
        have hs := fl_snoc pivB X2 ps j hlt
        rw [pivB_split] at hs
        have d2 := ccall Try.func46 (d0) (by decide +kernel) (by decide +kernel)
        refine wY ?_
        (apply WcN [34] [34]; (focus (exact o_ccall [(1000, 34)] d2 rfl rfl rfl rfl (by repeat (first | exact .nil | refine .cons (.inl ⟨rfl, rfl⟩) ?_ | refine .cons (.inr ⟨rfl, fun _ => Wk.tok⟩) ?_)) (by repeat' (first | exact True.intro | rfl | apply And.intro)) (by repeat' (first | exact True.intro | rfl | apply And.intro)) rfl rfl rfl)); (focus (exact rfl)); (focus (exact rfl)); (focus (first | exact want_n | exact want_g rfl (by with_reducible rfl))))
        refine wY ?_
        refine ⟨j + 1, by omega, by omega, ?_⟩
        rw [hs]
        (refine Go2.sub ⟨?_, ?_, ?_⟩ <;> repeat' (first | exact True.intro | rfl | apply And.intro))
      obtain rfl : j = ps.length := by omega
      have hlt' : ¬ (ps.length : Int) < (ps.length : Nat) := by omega
      rw [hX3]
      refine wY ?_
      clear hlt hlt' hj
      refine AW_loopI (fun j : Nat => ⟨[(1, .ptr 1 0 []), (6, .own 34 1 (fl msgB X3 ms j).length .row), (11, .v (.int .i64 (j : Nat)))], [(1, .var (Nd.av ⟨false, es, ks, ps, ms⟩)), (34, .own 5 1 ((fl msgB X3 ms j).map byteA))]⟩) (fun j => j ≤ ms.length) (fun j => ms.length - j) 0 (Nat.zero_le _) (by rw [fl_zero]; (refine Go2.sub ⟨?_, ?_, ?_⟩ <;> repeat' (first | exact True.intro | rfl | apply And.intro))) (fun j hj => ?_)
      by_cases hlt : j < ms.length
      · have hlt' : (j : Int) < (ms.length : Nat) := by omega
        have hr := hms ms[j] (List.getElem_mem hlt)
        have hb := b4 j
        have hk := kyS_len hr.1
        have hv := vlS_len hr.2
        obtain ⟨⟨q1, q2⟩, q3, q4⟩ := hr
        have d0 := c_refput (fl msgB X3 ms j ++ [BitVec.ofInt 8 ms[j].kind]) ms[j].seq 8 (by simp only [List.length_append, List.length_singleton]; omega) (by omega) (by omega)
        have d1 := c_reftext (fl msgB X3 ms j ++ [BitVec.ofInt 8 ms[j].kind] ++ leBytes ms[j].seq 8) ms[j].key.b.toList ms[j].key.n (by simp only [List.length_append, List.length_singleton, leBytes_length]; omega) (by simp) q1 (by simp; omega)
        have hs := fl_snoc msgB X3 ms j hlt
        rw [msgB_split] at hs
        obtain ⟨Y, hY⟩ : ∃ Y, fl msgB X3 ms j ++ [BitVec.ofInt 8 ms[j].kind] ++ leBytes ms[j].seq 8 ++ [BitVec.ofInt 8 ((kyS ms[j].key).length : Nat)] ++ kyS ms[j].key = Y := ⟨_, rfl⟩
        have hYl : Y.length ≤ 17000000 := by rw [← hY]; simp only [List.length_append, List.length_singleton, leBytes_length]; omega
        rw [hY] at hs
        have hY' : fl msgB X3 ms j ++ [BitVec.ofInt 8 ms[j].kind] ++ leBytes ms[j].seq 8 ++ [BitVec.ofInt 8 ((ms[j].key.b.toList.take ms[j].key.n.toNat).length : Nat)] ++ ms[j].key.b.toList.take ms[j].key.n.toNat = Y := hY
        rw [hY'] at d1
        clear hY hY'
        have d2 := ccall Try.func43 (d0) (by decide +kernel) (by decide +kernel)
        have d3 := ccall Try.func46 (d1) (by decide +kernel) (by decide +kernel)
        refine wRG ?_
        refine thenA_n ?_
        refine wRG ?_
        refine thenA_n ?_
        refine wRG ?_
        refine thenA_n ?_
        refine AW_go (Go2.frozB 12 rfl) ?_
        by_cases k1 : ms[j].kind = 1
        · have n3 : ¬ ms[j].kind = 3 := by omega
          have d4 := c_reftext Y ms[j].val.b.toList ms[j].val.n (by omega) (by simp) q3 (by simp; omega)
          have d5 := ccall Try.func46 (d4) (by decide +kernel) (by decide +kernel)
          refine wY ?_
          (apply WcN [34] [34]; (focus (exact o_ccall [(1000, 34)] d2 rfl rfl rfl rfl (by repeat (first | exact .nil | refine .cons (.inl ⟨rfl, rfl⟩) ?_ | refine .cons (.inr ⟨rfl, fun _ => Wk.tok⟩) ?_)) (by repeat' (first | exact True.intro | rfl | apply And.intro)) (by repeat' (first | exact True.intro | rfl | apply And.intro)) rfl rfl rfl)); (focus (exact rfl)); (focus (exact rfl)); (focus (first | exact want_n | exact want_g rfl (by with_reducible rfl))))
          refine wY ?_
          (apply WcN [34] [34]; (focus (exact o_ccall [(1000, 34)] d3 rfl rfl rfl rfl (by repeat (first | exact .nil | refine .cons (.inl ⟨rfl, rfl⟩) ?_ | refine .cons (.inr ⟨rfl, fun _ => Wk.tok⟩) ?_)) (by repeat' (first | exact True.intro | rfl | apply And.intro)) (by repeat' (first | exact True.intro | rfl | apply And.intro)) rfl rfl rfl)); (focus (exact rfl)); (focus (exact rfl)); (focus (first | exact want_n | exact want_g rfl (by with_reducible rfl))))
          refine wY ?_
          (apply WcN [34] [34]; (focus (exact o_ccall [(1000, 34)] d5 rfl rfl rfl rfl (by repeat (first | exact .nil | refine .cons (.inl ⟨rfl, rfl⟩) ?_ | refine .cons (.inr ⟨rfl, fun _ => Wk.tok⟩) ?_)) (by repeat' (first | exact True.intro | rfl | apply And.intro)) (by repeat' (first | exact True.intro | rfl | apply And.intro)) rfl rfl rfl)); (focus (exact rfl)); (focus (exact rfl)); (focus (first | exact want_n | exact want_g rfl (by with_reducible rfl))))
          refine wY ?_
          refine ⟨j + 1, by omega, by omega, ?_⟩
          have he : restB ms[j] = [BitVec.ofInt 8 ((vlS ms[j].val).length : Nat)] ++ vlS ms[j].val := by unfold restB tx; rw [if_pos k1]
          rw [hs, he, ← List.append_assoc Y]
          (refine Go2.sub ⟨?_, ?_, ?_⟩ <;> repeat' (first | exact True.intro | rfl | apply And.intro))
        · by_cases k3 : ms[j].kind = 3
          · have d4 := c_refput Y ms[j].add 8 (by omega) (by omega) (by omega)
            have d5 := ccall Try.func43 (d4) (by decide +kernel) (by decide +kernel)
            refine wY ?_
            (apply WcN [34] [34]; (focus (exact o_ccall [(1000, 34)] d2 rfl rfl rfl rfl (by repeat (first | exact .nil | refine .cons (.inl ⟨rfl, rfl⟩) ?_ | refine .cons (.inr ⟨rfl, fun _ => Wk.tok⟩) ?_)) (by repeat' (first | exact True.intro | rfl | apply And.intro)) (by repeat' (first | exact True.intro | rfl | apply And.intro)) rfl rfl rfl)); (focus (exact rfl)); (focus (exact rfl)); (focus (first | exact want_n | exact want_g rfl (by with_reducible rfl))))
            refine wY ?_
            (apply WcN [34] [34]; (focus (exact o_ccall [(1000, 34)] d3 rfl rfl rfl rfl (by repeat (first | exact .nil | refine .cons (.inl ⟨rfl, rfl⟩) ?_ | refine .cons (.inr ⟨rfl, fun _ => Wk.tok⟩) ?_)) (by repeat' (first | exact True.intro | rfl | apply And.intro)) (by repeat' (first | exact True.intro | rfl | apply And.intro)) rfl rfl rfl)); (focus (exact rfl)); (focus (exact rfl)); (focus (first | exact want_n | exact want_g rfl (by with_reducible rfl))))
            refine wY ?_
            (apply WcN [34] [34]; (focus (exact o_ccall [(1000, 34)] d5 rfl rfl rfl rfl (by repeat (first | exact .nil | refine .cons (.inl ⟨rfl, rfl⟩) ?_ | refine .cons (.inr ⟨rfl, fun _ => Wk.tok⟩) ?_)) (by repeat' (first | exact True.intro | rfl | apply And.intro)) (by repeat' (first | exact True.intro | rfl | apply And.intro)) rfl rfl rfl)); (focus (exact rfl)); (focus (exact rfl)); (focus (first | exact want_n | exact want_g rfl (by with_reducible rfl))))
            refine wY ?_
            refine ⟨j + 1, by omega, by omega, ?_⟩
            have he : restB ms[j] = leBytes ms[j].add 8 := by unfold restB; rw [if_neg k1, if_pos k3]
            rw [hs, he]
            (refine Go2.sub ⟨?_, ?_, ?_⟩ <;> repeat' (first | exact True.intro | rfl | apply And.intro))
          · refine wY ?_
            (apply WcN [34] [34]; (focus (exact o_ccall [(1000, 34)] d2 rfl rfl rfl rfl (by repeat (first | exact .nil | refine .cons (.inl ⟨rfl, rfl⟩) ?_ | refine .cons (.inr ⟨rfl, fun _ => Wk.tok⟩) ?_)) (by repeat' (first | exact True.intro | rfl | apply And.intro)) (by repeat' (first | exact True.intro | rfl | apply And.intro)) rfl rfl rfl)); (focus (exact rfl)); (focus (exact rfl)); (focus (first | exact want_n | exact want_g rfl (by with_reducible rfl))))
            refine wY ?_
            (apply WcN [34] [34]; (focus (exact o_ccall [(1000, 34)] d3 rfl rfl rfl rfl (by repeat (first | exact .nil | refine .cons (.inl ⟨rfl, rfl⟩) ?_ | refine .cons (.inr ⟨rfl, fun _ => Wk.tok⟩) ?_)) (by repeat' (first | exact True.intro | rfl | apply And.intro)) (by repeat' (first | exact True.intro | rfl | apply And.intro)) rfl rfl rfl)); (focus (exact rfl)); (focus (exact rfl)); (focus (first | exact want_n | exact want_g rfl (by with_reducible rfl))))
            refine wY ?_
            refine ⟨j + 1, by omega, by omega, ?_⟩
            have he : restB ms[j] = [] := by unfold restB; rw [if_neg k1, if_neg k3]
            rw [hs, he, List.append_nil]
            (refine Go2.sub ⟨?_, ?_, ?_⟩ <;> repeat' (first | exact True.intro | rfl | apply And.intro))
      obtain rfl : j = ms.length := by omega
      have hlt' : ¬ (ms.length : Int) < (ms.length : Nat) := by omega
      rw [hX4]
      refine wY ?_
      clear hlt hlt' hj
      refine AW_loopI (fun j : Nat => ⟨[(1, .ptr 1 0 []), (6, .own 34 1 (X4 ++ List.replicate j 0#8).length .row)], [(1, .var (Nd.av ⟨false, es, ks, ps, ms⟩)), (34, .own 5 1 ((X4 ++ List.replicate j 0#8).map byteA))]⟩) (fun j => j ≤ 256 - X4.length) (fun j => 256 - X4.length - j) 0 (Nat.zero_le _) (by rw [List.replicate_zero, List.append_nil]; (refine Go2.sub ⟨?_, ?_, ?_⟩ <;> repeat' (first | exact True.intro | rfl | apply And.intro))) (fun j hj => ?_)
      have hjl : (X4 ++ List.replicate j 0#8).length = X4.length + j := by rw [List.length_append, List.length_replicate]
      by_cases hlt : j < 256 - X4.length
      · have hlt' : ((X4 ++ List.replicate j 0#8).length : Int) < 256 := by omega
        have hs : X4 ++ List.replicate (j + 1) 0#8 = X4 ++ List.replicate j 0#8 ++ [0#8] := by rw [List.replicate_succ', List.append_assoc]
        refine wY ?_
        refine ⟨j + 1, by omega, by omega, ?_⟩
        rw [hs]
        (refine Go2.sub ⟨?_, ?_, ?_⟩ <;> repeat' (first | exact True.intro | rfl | apply And.intro))
      obtain rfl : j = 256 - X4.length := by omega
      have hlt' : ¬ ((X4 ++ List.replicate (256 - X4.length) 0#8).length : Int) < 256 := by omega
      rw [eR] at hlt' ⊢
      refine wY ?_
      clear hlt hlt' hj hjl
      (apply WvN [34]; (focus (exact o_rcall [(1000, 34)] dS rfl rfl rfl rfl rfl (by repeat (first | exact .nil | refine .cons (.inl ⟨rfl, rfl⟩) ?_ | refine .cons (.inr ⟨rfl, fun _ => Wk.tok⟩) ?_)) (by repeat' (first | exact True.intro | rfl | apply And.intro)) (by repeat' (first | exact True.intro | rfl | apply And.intro)) rfl rfl)); (focus (exact rfl)); (focus (first | exact want_n | exact want_g rfl (by with_reducible rfl))))
      refine wY ?_
      refine AW_loopI (fun j : Nat => ⟨[(6, .own 34 1 RAW.length .row), (13, bytesA S4), (14, .v (.int .i64 (j : Nat)))], [(34, .own 5 1 ((put4 RAW 4 (S4.take j)).map byteA))]⟩) (fun j => j ≤ 4) (fun j => 4 - j) 0 (Nat.zero_le _) (by rw [List.take_zero, put4_nil]; (refine Go2.sub ⟨?_, ?_, ?_⟩ <;> repeat' (first | exact True.intro | rfl | apply And.intro))) (fun j hj => ?_)
      have hpl : (put4 RAW 4 (S4.take j)).length = RAW.length := put4_len _ _ _ (by rw [List.length_take]; omega)
      by_cases hlt : j < 4
      · have hlt' : (j : Int) < 4 := by omega
        have hj4 : j < S4.length := by omega
        have hs := put4_set RAW 4 S4 j hj4 (by omega)
        refine wY ?_
        refine ⟨j + 1, by omega, by omega, ?_⟩
        rw [hs]
        (refine Go2.sub ⟨?_, ?_, ?_⟩ <;> repeat' (first | exact True.intro | rfl | apply And.intro))
      obtain rfl : j = 4 := by omega
      have hlt' : ¬ (((4 : Nat) : Int) < 4) := by omega
      rw [List.take_of_length_le (by omega)]
      rw [List.take_of_length_le (by omega)] at hpl
      refine wRG ?_
      refine thenA_n ?_
      refine AW_go (S' := ⟨[(6, .own 34 1 (put4 RAW 4 S4).length .row), (158, .v (.bool (decide (((4 : Nat) : Int) < 4))))], [(34, .own 5 1 ((put4 RAW 4 S4).map byteA))]⟩) (by rw [hpl]; (refine Go2.sub ⟨?_, ?_, ?_⟩ <;> repeat' (first | exact True.intro | rfl | apply And.intro))) ?_
      refine AW_go (Go2.thaw (S' := ⟨[(6, .sl (some 34) 1 ((put4 RAW 4 S4).map byteA)), (158, .v (.bool (decide (((4 : Nat) : Int) < 4))))], [(34, .tail 5 1 ((put4 RAW 4 S4).map byteA).length)]⟩) 34 rfl (by repeat' (first | exact True.intro | rfl | apply And.intro | (simp; done))) (by repeat' (first | exact True.intro | rfl | apply And.intro | (simp; done))) rfl) ?_
      rw [eE]
      refine wY ?_
      exact fin ⟨res_sl rfl, res_of rfl rfl rfl, trivial⟩
end Go.Proofs.Ytcmdhpinelnclaa

namespace Go.Proofs.Ytcmdhpinelnclaa
open Go Go.RowKit
set_option linter.unusedVariables false
set_option linter.unusedSimpArgs false
set_option maxRecDepth 100000

def vByte (k i : Nat) : BitVec 8 := BitVec.ofInt 8 ((k : Int) / 17 + (i : Int) * ((k : Int) / 4352))
def vText (k : Nat) : List (BitVec 8) := (List.range (k % 17)).map (vByte k)
def lawVl (v : Int) : Vl := mkVl (vText (v % 1099511627776).toNat)
theorem vText_len (k : Nat) : (vText k).length = k % 17 := by simp [vText]
theorem lawVl_ok (v : Int) : (lawVl v).ok = true := mkVl_ok _ (by rw [vText_len]; omega)
/-- the row behind j bytes -/
def vRow (k j : Nat) : List (BitVec 8) := (vText k).take j ++ List.replicate (k % 17 - j) 0#8
theorem vRow_zero (k : Nat) : vRow k 0 = List.replicate (k % 17) 0#8 := by simp [vRow]
theorem vRow_end (k : Nat) : vRow k (k % 17) = vText k := by
  unfold vRow
  rw [List.take_of_length_le (by rw [vText_len]; exact Nat.le_refl _)]
  simp
theorem vRow_len (k j : Nat) (h : j ≤ k % 17) : (vRow k j).length = k % 17 := by
  unfold vRow
  rw [List.length_append, List.length_take, List.length_replicate, vText_len]
  omega
theorem vRow_set (k j : Nat) (h : j < k % 17) : (vRow k j).set j (vByte k j) = vRow k (j + 1) := by
  unfold vRow
  have hl : ((vText k).take j).length = j := by rw [List.length_take, vText_len]; omega
  rw [List.set_append, if_neg (by omega), hl, Nat.sub_self, show k % 17 - j = (k % 17 - (j + 1)) + 1 by omega, List.replicate_succ, List.set_cons_zero]
  rw [← List.take_append_getElem (show j < (vText k).length by rw [vText_len]; exact h)]
  simp [vText]
theorem a_refvlof (xs : List (BitVec 8)) (h : xs.length ≤ 16) : AFn Try.prog 78 [.v (.string (bytesOf xs))] (.tup [(mkVl xs).av, intA 0]) := fun U w vs hr => by
  obtain ⟨v1, us, rfl, h1, hr⟩ := rdp_one hr
  obtain rfl := rdp_nil hr
  rw [(Rdv_v.1 h1).2]
  have := refvlof_any xs w
  rw [if_pos h] at this
  exact ofIs this fun w' => by
    rw [Rdv_tup]
    refine ⟨[.agg (mkVl xs).arr, .int .i64 0], rfl, ?_⟩
    simp only [Rdp]
    exact ⟨(mkVl xs).arr.toList, [.int .i64 0], rfl, Vl.rd.2 rfl, [.int .i64 0], [], rfl, (rd_v rfl).2 rfl, rfl⟩
attribute [local irreducible] OpOK AWops AW CondB Go2 AFn thenA inBlockA noGotoA orderOk wantedA
set_option maxRecDepth 100000 in
set_option maxHeartbeats 4000000 in
theorem a_lval (v : Int) (hv : -9223372036854775808 ≤ v ∧ v ≤ 9223372036854775807) : AFn Try.prog 51 [intA v] (lawVl v).av := by
  refine AFn_intro Try.func51 rfl Try.ntmps51 rfl (by simp) [_] rfl fun E hE => ?_
  obtain ⟨k, hk⟩ : ∃ k : Nat, v % 1099511627776 = (k : Int) := ⟨(v % 1099511627776).toNat, by omega⟩
  have hlt : k < 1099511627776 := by omega
  have hlv : lawVl v = mkVl (vText k) := by unfold lawVl; rw [hk]; rfl
  rw [hlv]
  have c1 := a_lplace v 1099511627776 (by omega) (by omega) hv
  rw [hk] at c1
  have c2 := a_refvlof (vText k) (by rw [vText_len]; omega)
  have d1 := acall Try.func19 (c1) (by decide +kernel) (by decide +kernel)
  have d2 := acall Try.func78 (c2) (by decide +kernel) (by decide +kernel)
  refine wS ?_
  refine Wri 13 ((k % 17 : Nat) : Int) rfl (by omega) ?_
  refine wS ?_
  (apply Wb; (focus (exact o_make (f := byteA) (x0 := 0#8) (n := k % 17) rfl rfl rfl rfl rfl rfl (by omega) (by omega))); (focus (first | exact want_n | exact want_g rfl (by with_reducible rfl))))
  refine wS ?_
  refine AW_loopI (fun j : Nat => ⟨[(2, .ptr 2 0 []), (3, intA k), (4, intA (k % 17 : Nat)), (5, .seg 14 0 1 [] (k % 17) (k % 17)), (6, intA j)], [(2, .var Vl.zero.av), (14, .var (.arr (k % 17 * 1) 1 ((vRow k j).map byteA)))]⟩) (fun j => j ≤ k % 17) (fun j => k % 17 - j) 0 (Nat.zero_le _) (by rw [vRow_zero]; (refine Go2.sub ⟨?_, ?_, ?_⟩ <;> repeat' (first | exact True.intro | rfl | apply And.intro))) (fun j hj => ?_)
  by_cases c : j < k % 17
  · have hs := vRow_set k j c
    have hl := vRow_len k j hj
    have hm : (j : Int) * ((k : Int) / 4352) ≤ 17 * 252645136 := by
      have h1 : (j : Int) ≤ 17 := by omega
      have h2 : (k : Int) / 4352 ≤ 252645136 := by omega
      have h3 : 0 ≤ (k : Int) / 4352 := by omega
      exact Int.mul_le_mul h1 h2 h3 (by omega)
    have hm0 : 0 ≤ (j : Int) * ((k : Int) / 4352) := Int.mul_nonneg (by omega) (by omega)
    generalize hmm : (j : Int) * ((k : Int) / 4352) = mm at hm hm0
    refine wS ?_
    (apply Ws; (focus (exact o_stm (f := byteA) (b := vByte k j) rfl (by unfold vByte; rw [hmm]; rfl) rfl (by omega) rfl rfl (fun _ => rfl) rfl rfl)); (focus (first | exact want_n | exact want_g rfl (by with_reducible rfl))))
    refine wS ?_
    refine ⟨j + 1, by omega, by omega, ?_⟩
    (refine Go2.sub ⟨?_, ?_, ?_⟩ <;> repeat' (first | exact True.intro | rfl | apply And.intro))
    all_goals (rw [hs]; rfl)
  · obtain rfl : j = k % 17 := by omega
    rw [vRow_end]
    have hl := vText_len k
    refine AW_go (Go2.froz hE 14 rfl) ?_
    refine AW_go (Go2.seg 5 14 rfl rfl rfl rfl (by simp; omega)) ?_
    refine AW_go (Go2.as 5 (.sl none 1 ((vText k).map byteA)) (by rw [← hl, ← List.length_map (f := byteA), List.take_length]; rfl)) ?_
    refine wS ?_
    exact fin ⟨res_var rfl rfl rfl rfl, trivial⟩
/-- the laws' message by a number -/
def lawMsg (v seq : Int) : Msg :=
  let k := v % 1099511627776
  ⟨1 + k % 3, BitVec.ofInt 64 (seq % 1099511627776), lawKey (k / 4), if k % 3 = 0 then lawVl (k / 64) else Vl.zero, if k % 3 = 2 then BitVec.ofInt 64 (k / 1024) * BitVec.ofInt 64 65537 else 0#64⟩
theorem lawMsg_ok (v seq : Int) : (lawMsg v seq).ok = true := by
  have h0 := Int.emod_nonneg (v % 1099511627776) (show (3 : Int) ≠ 0 by omega)
  have h1 := Int.emod_lt_of_pos (v % 1099511627776) (show (0 : Int) < 3 by omega)
  unfold Msg.ok lawMsg
  simp only [lawKey_ok, Bool.and_true, Bool.and_eq_true, Bool.or_eq_true, decide_eq_true_eq]
  refine ⟨⟨⟨by omega, by omega⟩, ?_⟩, ?_⟩
  · by_cases c : v % 1099511627776 % 3 = 0
    · rw [if_pos (by omega), if_pos c]; exact lawVl_ok _
    · rw [if_neg (by omega), decide_eq_true_eq, if_neg c]
  · by_cases c : v % 1099511627776 % 3 = 2
    · exact .inl (by omega)
    · right; rw [if_neg c]
set_option maxRecDepth 100000 in
set_option maxHeartbeats 4000000 in
theorem a_lmsg (v seq : Int) (hv : -9223372036854775808 ≤ v ∧ v ≤ 9223372036854775807) (hq : -9223372036854775808 ≤ seq ∧ seq ≤ 9223372036854775807) : AFn Try.prog 55 [intA v, intA seq] (lawMsg v seq).av := by
  refine AFn_intro Try.func55 rfl Try.ntmps55 rfl (by simp) [_] rfl fun E hE => ?_
  have h0 := Int.emod_nonneg v (show (1099511627776 : Int) ≠ 0 by omega)
  have h1 := Int.emod_lt_of_pos v (show (0 : Int) < 1099511627776 by omega)
  have c1 := a_lplace v 1099511627776 (by omega) (by omega) hv
  have c2 := a_lplace seq 1099511627776 (by omega) (by omega) hq
  unfold lawMsg
  dsimp only
  generalize v % 1099511627776 = k at h0 h1 c1 ⊢
  have d1 := acall Try.func19 (c1) (by decide +kernel) (by decide +kernel)
  have d2 := acall Try.func19 (c2) (by decide +kernel) (by decide +kernel)
  have d3 := acall Try.func50 (a_lkey (k / 4) (by omega)) (by decide +kernel) (by decide +kernel)
  have d4 := acall Try.func51 (a_lval (k / 64) (by omega)) (by decide +kernel) (by decide +kernel)
  by_cases q0 : k % 3 = 0
  · have e1 : 1 + k % 3 = 1 := by omega
    rw [if_pos q0, if_neg (by omega)]
    refine wS ?_
    exact fin ⟨res_var rfl rfl rfl rfl, trivial⟩
  · have e1 : ¬ 1 + k % 3 = 1 := by omega
    rw [if_neg q0]
    by_cases q2 : k % 3 = 2
    · rw [if_pos q2]
      have e3 : 1 + k % 3 = 3 := by omega
      refine wS ?_
      exact fin ⟨res_var rfl rfl rfl rfl, trivial⟩
    · rw [if_neg q2]
      have e3 : ¬ 1 + k % 3 = 3 := by omega
      refine wS ?_
      exact fin ⟨res_var rfl rfl rfl rfl, trivial⟩
end Go.Proofs.Ytcmdhpinelnclaa

namespace Go.Proofs.Ytcmdhpinelnclaa
open Go Go.RowKit
set_option linter.unusedVariables false
set_option linter.unusedSimpArgs false
set_option maxRecDepth 100000

def msgStep (most : Int) (out : List Msg) (m : Msg) : List Msg := if bSum (bfAdd out m) ≤ most then bfAdd out m else out
def msgsF (l : List Int) (most : Int) : Nat → List Msg
  | 0 => []
  | j + 1 => msgStep most (msgsF l most j) (lawMsg (l.getD j 0) ((j + 1 : Nat) : Int))
def msgList (l : List Int) (most : Int) : List Msg := msgsF l most (min l.length 60)
theorem msgsF_bf (l : List Int) (most : Int) : ∀ j, Bf (msgsF l most j)
  | 0 => bf_nil
  | j + 1 => by
    unfold msgsF msgStep
    split
    · exact bf_add (msgsF_bf l most j) (lawMsg_ok _ _)
    · exact msgsF_bf l most j
theorem msgsF_len (l : List Int) (most : Int) : ∀ j, (msgsF l most j).length ≤ j
  | 0 => Nat.le_refl _
  | j + 1 => by
    have h1 := msgsF_len l most j
    have h2 := add_len (msgsF l most j) (lawMsg (l.getD j 0) ((j + 1 : Nat) : Int))
    unfold msgsF msgStep
    split <;> omega
theorem msgsF_sum (l : List Int) (most : Int) (h0 : 0 ≤ most) : ∀ j, bSum (msgsF l most j) ≤ most
  | 0 => h0
  | j + 1 => by
    unfold msgsF msgStep
    split
    · assumption
    · exact msgsF_sum l most h0 j
theorem msgList_bf (l : List Int) (most : Int) : Bf (msgList l most) := msgsF_bf l most _
theorem msgList_sum (l : List Int) (most : Int) (h0 : 0 ≤ most) : bSum (msgList l most) ≤ most := msgsF_sum l most h0 _
theorem msgList_end (l : List Int) (most : Int) (j : Nat) (h : (j = 60 ∧ j ≤ l.length) ∨ (j = l.length ∧ j ≤ 60)) : msgsF l most j = msgList l most := by
  unfold msgList
  congr 1
  omega
attribute [local irreducible] OpOK AWops AW CondB Go2 AFn thenA inBlockA noGotoA orderOk wantedA
set_option maxRecDepth 100000 in
set_option maxHeartbeats 8000000 in
theorem a_msgs (l : List Int) (most : Int) (hb : ∀ n ∈ l, -9223372036854775808 ≤ n ∧ n ≤ 9223372036854775807) : AFn Try.prog 24 [intsA l, intA most] (msgsA (msgList l most)) := by
  refine AFn_intro Try.func24 rfl Try.ntmps24 rfl (by simp) [_] rfl fun E hE => ?_
  refine wL ?_
  refine AW_go (Go2.nil 5 29 rfl) ?_
  refine AW_loopI (fun j : Nat => ⟨[(0, intsA l), (1, intA most), (5, msgsA (msgsF l most j)), (6, intA j)], []⟩) (fun j => j ≤ l.length ∧ j ≤ 60) (fun j => l.length - j) 0 ⟨Nat.zero_le _, by omega⟩ (by (refine Go2.sub ⟨?_, ?_, ?_⟩ <;> repeat' (first | exact True.intro | rfl | apply And.intro))) (fun j hj => ?_)
  obtain ⟨j1, j2⟩ := hj
  by_cases c : j < l.length
  · by_cases q : j < 60
    · have hx := hb l[j] (List.getElem_mem c)
      have hbf := msgsF_bf l most j
      have hlen := msgsF_len l most j
      have hs : msgsF l most (j + 1) = msgStep most (msgsF l most j) (lawMsg l[j] ((j + 1 : Nat) : Int)) := by
        rw [msgsF]
        rw [List.getD_eq_getElem?_getD, List.getElem?_eq_getElem c]
        rfl
      have hmo := lawMsg_ok l[j] ((j + 1 : Nat) : Int)
      have p1 := a_lmsg l[j] ((j + 1 : Nat) : Int) hx (by omega)
      generalize lawMsg l[j] ((j + 1 : Nat) : Int) = M at hs hmo p1
      have hal := add_len (msgsF l most j) M
      have p2 := a_ref06add (msgsF l most j) M hbf (Msg.spec hmo).2.2.1 (by omega)
      have p3 := a_ref06bytes (bfAdd (msgsF l most j) M) (by omega)
      unfold msgStep at hs
      generalize bfAdd (msgsF l most j) M = more at hs hal p2 p3
      have d1 := acall Try.func55 (p1) (by decide +kernel) (by decide +kernel)
      have d2 := acall Try.func54 (p2) (by decide +kernel) (by decide +kernel)
      have d3 := acall Try.func56 (p3) (by decide +kernel) (by decide +kernel)
      by_cases z : bSum more ≤ most
      · rw [if_pos z] at hs
        refine wL ?_
        refine ⟨j + 1, ⟨c, q⟩, by omega, ?_⟩
        rw [hs]
        (refine Go2.sub ⟨?_, ?_, ?_⟩ <;> repeat' (first | exact True.intro | rfl | apply And.intro))
      · rw [if_neg z] at hs
        refine wL ?_
        refine ⟨j + 1, ⟨c, q⟩, by omega, ?_⟩
        rw [hs]
        (refine Go2.sub ⟨?_, ?_, ?_⟩ <;> repeat' (first | exact True.intro | rfl | apply And.intro))
    · rw [← msgList_end l most j (.inl ⟨by omega, j1⟩)]
      refine wL ?_
      exact fin ⟨res_sl rfl, trivial⟩
  · rw [← msgList_end l most j (.inr ⟨by omega, j2⟩)]
    refine wL ?_
    exact fin ⟨res_sl rfl, trivial⟩
end Go.Proofs.Ytcmdhpinelnclaa

namespace Go.Proofs.Ytcmdhpinelnclaa
open Go Go.RowKit
set_option linter.unusedVariables false
set_option linter.unusedSimpArgs false
set_option maxRecDepth 100000

def entMsg (x : Int) : Msg := ⟨1, 0#64, lawKey (x % 1099511627776), lawVl (x % 1099511627776 / 16), 0#64⟩
theorem entMsg_ok (x : Int) : (entMsg x).ok = true := by
  unfold Msg.ok entMsg
  simp [lawKey_ok, lawVl_ok]
def entStep (most : Int) (out : List Ent) (x : Int) : List Ent := if eSum (lfPut out (entMsg x)) ≤ most then lfPut out (entMsg x) else out
def entsF (l : List Int) (most : Int) (j : Nat) : List Ent := (l.take j).foldl (entStep most) []
def entList (l : List Int) (most : Int) : List Ent := entsF l most 80
theorem entsF_snoc (l : List Int) (most : Int) (j : Nat) (h : j < l.length) : entsF l most (j + 1) = entStep most (entsF l most j) l[j] := by
  unfold entsF
  rw [← List.take_append_getElem h, List.foldl_append]
  rfl
theorem entStep_lf {most : Int} {out : List Ent} {x : Int} (h : Lf out) : Lf (entStep most out x) := by
  unfold entStep
  split
  · exact lf_put h (entMsg_ok x)
  · exact h
theorem entsF_lf (l : List Int) (most : Int) : ∀ j, Lf (entsF l most j) := by
  unfold entsF
  intro j
  have : ∀ (xs : List Int) (out : List Ent), Lf out → Lf (xs.foldl (entStep most) out) := by
    intro xs
    induction xs with
    | nil => intro out h; exact h
    | cons x xs ih => intro out h; exact ih _ (entStep_lf h)
  exact this _ _ lf_nil
theorem entsF_len (l : List Int) (most : Int) (j : Nat) : (entsF l most j).length ≤ j := by
  unfold entsF
  have : ∀ (xs : List Int) (out : List Ent), (xs.foldl (entStep most) out).length ≤ out.length + xs.length := by
    intro xs
    induction xs with
    | nil => intro out; simp
    | cons x xs ih =>
      intro out
      have h1 := ih (entStep most out x)
      have h2 : (entStep most out x).length ≤ out.length + 1 := by
        unfold entStep
        split
        · exact put_len _ _
        · omega
      simp only [List.foldl_cons, List.length_cons]
      omega
  have h := this (l.take j) []
  simp only [List.length_nil, List.length_take] at h
  omega
theorem entsF_sum (l : List Int) (most : Int) (h0 : 0 ≤ most) (j : Nat) : eSum (entsF l most j) ≤ most := by
  unfold entsF
  have : ∀ (xs : List Int) (out : List Ent), eSum out ≤ most → eSum (xs.foldl (entStep most) out) ≤ most := by
    intro xs
    induction xs with
    | nil => intro out h; exact h
    | cons x xs ih =>
      intro out h
      refine ih _ ?_
      unfold entStep
      split
      · assumption
      · exact h
  exact this _ _ h0
theorem entList_end (l : List Int) (most : Int) (j : Nat) (h : j = 80 ∨ (j = l.length ∧ j ≤ 80)) : entsF l most j = entList l most := by
  unfold entList entsF
  rcases h with h | ⟨h1, h2⟩
  · rw [h]
  · rw [List.take_of_length_le (by omega), List.take_of_length_le (by omega)]
theorem entList_lf (l : List Int) (most : Int) : Lf (entList l most) := entsF_lf l most 80
attribute [local irreducible] OpOK AWops AW CondB Go2 AFn thenA inBlockA noGotoA orderOk wantedA
set_option maxRecDepth 100000 in
set_option maxHeartbeats 8000000 in
theorem a_entries (l : List Int) (most : Int) (hb : ∀ n ∈ l, -9223372036854775808 ≤ n ∧ n ≤ 9223372036854775807) : AFn Try.prog 22 [intsA l, intA most] (entsA (entList l most)) := by
  refine AFn_intro Try.func22 rfl Try.ntmps22 rfl (by simp) [_] rfl fun E hE => ?_
  refine wL ?_
  refine AW_go (Go2.nil 5 26 rfl) ?_
  refine AW_loopI (fun j : Nat => ⟨[(0, intsA l), (1, intA most), (5, entsA (entsF l most j)), (6, intA j)], []⟩) (fun j => j ≤ l.length ∧ j ≤ 80) (fun j => l.length - j) 0 ⟨Nat.zero_le _, by omega⟩ (by (refine Go2.sub ⟨?_, ?_, ?_⟩ <;> repeat' (first | exact True.intro | rfl | apply And.intro))) (fun j hj => ?_)
  obtain ⟨j1, j2⟩ := hj
  by_cases c : j < l.length
  · by_cases q : j < 80
    · have hx := hb l[j] (List.getElem_mem c)
      have hs := entsF_snoc l most j c
      have hlf := entsF_lf l most j
      have hlen := entsF_len l most j
      have hlf2 := lf_put hlf (entMsg_ok l[j])
      have hlen2 := put_len (entsF l most j) (entMsg l[j])
      have hm := a_ref07put (entsF l most j) (entMsg l[j]) hlf (Msg.spec (entMsg_ok l[j])).2.2.1 (by omega)
      have hy := a_ref07bytes (lfPut (entsF l most j) (entMsg l[j])) hlf2.ok.bd (by omega)
      have k0 := Int.emod_nonneg l[j] (show (1099511627776 : Int) ≠ 0 by omega)
      have k1 := Int.emod_lt_of_pos l[j] (show (0 : Int) < 1099511627776 by omega)
      unfold entStep at hs
      unfold entMsg at hm hy hs
      have p1 := a_lplace l[j] 1099511627776 (by omega) (by omega) hx
      generalize l[j] % 1099511627776 = k at p1 k0 k1 hm hy hs
      have p2 := a_lkey k (by omega)
      have p3 := a_lval (k / 16) (by omega)
      generalize lfPut (entsF l most j) ⟨1, 0#64, lawKey k, lawVl (k / 16), 0#64⟩ = more at hm hy hs
      have d1 := acall Try.func19 (p1) (by decide +kernel) (by decide +kernel)
      have d2 := acall Try.func50 (p2) (by decide +kernel) (by decide +kernel)
      have d3 := acall Try.func51 (p3) (by decide +kernel) (by decide +kernel)
      have d4 := acall Try.func49 (hm) (by decide +kernel) (by decide +kernel)
      have d5 := acall Try.func52 (hy) (by decide +kernel) (by decide +kernel)
      by_cases z : eSum more ≤ most
      · rw [if_pos z] at hs
        refine wL ?_
        refine ⟨j + 1, ⟨c, q⟩, by omega, ?_⟩
        rw [hs]
        (refine Go2.sub ⟨?_, ?_, ?_⟩ <;> repeat' (first | exact True.intro | rfl | apply And.intro))
      · rw [if_neg z] at hs
        refine wL ?_
        refine ⟨j + 1, ⟨c, q⟩, by omega, ?_⟩
        rw [hs]
        (refine Go2.sub ⟨?_, ?_, ?_⟩ <;> repeat' (first | exact True.intro | rfl | apply And.intro))
    · rw [← entList_end l most j (.inl (by omega))]
      refine wL ?_
      exact fin ⟨res_sl rfl, trivial⟩
  · rw [← entList_end l most j (.inr ⟨by omega, j2⟩)]
    refine wL ?_
    exact fin ⟨res_sl rfl, trivial⟩
end Go.Proofs.Ytcmdhpinelnclaa

namespace Go.Proofs.Ytcmdhpinelnclaa
open Go Go.RowKit
set_option linter.unusedVariables false
set_option linter.unusedSimpArgs false
set_option maxRecDepth 100000

def innerN (p : List Int) (v : Int) (l : List Int) : Nd := ⟨false, [], kidsL v ((pivK (16 :: p) 3).length + 1), pivK (16 :: p) 3, msgList l 205⟩
def leafN (l : List Int) : Nd := ⟨true, entList l 248, [], [], []⟩
theorem res_varl {S : St} {a t g n : Nat} {fs ys : List AV} (ha : S.t a = some (.ptr g 0 [])) (hg : S.h g = some (.var (.agg n fs))) (hs : tabT.sa t = some (true, n)) (hw : ∀ H, WkL H fs ys) : Res1 Try.prog S (.cell a t) (.agg n ys) := ⟨g, .agg n fs, ha, hg, tabT.tyOf hs, Wk.agg (hw _)⟩
def innerM (v : Int) (P : List Key) (S : List Msg) : Nat → St
  | 0 => ⟨[(6, .ptr 6 0 []), (7, .ptr 7 0 []), (8, intA (1 + v % 200)), (9, intA ((0 : Nat) : Int))], [(6, .var (nodeA false nilA nilA nilA nilA)), (7, .var (nodeA false nilA nilA (keysA P) (msgsA S)))]⟩
  | j + 1 => ⟨[(6, .ptr 6 0 []), (7, .ptr 7 0 []), (8, intA (1 + v % 200)), (9, intA ((j + 1 : Nat) : Int))], [(6, .var (nodeA false nilA nilA nilA nilA)), (7, .var (nodeA false nilA (.sl (some 34) 1 ((kidsL v (j + 1)).map intA)) (keysA P) (msgsA S))), (34, .tail 3 1 (kidsL v (j + 1)).length)]⟩
attribute [local irreducible] OpOK AWops AW CondB Go2 AFn thenA inBlockA noGotoA orderOk wantedA
set_option maxRecDepth 100000 in
set_option maxHeartbeats 4000000 in
theorem a_inner (p : List Int) (v : Int) (l : List Int) (hl : p.length ≤ 17592186044400) (hb : ∀ n ∈ p, -9223372036854775808 ≤ n ∧ n ≤ 9223372036854775807) (hv : -9223372036854775808 ≤ v ∧ v ≤ 9223372036854775807) (hlb : ∀ n ∈ l, -9223372036854775808 ≤ n ∧ n ≤ 9223372036854775807) :
    AFn Try.prog 11 [intsA p, intA v, intsA l] (innerN p v l).av := by
  unfold innerN
  refine AFn_intro Try.func11 rfl Try.ntmps11 rfl (by simp) [_] rfl fun E hE => ?_
  have hp := a_pivots (16 :: p) 3 (by simp; omega) (fun n hn => by rcases List.mem_cons.1 hn with rfl | hn; omega; exact hb n hn)
  have hle := pivK_le (16 :: p) 3 (by omega)
  generalize pivK (16 :: p) 3 = P at hp hle ⊢
  have cm := a_msgs l 205 hlb
  generalize msgList l 205 = S at cm ⊢
  have c1 := acall Try.func23 (hp) (by decide +kernel) (by decide +kernel)
  have c2 := acall Try.func24 (cm) (by decide +kernel) (by decide +kernel)
  have c3 := acall Try.func19 (a_lplace v 200 (by omega) (by omega) hv) (by decide +kernel) (by decide +kernel)
  refine wL ?_
  refine AW_loopI (innerM v P S) (fun j => j ≤ P.length + 1) (fun j => P.length + 1 - j) 0 (Nat.zero_le _) (by unfold innerM; (refine Go2.sub ⟨?_, ?_, ?_⟩ <;> repeat' (first | exact True.intro | rfl | apply And.intro))) (fun j hj => ?_)
  have hs := kidsL_succ v j
  have hkl := kidsL_len v j
  by_cases hlt : j ≤ P.length
  · cases j with
    | zero =>
      unfold innerM
      refine wL ?_
      refine ⟨1, by omega, by omega, ?_⟩
      (refine Go2.sub ⟨?_, ?_, ?_⟩ <;> repeat' (first | exact True.intro | rfl | apply And.intro))
    | succ j =>
      unfold innerM
      refine wL ?_
      refine Was 33 (AV.sl (some 33) 1 (List.map intA [1 + v % 200 + 7 * ((j + 1 : Nat) : Int)])) rfl ?_
      refine wL ?_
      refine ⟨j + 2, by omega, by omega, ?_⟩
      (refine Go2.sub ⟨?_, ?_, ?_⟩ <;> repeat' (first | exact True.intro | rfl | apply And.intro))
      all_goals (rw [hs]; rfl)
  · have : j = P.length + 1 := by omega
    subst this
    unfold innerM
    refine wL ?_
    exact fin ⟨res_varl rfl rfl rfl (fun _ => .cons (Wk.data rfl) (.cons Wk.nil (.cons Wk.tok (.cons (Wk.data rfl) (.cons (Wk.data rfl) .nil))))), trivial⟩
set_option maxRecDepth 100000 in
set_option maxHeartbeats 4000000 in
theorem a_lleaf (l : List Int) (hlb : ∀ n ∈ l, -9223372036854775808 ≤ n ∧ n ≤ 9223372036854775807) : AFn Try.prog 10 [intsA l] (leafN l).av := by
  unfold leafN
  refine AFn_intro Try.func10 rfl Try.ntmps10 rfl (by simp) [_] rfl fun E hE => ?_
  have ce := a_entries l 248 hlb
  generalize entList l 248 = L at ce ⊢
  have c1 := acall Try.func22 (ce) (by decide +kernel) (by decide +kernel)
  refine wL ?_
  exact fin ⟨res_varl rfl rfl rfl (fun _ => .cons (Wk.data rfl) (.cons (Wk.data rfl) (.cons Wk.nil (.cons Wk.nil (.cons Wk.nil .nil))))), trivial⟩
end Go.Proofs.Ytcmdhpinelnclaa

namespace Go.Proofs.Ytcmdhpinelnclaa
open Go Go.RowKit
set_option linter.unusedVariables false
set_option linter.unusedSimpArgs false
set_option maxRecDepth 100000

attribute [local irreducible] OpOK AWops AW CondB Go2 AFn thenA inBlockA noGotoA orderOk wantedA
set_option maxRecDepth 100000 in
set_option maxHeartbeats 4000000 in
theorem a_refsame (a b : Nd) (h : a.Sm) : AFn Try.prog 16 [a.av, b.av] (boolA (decide (a = b))) := by
  obtain ⟨l1, es1, ks1, ps1, ms1⟩ := a
  obtain ⟨l2, es2, ks2, ps2, ms2⟩ := b
  dsimp only [Nd.av]
  refine AFn_intro Try.func16 rfl Try.ntmps16 rfl (by simp) [_] rfl fun E hE => ?_
  obtain ⟨h1, h2, h3, h4⟩ := h
  dsimp only at h1 h2 h3 h4
  by_cases q0 : l1 = l2
  · have c0 := a_sameEnts es1 es2 (by omega)
    by_cases q1 : es1 = es2
    · rw [decide_eq_true q1] at c0
      have d0 := acall Try.func39 (c0) (by decide +kernel) (by decide +kernel)
      have c1 := a_sameInts ks1 ks2 (by omega)
      by_cases q2 : ks1 = ks2
      · rw [decide_eq_true q2] at c1
        have d1 := acall Try.func40 (c1) (by decide +kernel) (by decide +kernel)
        have c2 := a_sameKeys ps1 ps2 (by omega)
        by_cases q3 : ps1 = ps2
        · rw [decide_eq_true q3] at c2
          have d2 := acall Try.func41 (c2) (by decide +kernel) (by decide +kernel)
          have c3 := a_sameMsgs ms1 ms2 (by omega)
          by_cases q4 : ms1 = ms2
          · rw [decide_eq_true q4] at c3
            have d3 := acall Try.func42 (c3) (by decide +kernel) (by decide +kernel)
            subst q0 q1 q2 q3 q4
            rw [decide_eq_true rfl]
            cases l1
            · refine wI ?_
              exact fin ⟨res_of rfl rfl rfl, trivial⟩
            · refine wI ?_
              exact fin ⟨res_of rfl rfl rfl, trivial⟩
          · rw [decide_eq_false q4] at c3
            have d3 := acall Try.func42 (c3) (by decide +kernel) (by decide +kernel)
            rw [show decide ((⟨l1, es1, ks1, ps1, ms1⟩ : Nd) = ⟨l2, es2, ks2, ps2, ms2⟩) = false from decide_eq_false fun k => q4 (by injection k)]
            subst q0
            cases l1
            · refine wI ?_
              exact fin ⟨res_of rfl rfl rfl, trivial⟩
            · refine wI ?_
              exact fin ⟨res_of rfl rfl rfl, trivial⟩
        · rw [decide_eq_false q3] at c2
          have d2 := acall Try.func41 (c2) (by decide +kernel) (by decide +kernel)
          rw [show decide ((⟨l1, es1, ks1, ps1, ms1⟩ : Nd) = ⟨l2, es2, ks2, ps2, ms2⟩) = false from decide_eq_false fun k => q3 (by injection k)]
          subst q0
          cases l1
          · refine wI ?_
            exact fin ⟨res_of rfl rfl rfl, trivial⟩
          · refine wI ?_
            exact fin ⟨res_of rfl rfl rfl, trivial⟩
      · rw [decide_eq_false q2] at c1
        have d1 := acall Try.func40 (c1) (by decide +kernel) (by decide +kernel)
        rw [show decide ((⟨l1, es1, ks1, ps1, ms1⟩ : Nd) = ⟨l2, es2, ks2, ps2, ms2⟩) = false from decide_eq_false fun k => q2 (by injection k)]
        subst q0
        cases l1
        · refine wI ?_
          exact fin ⟨res_of rfl rfl rfl, trivial⟩
        · refine wI ?_
          exact fin ⟨res_of rfl rfl rfl, trivial⟩
    · rw [decide_eq_false q1] at c0
      have d0 := acall Try.func39 (c0) (by decide +kernel) (by decide +kernel)
      rw [show decide ((⟨l1, es1, ks1, ps1, ms1⟩ : Nd) = ⟨l2, es2, ks2, ps2, ms2⟩) = false from decide_eq_false fun k => q1 (by injection k)]
      subst q0
      cases l1
      · refine wI ?_
        exact fin ⟨res_of rfl rfl rfl, trivial⟩
      · refine wI ?_
        exact fin ⟨res_of rfl rfl rfl, trivial⟩
  · rw [show decide ((⟨l1, es1, ks1, ps1, ms1⟩ : Nd) = ⟨l2, es2, ks2, ps2, ms2⟩) = false from decide_eq_false fun k => q0 (by injection k)]
    cases l1 <;> cases l2 <;> first | exact absurd rfl q0 | skip
    · refine wI ?_
      exact fin ⟨res_of rfl rfl rfl, trivial⟩
    · refine wI ?_
      exact fin ⟨res_of rfl rfl rfl, trivial⟩
end Go.Proofs.Ytcmdhpinelnclaa

namespace Go.Proofs.Ytcmdhpinelnclaa
open Go Go.RowKit
set_option linter.unusedVariables false
set_option linter.unusedSimpArgs false
set_option maxRecDepth 100000

theorem AFn_weak {P : Program} {f : FuncId} {xs ys : List AV} {r : AV} (h : AFn P f ys r) (hw : ∀ H, WkL H xs ys) : AFn P f xs r := fun U w vs hr => h U w vs ((hw H0).rdp hr)
theorem innerN_ok (p : List Int) (v : Int) (l : List Int) : nodeOk keyCmp (innerN p v l) = true := by
  unfold nodeOk innerOk
  rw [if_neg (show ¬ (innerN p v l).leaf = true from by simp [innerN])]
  rw [show fanOkBy keyCmp (innerN p v l).ks (innerN p v l).ps = true from two_ok v p, show msgsOkB keyCmp (innerN p v l).ms = true from msgsOkB_true (msgList_bf l 205).msgs]
  rfl
theorem innerN_sum (p : List Int) (v : Int) (l : List Int) : bSum (innerN p v l).ms ≤ 205 := msgList_sum l 205 (by omega)
theorem innerN_fits (p : List Int) (v : Int) (l : List Int) : nodeFits (innerN p v l) = true := by
  unfold nodeFits
  rw [innerN_ok]
  have := innerN_sum p v l
  rw [if_neg (show ¬ (innerN p v l).leaf = true from by simp [innerN])]
  rw [Bool.true_and, decide_eq_true_eq]
  unfold ndBytes
  rw [if_neg (show ¬ (innerN p v l).leaf = true from by simp [innerN])]
  exact this
theorem leafN_ok (l : List Int) : nodeOk keyCmp (leafN l) = true := by
  unfold nodeOk leafOk
  rw [if_pos (show (leafN l).leaf = true from rfl)]
  rw [show entsOkB keyCmp (leafN l).es = true from entsOkB_true (entList_lf l 248).ents]
  rfl
theorem leafN_fits (l : List Int) : nodeFits (leafN l) = true := by
  unfold nodeFits ndBytes
  rw [leafN_ok, if_pos (show (leafN l).leaf = true from rfl), if_pos (show (leafN l).leaf = true from rfl), Bool.true_and, decide_eq_true_eq]
  exact entsF_sum l 248 (by omega) 80
/-! ### all weights together -/
def wtsN (p : List Int) (v : Int) (l : List Int) : List Int := wtsAt (innerN p v l) (innerN p v l).ks.length
end Go.Proofs.Ytcmdhpinelnclaa

namespace Go.Proofs.Ytcmdhpinelnclaa
open Go Go.RowKit
set_option linter.unusedVariables false
set_option linter.unusedSimpArgs false
set_option maxRecDepth 100000

/-! ### plain law -/
def Nd.zero : Nd := ⟨false, [], [], [], []⟩
def rdS1 (b : List (BitVec 8)) : Rst := ⟨8, false⟩
def byAt (b : List (BitVec 8)) (i : Nat) : BitVec 8 := b.getD i 0#8
def rdNode (b : List (BitVec 8)) : Nd × Rst :=
  if byAt b 0 = 1#8 then
    (⟨true, (rdMany (rdEnt b) (byAt b 1).toNat ⟨8, false⟩).1, [], [], (rdMany (rdMsg b) (byAt b 2).toNat (rdMany (rdEnt b) (byAt b 1).toNat ⟨8, false⟩).2).1⟩, (rdMany (rdMsg b) (byAt b 2).toNat (rdMany (rdEnt b) (byAt b 1).toNat ⟨8, false⟩).2).2)
  else
    (⟨false, [], (rdMany (rdKid b) (byAt b 1).toNat ⟨8, false⟩).1, (rdMany (rdKey b) ((byAt b 1).toNat - 1) (rdMany (rdKid b) (byAt b 1).toNat ⟨8, false⟩).2).1, (rdMany (rdMsg b) (byAt b 2).toNat (rdMany (rdKey b) ((byAt b 1).toNat - 1) (rdMany (rdKid b) (byAt b 1).toNat ⟨8, false⟩).2).2).1⟩,
     (rdMany (rdMsg b) (byAt b 2).toNat (rdMany (rdKey b) ((byAt b 1).toNat - 1) (rdMany (rdKid b) (byAt b 1).toNat ⟨8, false⟩).2).2).2)
/-- with the sum's own bytes 0 -/
def bareB (b : List (BitVec 8)) : List (BitVec 8) := put4 b 4 (List.replicate 4 0#8)
def sumIn (b : List (BitVec 8)) : List (BitVec 8) := (b.take 8).drop 4
noncomputable def decode (b : List (BitVec 8)) : Nd × Int :=
  if b.length = 256 then
    if sum4 (bareB b) = sumIn b then
      if (rdNode b).2.bad = false ∧ (encode (rdNode b).1).2 = 0 ∧ (encode (rdNode b).1).1 = b then ((rdNode b).1, 0) else (Nd.zero, 4)
    else (Nd.zero, 5)
  else (Nd.zero, 4)
theorem rdNode_sm (b : List (BitVec 8)) : (rdNode b).1.Sm := by
  have h1 := (byAt b 1).isLt
  have h2 := (byAt b 2).isLt
  unfold rdNode
  split
  · exact ⟨by show (rdMany _ _ _).1.length ≤ _; rw [rdMany_len]; omega, Nat.zero_le _, Nat.zero_le _, by show (rdMany _ _ _).1.length ≤ _; rw [rdMany_len]; omega⟩
  · exact ⟨Nat.zero_le _, by show (rdMany _ _ _).1.length ≤ _; rw [rdMany_len]; omega, by show (rdMany _ _ _).1.length ≤ _; rw [rdMany_len]; omega, by show (rdMany _ _ _).1.length ≤ _; rw [rdMany_len]; omega⟩
section
variable {E : Env} {nt : Nat} {ops : Array Oper} {T : Nat → Option AV} {H : Hp} {d : Option Nat} {ty : TypeId} {pos : String} {af : Array Edge} {gd : Option (Nat × Bool)}
theorem beq_bytesB {a b : ByteArray} : (a == b) = true ↔ a = b := by
  cases a with | mk x => cases b with | mk y =>
  show ((x == y) = true) ↔ _
  rw [beq_iff_eq, ByteArray.mk.injEq]
theorem beq_bits (a b : List (BitVec 8)) : ((bytesOf a) == (bytesOf b)) = decide (a = b) := by rw [Bool.eq_iff_iff, beq_bytesB, decide_eq_true_eq, bytesOf_inj]
theorem beq_bitsL (a b : List (BitVec 8)) : ((bytesOf a).toList == (bytesOf b).toList) = decide (a = b) := by rw [← beq_toListBytes, beq_bits]
theorem ob_eqs {t t' : TypeId} {x y : Operand} {a b : List (BitVec 8)} (hd : dOk nt d = true) (hx : evalO T x = some (.v (.string (bytesOf a)))) (hy : evalO T y = some (.v (.string (bytesOf b)))) : OpOK Try.prog E nt ops ⟨d, .binOp .eql t x y t', ty, pos, af, gd⟩ T H [] ⟨boolA (decide (a = b)), []⟩ :=
  ok_bin hd hx hy (fun w => by
    simp only [eqGuard, binOp, Op.stringOp, Sem.run_bind, beq_toListBytes, beq_bitsL]
    rfl) rfl
theorem ob_nes {t t' : TypeId} {x y : Operand} {a b : List (BitVec 8)} (hd : dOk nt d = true) (hx : evalO T x = some (.v (.string (bytesOf a)))) (hy : evalO T y = some (.v (.string (bytesOf b)))) : OpOK Try.prog E nt ops ⟨d, .binOp .neq t x y t', ty, pos, af, gd⟩ T H [] ⟨boolA (!decide (a = b)), []⟩ :=
  ok_bin hd hx hy (fun w => by
    simp only [eqGuard, binOp, Op.stringOp, Sem.run_bind, bne, beq_toListBytes, beq_bitsL]
    rfl) rfl
end
theorem zero_reader : ZeroOk Try.prog 55 (.agg 3 [nilA, intA ((0 : Nat) : Int), boolA false]) := zero_of (v := .agg #[.slice none 0 0, .int .i64 0, .bool false]) (n := 3) (by kernel_rfl) fun U w => by
  simp only [nilA, intA, boolA, Rd, Rds, Value.cells]
  exact ⟨rfl, [_], _, rfl, ⟨rfl, rfl⟩, [_], _, rfl, ⟨rfl, rfl⟩, [_], _, rfl, ⟨rfl, rfl⟩, rfl⟩
theorem zero_refreader : ZeroOk Try.prog 103 (.agg 3 [nilA, intA ((0 : Nat) : Int), boolA false]) := zero_of (v := .agg #[.slice none 0 0, .int .i64 0, .bool false]) (n := 3) (by kernel_rfl) fun U w => by
  simp only [nilA, intA, boolA, Rd, Rds, Value.cells]
  exact ⟨rfl, [_], _, rfl, ⟨rfl, rfl⟩, [_], _, rfl, ⟨rfl, rfl⟩, [_], _, rfl, ⟨rfl, rfl⟩, rfl⟩
theorem wX {Q R : Prop} (k : R) (h : Hid R → Q := by intro kHid; (repeat (first | (first | refine Wend _ ?_ | refine AW_seq ?_ | refine AW_reg ?_ | refine AW_drw mixed ?_ | refine AW_block ?_ | refine AW_scope ?_ | refine thenA_n ?_ | refine blockA_n ?_ | refine blockA_h ?_ | refine scopeA_n ?_ | refine thenA_r ?_ | refine blockA_r ?_ | refine scopeA_r ?_ | refine thenA_e ?_ | refine scopeA_e ?_ | refine blockA_e rfl ?_ | refine AW_exit ?_ | refine AW_ret ?_ | refine AW_skip ?_ | refine AW_c rfl ?_ | with_reducible refine cb_t ?_ | with_reducible refine cb_f ?_ | with_reducible refine cb_yes (by first | assumption | omega) ?_ | with_reducible refine cb_no (by first | assumption | omega) ?_ | refine And.intro (by decide +kernel) ?_) | (first | (apply Wv; (focus (first | exact step_ok rfl rfl | exact ok_nilc rfl rfl | exact o_idx rfl rfl rfl rfl (by first | assumption | omega | decide) | exact o_idx3 rfl rfl rfl rfl (by first | assumption | omega | decide) | exact o_idx2 rfl rfl rfl rfl rfl (by first | assumption | omega | decide | exact Nat.lt_of_lt_of_le (m := 256) (by decide) (by omega)) | exact o_idxr rfl rfl rfl rfl rfl rfl | exact o_lenm rfl rfl rfl | exact o_len rfl rfl rfl | exact o_len0 rfl rfl rfl | exact o_lens rfl rfl rfl | exact o_lent rfl rfl | exact ob_len rfl rfl rfl rfl (by first | rfl | assumption | omega | (simp; done) | (simp; omega)) | exact o_add1 rfl rfl rfl (by omega) | exact o_addn rfl rfl rfl (by omega) | exact o_addc rfl rfl rfl (by omega) (by omega) | exact o_add rfl rfl rfl (by omega) | exact o_sub1 rfl rfl rfl (by omega) | exact o_sub rfl rfl rfl (by omega) | exact o_acall rfl rfl rfl rfl (by assumption) | exact o_convb ⟨_, Try.underlying3⟩ Try.underlying5 rfl rfl | exact o_convu ⟨_, Try.underlying3⟩ Try.underlying71 rfl rfl | exact o_cv32 ⟨_, Try.underlying77⟩ Try.underlying71 rfl rfl | exact o_cvk ⟨_, Try.underlying71⟩ Try.underlying3 rfl rfl | exact o_cv8 ⟨_, Try.underlying5⟩ Try.underlying3 rfl rfl | exact o_convs Try.underlying33 Try.underlying5 Try.underlying9 rfl rfl | exact ob_cutr rfl rfl rfl (by simp) (by decide) | exact ob_cutf rfl rfl rfl rfl rfl rfl (by simp) (by decide) | exact ob_cutfh rfl rfl rfl rfl rfl rfl rfl (by first | assumption | omega) (by simp) (by decide) | exact ok_cut_arr tabT rfl rfl rfl bnd_none (Nat.le_refl _) (by decide) | exact o_cutlh rfl rfl rfl rfl rfl (by omega) (by omega) | exact o_cutl rfl rfl rfl rfl (by omega) | exact o_cuth rfl rfl rfl rfl (by omega) | exact o_cutl3 rfl rfl rfl rfl (by omega) | exact o_cuth3 rfl rfl rfl rfl (by omega) | exact o_cutl2 rfl rfl rfl rfl rfl (by omega) | exact o_cuth2 rfl rfl rfl rfl rfl (by omega) | exact o_cutlh2 rfl rfl rfl rfl rfl rfl rfl (by first | omega | decide) (by first | omega | exact Nat.le_trans (m := 256) (by decide) (by omega)) | exact ob_cutl rfl rfl rfl rfl rfl rfl (by first | rfl | assumption | omega | (simp; done) | (simp; omega)) (by first | rfl | assumption | omega | (simp; done) | (simp; omega)) | exact ob_cutlh rfl rfl rfl rfl rfl rfl rfl rfl (by first | rfl | assumption | omega | (simp; done) | (simp; omega)) (by first | rfl | assumption | omega | (simp; done) | (simp; omega)) (by first | rfl | assumption | omega | (simp; done) | (simp; omega)) | exact ob_idx rfl rfl rfl rfl rfl rfl (by first | rfl | assumption | omega | (simp; done) | (simp; omega)) (by first | rfl | assumption | omega | (simp; done) | (simp; omega)) | exact ob_ld rfl rfl rfl (by first | rfl | assumption | omega | (simp; done) | (simp; omega)) (by first | rfl | assumption | omega | (simp; done) | (simp; omega)) rfl rfl | exact ob_eqs rfl rfl rfl | exact ob_nes rfl rfl rfl | exact o_bld zero_reader rfl rfl rfl rfl rfl rfl rfl | exact o_mkfnF rfl rfl rfl | exact o_bld zero_refreader rfl rfl rfl rfl rfl rfl rfl | exact e_bld rfl rfl rfl | exact e_bldk rfl rfl | exact z_bld0 rfl rfl rfl rfl rfl | exact z_bld rfl rfl rfl rfl rfl rfl rfl | exact o_mkfn rfl rfl rfl | exact o_xorb rfl rfl rfl)); (focus (first | exact want_n | exact want_g rfl (by with_reducible rfl)))) | (apply Wb; (focus (first | exact o_box rfl rfl rfl rfl | exact ob_app rfl rfl rfl rfl rfl (by first | exact o_many rfl | exact o_one _ _ rfl | exact o_zero rfl) (by first | rfl | assumption | omega | (simp; done) | (simp; omega)) (by first | omega | (simp; omega) | (simp; done)) (by first | omega | (simp; omega) | (simp; done)) | exact oo_app0 rfl rfl rfl rfl rfl (by first | exact o_many rfl | exact o_one _ _ rfl | exact o_zero rfl) (by first | omega | (simp; omega) | (simp; done)) (by first | omega | (simp; omega) | (simp; done)) | exact o_app rfl rfl rfl rfl rfl (by first | exact o_many rfl | exact o_one _ _ rfl | exact o_zero rfl) (by first | omega | (simp; omega) | (simp; done)) (by first | omega | (simp; omega) | (simp; done)) | exact o_appn rfl rfl rfl rfl rfl (by first | exact o_many rfl | exact o_one _ _ rfl | exact o_zero rfl) (by first | omega | (simp; omega) | (simp; done)) (by first | omega | (simp; omega) | (simp; done)) | exact o_app1 rfl rfl rfl rfl rfl (by first | exact o_many rfl | exact o_one _ _ rfl | exact o_zero rfl) (by exact rfl) (by first | omega | (simp; omega) | (simp; done)) (by first | omega | (simp; omega) | (simp; done)) | exact o_app0 rfl rfl rfl rfl rfl (by first | exact o_many rfl | exact o_one _ _ rfl | exact o_zero rfl) (by first | omega | (simp; omega) | (simp; done)) (by first | omega | (simp; omega) | (simp; done)) | exact o_bsl0O rfl rfl rfl | exact z_bsll rfl rfl rfl rfl rfl rfl rfl rfl rfl | exact z_alloc rfl rfl rfl | exact ob_copy rfl rfl rfl rfl rfl (by first | rfl | assumption | omega | (simp; done) | (simp; omega)) (by first | rfl | assumption | omega | (simp; done) | (simp; omega)) (by first | rfl | assumption | omega | (simp; done) | (simp; omega)) (by first | rfl | assumption | omega | (simp; done) | (simp; omega)) | exact ob_zeros (f := byteA) (z := 0#8) Try.underlying3 rfl rfl rfl rfl rfl rfl (by omega) (by first | rfl | assumption | omega | (simp; done) | (simp; omega)) (by first | omega | (simp; omega) | (simp; done)) (by first | omega | (simp; omega) | (simp; done)) | exact ob_make (f := byteA) (z := 0#8) rfl rfl rfl rfl rfl rfl rfl rfl (by decide) (by decide))); (focus (first | exact want_n | exact want_g rfl (by with_reducible rfl)))) | (apply Ws; (focus (first | exact ob_st rfl rfl rfl (by first | rfl | assumption | omega | (simp; done) | (simp; omega)) (by first | rfl | assumption | omega | (simp; done) | (simp; omega)) rfl (fun _ => rfl) rfl rfl | exact ob_st0 rfl rfl rfl (by first | rfl | assumption | omega | (simp; done) | (simp; omega)) (by first | rfl | assumption | omega | (simp; done) | (simp; omega)) rfl | exact ok_store tabT (d := none) rfl rfl rfl rfl rfl rfl rfl rfl rfl rfl | exact ob_clear (f := byteA) (z := 0#8) rfl rfl rfl rfl (by first | rfl | assumption | omega | (simp; done) | (simp; omega)) (by first | rfl | assumption | omega | (simp; done) | (simp; omega)) (by first | rfl | assumption | omega | (simp; done) | (simp; omega)))); (focus (first | exact want_n | exact want_g rfl (by with_reducible rfl)))) | (refine Wskip (by first | exact want_f rfl (by with_reducible exact b_nt) | exact want_f rfl (by with_reducible exact b_nf) | exact want_t rfl) rfl ?_) | refine Wgt rfl rfl (by first | assumption | omega | exact rfl) ?_ | refine Wgf rfl rfl (by first | assumption | omega | exact rfl) ?_ | (refine Wgb rfl rfl (by with_reducible assumption) ?_) | (refine cb_is _ (by assumption) ?_)))); exact kHid.out) : Q := h ⟨k⟩
theorem byAt_get {b : List (BitVec 8)} {i : Nat} (h : i < b.length) : b[i] = byAt b i := by unfold byAt; rw [List.getD_eq_getElem?_getD, List.getElem?_eq_getElem h]; rfl
theorem B8_one {x : BitVec 8} : (B8 x = 1) ↔ x = 1#8 := by
  rw [B8_def]
  constructor
  · intro h
    apply BitVec.eq_of_toNat_eq
    have : x.toNat = 1 := by omega
    simpa using this
  · intro h; subst h; rfl
attribute [local irreducible] OpOK AWops AW CondB Go2 AFn thenA inBlockA noGotoA orderOk wantedA
set_option maxRecDepth 100000 in
set_option maxHeartbeats 4000000 in
theorem a_bequal (x y : List (BitVec 8)) : AFn Try.prog 26 [bytesA x, bytesA y] (boolA (decide (x = y))) := by
  refine AFn_intro Try.func26 rfl Try.ntmps26 rfl (by simp) [_] rfl fun E hE => ?_; have hnt : (!true) = false := rfl; have hnf : (!false) = true := rfl
  refine wY ?_
  (apply Wv; (focus (exact ob_eqs rfl rfl rfl)); (focus (first | exact want_n | exact want_g rfl (by with_reducible rfl))))
  refine wY ?_
  exact fin ⟨res_of rfl rfl rfl, trivial⟩
set_option maxRecDepth 100000 in
set_option maxHeartbeats 4000000 in
theorem c_clone (x : List (BitVec 8)) (h0 : 0 < x.length) (hl : x.length ≤ 1000000) : CFn Try.prog 25 [bytesA x] [] (.own 5 1 x.length .row) [(5, .own 5 1 (x.map byteA))] := by
  refine CFn_intro Try.func25 rfl Try.ntmps25 rfl (by simp) [_] rfl fun E hE => ?_; have hnt : (!true) = false := rfl; have hnf : (!false) = true := rfl
  refine wY ?_
  (apply Wv; (focus (exact ok_eqnil rfl rfl rfl rfl (by rw [List.length_map]; exact h0))); (focus (first | exact want_n | exact want_g rfl (by with_reducible rfl))))
  refine wY ?_
  exact finc ⟨⟨(by repeat' (first | exact True.intro | rfl | apply And.intro)), rfl⟩, rc_of rfl rfl rfl, trivial⟩
set_option maxRecDepth 100000 in
set_option maxHeartbeats 16000000 in
theorem a_cdecode (b : List (BitVec 8)) (hb : b.length ≤ 1000000) : AFn Try.prog 14 [bytesA b] (.tup [(decode b).1.av, intA (decode b).2]) := by
  by_cases h256 : b.length = 256
  · have h256' : (b.length : Int) = 256 := by omega
    have eb : (bareB b).length = 256 := by unfold bareB; rw [put4_len _ _ _ (by simp; omega)]; exact h256
    have c0 := c_clone b (by omega) hb
    have c1 := c_csum (bareB b)
    have c2 := a_bequal (sum4 (bareB b)) (sumIn b)
    have f0 : b[0]'(by omega) = byAt b 0 := byAt_get (by omega)
    have f1 : b[1]'(by omega) = byAt b 1 := byAt_get (by omega)
    have f2 : b[2]'(by omega) = byAt b 2 := byAt_get (by omega)
    have el : (bareB b).length = b.length := by omega
    unfold rwO at c1
    rw [el] at c1
    by_cases hs : sum4 (bareB b) = sumIn b
    · rw [decide_eq_true hs] at c2
      unfold sum4 sumIn at c2
      have hsm := rdNode_sm b
      have ce := a_cencode (rdNode b).1 hsm
      have cq := a_bequal (encode (rdNode b).1).1 b
      have hd0 : decode b = if (rdNode b).2.bad = false ∧ (encode (rdNode b).1).2 = 0 ∧ (encode (rdNode b).1).1 = b then ((rdNode b).1, 0) else (Nd.zero, 4) := by
        unfold decode; rw [if_pos h256, if_pos hs]
      rw [hd0]
      clear hd0 hsm
      by_cases hl : byAt b 0 = 1#8
      · have hl' : B8 (b[0]'(by omega)) = 1 := by rw [f0]; exact B8_one.2 hl
        have en : rdNode b = (⟨true, (rdMany (rdEnt b) (byAt b 1).toNat ⟨8, false⟩).1, [], [], (rdMany (rdMsg b) (byAt b 2).toNat (rdMany (rdEnt b) (byAt b 1).toNat ⟨8, false⟩).2).1⟩, (rdMany (rdMsg b) (byAt b 2).toNat (rdMany (rdEnt b) (byAt b 1).toNat ⟨8, false⟩).2).2) := by unfold rdNode; rw [if_pos hl]
        have hp1 := rdMany_pos (rdEnt b) (rdEnt_pos b) ⟨8, false⟩ (byAt b 1).toNat
        have hq1 := (byAt b 1).isLt
        have hq2 := (byAt b 2).isLt
        dsimp only at hp1
        have ca := c_some_ent b ⟨8, false⟩ ((byAt b 1).toNat : Nat) hb (by dsimp only; omega) (by omega)
        rw [Int.toNat_natCast] at ca
        have cm := c_some_msg b (rdMany (rdEnt b) (byAt b 1).toNat ⟨8, false⟩).2 ((byAt b 2).toNat : Nat) hb (by omega) (by omega)
        rw [Int.toNat_natCast] at cm
        rw [en] at ce cq ⊢
        generalize rdMany (rdEnt b) (byAt b 1).toNat ⟨8, false⟩ = RE at *
        obtain ⟨es, s1⟩ := RE
        dsimp only at cm ca ce cq hp1 ⊢
        generalize rdMany (rdMsg b) (byAt b 2).toNat s1 = RM at *
        obtain ⟨ms, ⟨p2, bad2⟩⟩ := RM
        dsimp only at cm ca ce cq ⊢
        clear en
        have ce := AFn_weak ce (xs := [nodeA true (entsA es) nilA nilA (msgsA ms)]) (fun H => .cons (Wk.agg (.cons (Wk.data rfl) (.cons (Wk.data rfl) (.cons Wk.nil (.cons Wk.nil (.cons (Wk.data rfl) .nil)))))) .nil)
        generalize encode ⟨true, es, [], [], ms⟩ = EN at *
        obtain ⟨enb, ene⟩ := EN
        dsimp only at ce cq ⊢
        rw [← f1] at ca
        rw [← f2] at cm
        try unfold bxR at cm
        try dsimp only at cm
        clear hp1 hq1 hq2
        cases bad2 with
        | true =>
          rw [if_neg (by simp)]
          refine AFn_intro Try.func14 rfl Try.ntmps14 rfl (by simp) [_, _] rfl fun E hE => ?_; have hnt : (!true) = false := rfl; have hnf : (!false) = true := rfl
          have d0 := ccall Try.func25 (c0) (by decide +kernel) (by decide +kernel)
          have d1 := ccall Try.func27 (c1) (by decide +kernel) (by decide +kernel)
          have d2 := acall Try.func26 (c2) (by decide +kernel) (by decide +kernel)
          have d3 := ccall Try.func28 (ca) (by decide +kernel) (by decide +kernel)
          have d4 := ccall Try.func34 (cm) (by decide +kernel) (by decide +kernel)
          have d5 := acall Try.func18 (ce) (by decide +kernel) (by decide +kernel)
          have d7 := acall Try.func26 (cq) (by decide +kernel) (by decide +kernel)
          refine wX ?_
          (apply WcN [] [16]; (focus (exact o_ccall [(5, 16)] d0 rfl rfl rfl rfl (by repeat (first | exact .nil | refine .cons (.inl ⟨rfl, rfl⟩) ?_ | refine .cons (.inr ⟨rfl, fun _ => Wk.tok⟩) ?_)) (by repeat' (first | exact True.intro | rfl | apply And.intro)) (by repeat' (first | exact True.intro | rfl | apply And.intro)) rfl rfl rfl)); (focus (exact rfl)); (focus (exact rfl)); (focus (first | exact want_n | exact want_g rfl (by with_reducible rfl))))
          refine wX ?_
          (apply WvN [16]; (focus (exact o_rcall [(1000, 16)] d1 rfl rfl rfl rfl rfl (by repeat (first | exact .nil | refine .cons (.inl ⟨rfl, rfl⟩) ?_ | refine .cons (.inr ⟨rfl, fun _ => Wk.tok⟩) ?_)) (by repeat' (first | exact True.intro | rfl | apply And.intro)) (by repeat' (first | exact True.intro | rfl | apply And.intro)) rfl rfl)); (focus (exact rfl)); (focus (first | exact want_n | exact want_g rfl (by with_reducible rfl))))
          refine wX ?_
          (apply WcN [28] [28]; (focus (exact o_ccalld [(1000, 28)] d3 rfl rfl rfl rfl rfl (by repeat (first | exact .nil | refine .cons (.inl ⟨rfl, rfl⟩) ?_ | refine .cons (.inr ⟨rfl, fun _ => Wk.tok⟩) ?_)) (by repeat' (first | exact True.intro | rfl | apply And.intro)) (by repeat' (first | exact True.intro | rfl | apply And.intro)) rfl rfl)); (focus (exact rfl)); (focus (exact rfl)); (focus (first | exact want_n | exact want_g rfl (by with_reducible rfl))))
          refine wX ?_
          (apply WcN [28] [28]; (focus (exact o_ccalld [(1000, 28)] d4 rfl rfl rfl rfl rfl (by repeat (first | exact .nil | refine .cons (.inl ⟨rfl, rfl⟩) ?_ | refine .cons (.inr ⟨rfl, fun _ => Wk.tok⟩) ?_)) (by repeat' (first | exact True.intro | rfl | apply And.intro)) (by repeat' (first | exact True.intro | rfl | apply And.intro)) rfl rfl)); (focus (exact rfl)); (focus (exact rfl)); (focus (first | exact want_n | exact want_g rfl (by with_reducible rfl))))
          refine wX ?_
          rw [decide_eq_true hl']
          refine Was 66 (nodeA true (entsA es) nilA nilA (msgsA ms)) rfl ?_
          refine wX ?_
          exact fin ⟨res_varl rfl rfl rfl (fun _ => by (repeat (first | exact wkl0 | refine wkd rfl ?_ | refine wkt ?_ | refine wkn ?_))), res_of rfl rfl rfl, trivial⟩
        | false =>
          by_cases he : ene = 0
          · by_cases hq : enb = b
            · rw [if_pos ⟨rfl, he, hq⟩]
              rw [decide_eq_true hq] at cq
              refine AFn_intro Try.func14 rfl Try.ntmps14 rfl (by simp) [_, _] rfl fun E hE => ?_; have hnt : (!true) = false := rfl; have hnf : (!false) = true := rfl
              have d0 := ccall Try.func25 (c0) (by decide +kernel) (by decide +kernel)
              have d1 := ccall Try.func27 (c1) (by decide +kernel) (by decide +kernel)
              have d2 := acall Try.func26 (c2) (by decide +kernel) (by decide +kernel)
              have d3 := ccall Try.func28 (ca) (by decide +kernel) (by decide +kernel)
              have d4 := ccall Try.func34 (cm) (by decide +kernel) (by decide +kernel)
              have d5 := acall Try.func18 (ce) (by decide +kernel) (by decide +kernel)
              have d7 := acall Try.func26 (cq) (by decide +kernel) (by decide +kernel)
              refine wX ?_
              (apply WcN [] [16]; (focus (exact o_ccall [(5, 16)] d0 rfl rfl rfl rfl (by repeat (first | exact .nil | refine .cons (.inl ⟨rfl, rfl⟩) ?_ | refine .cons (.inr ⟨rfl, fun _ => Wk.tok⟩) ?_)) (by repeat' (first | exact True.intro | rfl | apply And.intro)) (by repeat' (first | exact True.intro | rfl | apply And.intro)) rfl rfl rfl)); (focus (exact rfl)); (focus (exact rfl)); (focus (first | exact want_n | exact want_g rfl (by with_reducible rfl))))
              refine wX ?_
              (apply WvN [16]; (focus (exact o_rcall [(1000, 16)] d1 rfl rfl rfl rfl rfl (by repeat (first | exact .nil | refine .cons (.inl ⟨rfl, rfl⟩) ?_ | refine .cons (.inr ⟨rfl, fun _ => Wk.tok⟩) ?_)) (by repeat' (first | exact True.intro | rfl | apply And.intro)) (by repeat' (first | exact True.intro | rfl | apply And.intro)) rfl rfl)); (focus (exact rfl)); (focus (first | exact want_n | exact want_g rfl (by with_reducible rfl))))
              refine wX ?_
              (apply WcN [28] [28]; (focus (exact o_ccalld [(1000, 28)] d3 rfl rfl rfl rfl rfl (by repeat (first | exact .nil | refine .cons (.inl ⟨rfl, rfl⟩) ?_ | refine .cons (.inr ⟨rfl, fun _ => Wk.tok⟩) ?_)) (by repeat' (first | exact True.intro | rfl | apply And.intro)) (by repeat' (first | exact True.intro | rfl | apply And.intro)) rfl rfl)); (focus (exact rfl)); (focus (exact rfl)); (focus (first | exact want_n | exact want_g rfl (by with_reducible rfl))))
              refine wX ?_
              (apply WcN [28] [28]; (focus (exact o_ccalld [(1000, 28)] d4 rfl rfl rfl rfl rfl (by repeat (first | exact .nil | refine .cons (.inl ⟨rfl, rfl⟩) ?_ | refine .cons (.inr ⟨rfl, fun _ => Wk.tok⟩) ?_)) (by repeat' (first | exact True.intro | rfl | apply And.intro)) (by repeat' (first | exact True.intro | rfl | apply And.intro)) rfl rfl)); (focus (exact rfl)); (focus (exact rfl)); (focus (first | exact want_n | exact want_g rfl (by with_reducible rfl))))
              refine wX ?_
              rw [decide_eq_true hl']
              refine Was 66 (nodeA true (entsA es) nilA nilA (msgsA ms)) rfl ?_
              refine wX ?_
              exact fin ⟨res_varl rfl rfl rfl (fun _ => by (repeat (first | exact wkl0 | refine wkd rfl ?_ | refine wkt ?_ | refine wkn ?_))), res_of rfl rfl rfl, trivial⟩
            · rw [if_neg (fun h => hq h.2.2)]
              rw [decide_eq_false hq] at cq
              refine AFn_intro Try.func14 rfl Try.ntmps14 rfl (by simp) [_, _] rfl fun E hE => ?_; have hnt : (!true) = false := rfl; have hnf : (!false) = true := rfl
              have d0 := ccall Try.func25 (c0) (by decide +kernel) (by decide +kernel)
              have d1 := ccall Try.func27 (c1) (by decide +kernel) (by decide +kernel)
              have d2 := acall Try.func26 (c2) (by decide +kernel) (by decide +kernel)
              have d3 := ccall Try.func28 (ca) (by decide +kernel) (by decide +kernel)
              have d4 := ccall Try.func34 (cm) (by decide +kernel) (by decide +kernel)
              have d5 := acall Try.func18 (ce) (by decide +kernel) (by decide +kernel)
              have d7 := acall Try.func26 (cq) (by decide +kernel) (by decide +kernel)
              refine wX ?_
              (apply WcN [] [16]; (focus (exact o_ccall [(5, 16)] d0 rfl rfl rfl rfl (by repeat (first | exact .nil | refine .cons (.inl ⟨rfl, rfl⟩) ?_ | refine .cons (.inr ⟨rfl, fun _ => Wk.tok⟩) ?_)) (by repeat' (first | exact True.intro | rfl | apply And.intro)) (by repeat' (first | exact True.intro | rfl | apply And.intro)) rfl rfl rfl)); (focus (exact rfl)); (focus (exact rfl)); (focus (first | exact want_n | exact want_g rfl (by with_reducible rfl))))
              refine wX ?_
              (apply WvN [16]; (focus (exact o_rcall [(1000, 16)] d1 rfl rfl rfl rfl rfl (by repeat (first | exact .nil | refine .cons (.inl ⟨rfl, rfl⟩) ?_ | refine .cons (.inr ⟨rfl, fun _ => Wk.tok⟩) ?_)) (by repeat' (first | exact True.intro | rfl | apply And.intro)) (by repeat' (first | exact True.intro | rfl | apply And.intro)) rfl rfl)); (focus (exact rfl)); (focus (first | exact want_n | exact want_g rfl (by with_reducible rfl))))
              refine wX ?_
              (apply WcN [28] [28]; (focus (exact o_ccalld [(1000, 28)] d3 rfl rfl rfl rfl rfl (by repeat (first | exact .nil | refine .cons (.inl ⟨rfl, rfl⟩) ?_ | refine .cons (.inr ⟨rfl, fun _ => Wk.tok⟩) ?_)) (by repeat' (first | exact True.intro | rfl | apply And.intro)) (by repeat' (first | exact True.intro | rfl | apply And.intro)) rfl rfl)); (focus (exact rfl)); (focus (exact rfl)); (focus (first | exact want_n | exact want_g rfl (by with_reducible rfl))))
              refine wX ?_
              (apply WcN [28] [28]; (focus (exact o_ccalld [(1000, 28)] d4 rfl rfl rfl rfl rfl (by repeat (first | exact .nil | refine .cons (.inl ⟨rfl, rfl⟩) ?_ | refine .cons (.inr ⟨rfl, fun _ => Wk.tok⟩) ?_)) (by repeat' (first | exact True.intro | rfl | apply And.intro)) (by repeat' (first | exact True.intro | rfl | apply And.intro)) rfl rfl)); (focus (exact rfl)); (focus (exact rfl)); (focus (first | exact want_n | exact want_g rfl (by with_reducible rfl))))
              refine wX ?_
              rw [decide_eq_true hl']
              refine Was 66 (nodeA true (entsA es) nilA nilA (msgsA ms)) rfl ?_
              refine wX ?_
              exact fin ⟨res_varl rfl rfl rfl (fun _ => by (repeat (first | exact wkl0 | refine wkd rfl ?_ | refine wkt ?_ | refine wkn ?_))), res_of rfl rfl rfl, trivial⟩
          · rw [if_neg (fun h => he h.2.1)]
            refine AFn_intro Try.func14 rfl Try.ntmps14 rfl (by simp) [_, _] rfl fun E hE => ?_; have hnt : (!true) = false := rfl; have hnf : (!false) = true := rfl
            have d0 := ccall Try.func25 (c0) (by decide +kernel) (by decide +kernel)
            have d1 := ccall Try.func27 (c1) (by decide +kernel) (by decide +kernel)
            have d2 := acall Try.func26 (c2) (by decide +kernel) (by decide +kernel)
            have d3 := ccall Try.func28 (ca) (by decide +kernel) (by decide +kernel)
            have d4 := ccall Try.func34 (cm) (by decide +kernel) (by decide +kernel)
            have d5 := acall Try.func18 (ce) (by decide +kernel) (by decide +kernel)
            have d7 := acall Try.func26 (cq) (by decide +kernel) (by decide +kernel)
            refine wX ?_
            (apply WcN [] [16]; (focus (exact o_ccall [(5, 16)] d0 rfl rfl rfl rfl (by repeat (first | exact .nil | refine .cons (.inl ⟨rfl, rfl⟩) ?_ | refine .cons (.inr ⟨rfl, fun _ => Wk.tok⟩) ?_)) (by repeat' (first | exact True.intro | rfl | apply And.intro)) (by repeat' (first | exact True.intro | rfl | apply And.intro)) rfl rfl rfl)); (focus (exact rfl)); (focus (exact rfl)); (focus (first | exact want_n | exact want_g rfl (by with_reducible rfl))))
            refine wX ?_
            (apply WvN [16]; (focus (exact o_rcall [(1000, 16)] d1 rfl rfl rfl rfl rfl (by repeat (first | exact .nil | refine .cons (.inl ⟨rfl, rfl⟩) ?_ | refine .cons (.inr ⟨rfl, fun _ => Wk.tok⟩) ?_)) (by repeat' (first | exact True.intro | rfl | apply And.intro)) (by repeat' (first | exact True.intro | rfl | apply And.intro)) rfl rfl)); (focus (exact rfl)); (focus (first | exact want_n | exact want_g rfl (by with_reducible rfl))))
            refine wX ?_
            (apply WcN [28] [28]; (focus (exact o_ccalld [(1000, 28)] d3 rfl rfl rfl rfl rfl (by repeat (first | exact .nil | refine .cons (.inl ⟨rfl, rfl⟩) ?_ | refine .cons (.inr ⟨rfl, fun _ => Wk.tok⟩) ?_)) (by repeat' (first | exact True.intro | rfl | apply And.intro)) (by repeat' (first | exact True.intro | rfl | apply And.intro)) rfl rfl)); (focus (exact rfl)); (focus (exact rfl)); (focus (first | exact want_n | exact want_g rfl (by with_reducible rfl))))
            refine wX ?_
            (apply WcN [28] [28]; (focus (exact o_ccalld [(1000, 28)] d4 rfl rfl rfl rfl rfl (by repeat (first | exact .nil | refine .cons (.inl ⟨rfl, rfl⟩) ?_ | refine .cons (.inr ⟨rfl, fun _ => Wk.tok⟩) ?_)) (by repeat' (first | exact True.intro | rfl | apply And.intro)) (by repeat' (first | exact True.intro | rfl | apply And.intro)) rfl rfl)); (focus (exact rfl)); (focus (exact rfl)); (focus (first | exact want_n | exact want_g rfl (by with_reducible rfl))))
            refine wX ?_
            rw [decide_eq_true hl']
            refine Was 66 (nodeA true (entsA es) nilA nilA (msgsA ms)) rfl ?_
            refine wX ?_
            exact fin ⟨res_varl rfl rfl rfl (fun _ => by (repeat (first | exact wkl0 | refine wkd rfl ?_ | refine wkt ?_ | refine wkn ?_))), res_of rfl rfl rfl, trivial⟩
      · have hl' : ¬ B8 (b[0]'(by omega)) = 1 := by rw [f0]; exact fun h => hl (B8_one.1 h)
        have en : rdNode b = (⟨false, [], (rdMany (rdKid b) (byAt b 1).toNat ⟨8, false⟩).1, (rdMany (rdKey b) ((byAt b 1).toNat - 1) (rdMany (rdKid b) (byAt b 1).toNat ⟨8, false⟩).2).1, (rdMany (rdMsg b) (byAt b 2).toNat (rdMany (rdKey b) ((byAt b 1).toNat - 1) (rdMany (rdKid b) (byAt b 1).toNat ⟨8, false⟩).2).2).1⟩,
          (rdMany (rdMsg b) (byAt b 2).toNat (rdMany (rdKey b) ((byAt b 1).toNat - 1) (rdMany (rdKid b) (byAt b 1).toNat ⟨8, false⟩).2).2).2) := by unfold rdNode; rw [if_neg hl]
        have hp1 := rdMany_pos (rdKid b) (rdKid_pos b) ⟨8, false⟩ (byAt b 1).toNat
        have hp2 := rdMany_pos (rdKey b) (fun s => by have := rdKey_pos b s; omega) (rdMany (rdKid b) (byAt b 1).toNat ⟨8, false⟩).2 ((byAt b 1).toNat - 1)
        have hq1 := (byAt b 1).isLt
        have hq2 := (byAt b 2).isLt
        dsimp only at hp1
        have ca := c_some_kid b ⟨8, false⟩ ((byAt b 1).toNat : Nat) hb (by dsimp only; omega) (by omega)
        rw [Int.toNat_natCast] at ca
        have ck := c_some_key b (rdMany (rdKid b) (byAt b 1).toNat ⟨8, false⟩).2 (((byAt b 1).toNat : Nat) - 1) hb (by omega) (by omega)
        rw [show ((((byAt b 1).toNat : Nat) : Int) - 1).toNat = (byAt b 1).toNat - 1 by omega] at ck
        have cm := c_some_msg b (rdMany (rdKey b) ((byAt b 1).toNat - 1) (rdMany (rdKid b) (byAt b 1).toNat ⟨8, false⟩).2).2 ((byAt b 2).toNat : Nat) hb (by omega) (by omega)
        rw [Int.toNat_natCast] at cm
        rw [en] at ce cq ⊢
        generalize rdMany (rdKid b) (byAt b 1).toNat ⟨8, false⟩ = RE at *
        obtain ⟨ks, s1⟩ := RE
        dsimp only at cm ck ca ce cq hp1 hp2 ⊢
        generalize rdMany (rdKey b) ((byAt b 1).toNat - 1) s1 = RK at *
        obtain ⟨ps, s3⟩ := RK
        dsimp only at cm ck ca ce cq hp2 ⊢
        generalize rdMany (rdMsg b) (byAt b 2).toNat s3 = RM at *
        obtain ⟨ms, ⟨p2, bad2⟩⟩ := RM
        dsimp only at cm ck ca ce cq ⊢
        clear en
        have ce := AFn_weak ce (xs := [nodeA false nilA (intsA ks) (keysA ps) (msgsA ms)]) (fun H => .cons (Wk.agg (.cons (Wk.data rfl) (.cons Wk.nil (.cons (Wk.data rfl) (.cons (Wk.data rfl) (.cons (Wk.data rfl) .nil)))))) .nil)
        generalize encode ⟨false, [], ks, ps, ms⟩ = EN at *
        obtain ⟨enb, ene⟩ := EN
        dsimp only at ce cq ⊢
        rw [← f1] at ca ck
        rw [← f2] at cm
        have hq3 := (b[1]'(by omega)).isLt
        try unfold bxR at cm
        try dsimp only at cm
        clear hp1 hp2 hq1 hq2
        cases bad2 with
        | true =>
          rw [if_neg (by simp)]
          refine AFn_intro Try.func14 rfl Try.ntmps14 rfl (by simp) [_, _] rfl fun E hE => ?_; have hnt : (!true) = false := rfl; have hnf : (!false) = true := rfl
          have d0 := ccall Try.func25 (c0) (by decide +kernel) (by decide +kernel)
          have d1 := ccall Try.func27 (c1) (by decide +kernel) (by decide +kernel)
          have d2 := acall Try.func26 (c2) (by decide +kernel) (by decide +kernel)
          have d3 := ccall Try.func30 (ca) (by decide +kernel) (by decide +kernel)
          have d6 := ccall Try.func32 (ck) (by decide +kernel) (by decide +kernel)
          have d4 := ccall Try.func34 (cm) (by decide +kernel) (by decide +kernel)
          have d5 := acall Try.func18 (ce) (by decide +kernel) (by decide +kernel)
          have d7 := acall Try.func26 (cq) (by decide +kernel) (by decide +kernel)
          refine wX ?_
          (apply WcN [] [16]; (focus (exact o_ccall [(5, 16)] d0 rfl rfl rfl rfl (by repeat (first | exact .nil | refine .cons (.inl ⟨rfl, rfl⟩) ?_ | refine .cons (.inr ⟨rfl, fun _ => Wk.tok⟩) ?_)) (by repeat' (first | exact True.intro | rfl | apply And.intro)) (by repeat' (first | exact True.intro | rfl | apply And.intro)) rfl rfl rfl)); (focus (exact rfl)); (focus (exact rfl)); (focus (first | exact want_n | exact want_g rfl (by with_reducible rfl))))
          refine wX ?_
          (apply WvN [16]; (focus (exact o_rcall [(1000, 16)] d1 rfl rfl rfl rfl rfl (by repeat (first | exact .nil | refine .cons (.inl ⟨rfl, rfl⟩) ?_ | refine .cons (.inr ⟨rfl, fun _ => Wk.tok⟩) ?_)) (by repeat' (first | exact True.intro | rfl | apply And.intro)) (by repeat' (first | exact True.intro | rfl | apply And.intro)) rfl rfl)); (focus (exact rfl)); (focus (first | exact want_n | exact want_g rfl (by with_reducible rfl))))
          refine wX ?_
          (apply WcN [28] [28]; (focus (exact o_ccalld [(1000, 28)] d3 rfl rfl rfl rfl rfl (by repeat (first | exact .nil | refine .cons (.inl ⟨rfl, rfl⟩) ?_ | refine .cons (.inr ⟨rfl, fun _ => Wk.tok⟩) ?_)) (by repeat' (first | exact True.intro | rfl | apply And.intro)) (by repeat' (first | exact True.intro | rfl | apply And.intro)) rfl rfl)); (focus (exact rfl)); (focus (exact rfl)); (focus (first | exact want_n | exact want_g rfl (by with_reducible rfl))))
          refine wX ?_
          (apply WcN [28] [28]; (focus (exact o_ccalld [(1000, 28)] d6 rfl rfl rfl rfl rfl (by repeat (first | exact .nil | refine .cons (.inl ⟨rfl, rfl⟩) ?_ | refine .cons (.inr ⟨rfl, fun _ => Wk.tok⟩) ?_)) (by repeat' (first | exact True.intro | rfl | apply And.intro)) (by repeat' (first | exact True.intro | rfl | apply And.intro)) rfl rfl)); (focus (exact rfl)); (focus (exact rfl)); (focus (first | exact want_n | exact want_g rfl (by with_reducible rfl))))
          refine wX ?_
          (apply WcN [28] [28]; (focus (exact o_ccalld [(1000, 28)] d4 rfl rfl rfl rfl rfl (by repeat (first | exact .nil | refine .cons (.inl ⟨rfl, rfl⟩) ?_ | refine .cons (.inr ⟨rfl, fun _ => Wk.tok⟩) ?_)) (by repeat' (first | exact True.intro | rfl | apply And.intro)) (by repeat' (first | exact True.intro | rfl | apply And.intro)) rfl rfl)); (focus (exact rfl)); (focus (exact rfl)); (focus (first | exact want_n | exact want_g rfl (by with_reducible rfl))))
          refine wX ?_
          rw [decide_eq_false hl']
          refine Was 66 (nodeA false nilA (intsA ks) (keysA ps) (msgsA ms)) rfl ?_
          refine wX ?_
          exact fin ⟨res_varl rfl rfl rfl (fun _ => by (repeat (first | exact wkl0 | refine wkd rfl ?_ | refine wkt ?_ | refine wkn ?_))), res_of rfl rfl rfl, trivial⟩
        | false =>
          by_cases he : ene = 0
          · by_cases hq : enb = b
            · rw [if_pos ⟨rfl, he, hq⟩]
              rw [decide_eq_true hq] at cq
              refine AFn_intro Try.func14 rfl Try.ntmps14 rfl (by simp) [_, _] rfl fun E hE => ?_; have hnt : (!true) = false := rfl; have hnf : (!false) = true := rfl
              have d0 := ccall Try.func25 (c0) (by decide +kernel) (by decide +kernel)
              have d1 := ccall Try.func27 (c1) (by decide +kernel) (by decide +kernel)
              have d2 := acall Try.func26 (c2) (by decide +kernel) (by decide +kernel)
              have d3 := ccall Try.func30 (ca) (by decide +kernel) (by decide +kernel)
              have d6 := ccall Try.func32 (ck) (by decide +kernel) (by decide +kernel)
              have d4 := ccall Try.func34 (cm) (by decide +kernel) (by decide +kernel)
              have d5 := acall Try.func18 (ce) (by decide +kernel) (by decide +kernel)
              have d7 := acall Try.func26 (cq) (by decide +kernel) (by decide +kernel)
              refine wX ?_
              (apply WcN [] [16]; (focus (exact o_ccall [(5, 16)] d0 rfl rfl rfl rfl (by repeat (first | exact .nil | refine .cons (.inl ⟨rfl, rfl⟩) ?_ | refine .cons (.inr ⟨rfl, fun _ => Wk.tok⟩) ?_)) (by repeat' (first | exact True.intro | rfl | apply And.intro)) (by repeat' (first | exact True.intro | rfl | apply And.intro)) rfl rfl rfl)); (focus (exact rfl)); (focus (exact rfl)); (focus (first | exact want_n | exact want_g rfl (by with_reducible rfl))))
              refine wX ?_
              (apply WvN [16]; (focus (exact o_rcall [(1000, 16)] d1 rfl rfl rfl rfl rfl (by repeat (first | exact .nil | refine .cons (.inl ⟨rfl, rfl⟩) ?_ | refine .cons (.inr ⟨rfl, fun _ => Wk.tok⟩) ?_)) (by repeat' (first | exact True.intro | rfl | apply And.intro)) (by repeat' (first | exact True.intro | rfl | apply And.intro)) rfl rfl)); (focus (exact rfl)); (focus (first | exact want_n | exact want_g rfl (by with_reducible rfl))))
              refine wX ?_
              (apply WcN [28] [28]; (focus (exact o_ccalld [(1000, 28)] d3 rfl rfl rfl rfl rfl (by repeat (first | exact .nil | refine .cons (.inl ⟨rfl, rfl⟩) ?_ | refine .cons (.inr ⟨rfl, fun _ => Wk.tok⟩) ?_)) (by repeat' (first | exact True.intro | rfl | apply And.intro)) (by repeat' (first | exact True.intro | rfl | apply And.intro)) rfl rfl)); (focus (exact rfl)); (focus (exact rfl)); (focus (first | exact want_n | exact want_g rfl (by with_reducible rfl))))
              refine wX ?_
              (apply WcN [28] [28]; (focus (exact o_ccalld [(1000, 28)] d6 rfl rfl rfl rfl rfl (by repeat (first | exact .nil | refine .cons (.inl ⟨rfl, rfl⟩) ?_ | refine .cons (.inr ⟨rfl, fun _ => Wk.tok⟩) ?_)) (by repeat' (first | exact True.intro | rfl | apply And.intro)) (by repeat' (first | exact True.intro | rfl | apply And.intro)) rfl rfl)); (focus (exact rfl)); (focus (exact rfl)); (focus (first | exact want_n | exact want_g rfl (by with_reducible rfl))))
              refine wX ?_
              (apply WcN [28] [28]; (focus (exact o_ccalld [(1000, 28)] d4 rfl rfl rfl rfl rfl (by repeat (first | exact .nil | refine .cons (.inl ⟨rfl, rfl⟩) ?_ | refine .cons (.inr ⟨rfl, fun _ => Wk.tok⟩) ?_)) (by repeat' (first | exact True.intro | rfl | apply And.intro)) (by repeat' (first | exact True.intro | rfl | apply And.intro)) rfl rfl)); (focus (exact rfl)); (focus (exact rfl)); (focus (first | exact want_n | exact want_g rfl (by with_reducible rfl))))
              refine wX ?_
              rw [decide_eq_false hl']
              refine Was 66 (nodeA false nilA (intsA ks) (keysA ps) (msgsA ms)) rfl ?_
              refine wX ?_
              exact fin ⟨res_varl rfl rfl rfl (fun _ => by (repeat (first | exact wkl0 | refine wkd rfl ?_ | refine wkt ?_ | refine wkn ?_))), res_of rfl rfl rfl, trivial⟩
            · rw [if_neg (fun h => hq h.2.2)]
              rw [decide_eq_false hq] at cq
              refine AFn_intro Try.func14 rfl Try.ntmps14 rfl (by simp) [_, _] rfl fun E hE => ?_; have hnt : (!true) = false := rfl; have hnf : (!false) = true := rfl
              have d0 := ccall Try.func25 (c0) (by decide +kernel) (by decide +kernel)
              have d1 := ccall Try.func27 (c1) (by decide +kernel) (by decide +kernel)
              have d2 := acall Try.func26 (c2) (by decide +kernel) (by decide +kernel)
              have d3 := ccall Try.func30 (ca) (by decide +kernel) (by decide +kernel)
              have d6 := ccall Try.func32 (ck) (by decide +kernel) (by decide +kernel)
              have d4 := ccall Try.func34 (cm) (by decide +kernel) (by decide +kernel)
              have d5 := acall Try.func18 (ce) (by decide +kernel) (by decide +kernel)
              have d7 := acall Try.func26 (cq) (by decide +kernel) (by decide +kernel)
              refine wX ?_
              (apply WcN [] [16]; (focus (exact o_ccall [(5, 16)] d0 rfl rfl rfl rfl (by repeat (first | exact .nil | refine .cons (.inl ⟨rfl, rfl⟩) ?_ | refine .cons (.inr ⟨rfl, fun _ => Wk.tok⟩) ?_)) (by repeat' (first | exact True.intro | rfl | apply And.intro)) (by repeat' (first | exact True.intro | rfl | apply And.intro)) rfl rfl rfl)); (focus (exact rfl)); (focus (exact rfl)); (focus (first | exact want_n | exact want_g rfl (by with_reducible rfl))))
              refine wX ?_
              (apply WvN [16]; (focus (exact o_rcall [(1000, 16)] d1 rfl rfl rfl rfl rfl (by repeat (first | exact .nil | refine .cons (.inl ⟨rfl, rfl⟩) ?_ | refine .cons (.inr ⟨rfl, fun _ => Wk.tok⟩) ?_)) (by repeat' (first | exact True.intro | rfl | apply And.intro)) (by repeat' (first | exact True.intro | rfl | apply And.intro)) rfl rfl)); (focus (exact rfl)); (focus (first | exact want_n | exact want_g rfl (by with_reducible rfl))))
              refine wX ?_
              (apply WcN [28] [28]; (focus (exact o_ccalld [(1000, 28)] d3 rfl rfl rfl rfl rfl (by repeat (first | exact .nil | refine .cons (.inl ⟨rfl, rfl⟩) ?_ | refine .cons (.inr ⟨rfl, fun _ => Wk.tok⟩) ?_)) (by repeat' (first | exact True.intro | rfl | apply And.intro)) (by repeat' (first | exact True.intro | rfl | apply And.intro)) rfl rfl)); (focus (exact rfl)); (focus (exact rfl)); (focus (first | exact want_n | exact want_g rfl (by with_reducible rfl))))
              refine wX ?_
              (apply WcN [28] [28]; (focus (exact o_ccalld [(1000, 28)] d6 rfl rfl rfl rfl rfl (by repeat (first | exact .nil | refine .cons (.inl ⟨rfl, rfl⟩) ?_ | refine .cons (.inr ⟨rfl, fun _ => Wk.tok⟩) ?_)) (by repeat' (first | exact True.intro | rfl | apply And.intro)) (by repeat' (first | exact True.intro | rfl | apply And.intro)) rfl rfl)); (focus (exact rfl)); (focus (exact rfl)); (focus (first | exact want_n | exact want_g rfl (by with_reducible rfl))))
              refine wX ?_
              (apply WcN [28] [28]; (focus (exact o_ccalld [(1000, 28)] d4 rfl rfl rfl rfl rfl (by repeat (first | exact .nil | refine .cons (.inl ⟨rfl, rfl⟩) ?_ | refine .cons (.inr ⟨rfl, fun _ => Wk.tok⟩) ?_)) (by repeat' (first | exact True.intro | rfl | apply And.intro)) (by repeat' (first | exact True.intro | rfl | apply And.intro)) rfl rfl)); (focus (exact rfl)); (focus (exact rfl)); (focus (first | exact want_n | exact want_g rfl (by with_reducible rfl))))
              refine wX ?_
              rw [decide_eq_false hl']
              refine Was 66 (nodeA false nilA (intsA ks) (keysA ps) (msgsA ms)) rfl ?_
              refine wX ?_
              exact fin ⟨res_varl rfl rfl rfl (fun _ => by (repeat (first | exact wkl0 | refine wkd rfl ?_ | refine wkt ?_ | refine wkn ?_))), res_of rfl rfl rfl, trivial⟩
          · rw [if_neg (fun h => he h.2.1)]
            refine AFn_intro Try.func14 rfl Try.ntmps14 rfl (by simp) [_, _] rfl fun E hE => ?_; have hnt : (!true) = false := rfl; have hnf : (!false) = true := rfl
            have d0 := ccall Try.func25 (c0) (by decide +kernel) (by decide +kernel)
            have d1 := ccall Try.func27 (c1) (by decide +kernel) (by decide +kernel)
            have d2 := acall Try.func26 (c2) (by decide +kernel) (by decide +kernel)
            have d3 := ccall Try.func30 (ca) (by decide +kernel) (by decide +kernel)
            have d6 := ccall Try.func32 (ck) (by decide +kernel) (by decide +kernel)
            have d4 := ccall Try.func34 (cm) (by decide +kernel) (by decide +kernel)
            have d5 := acall Try.func18 (ce) (by decide +kernel) (by decide +kernel)
            have d7 := acall Try.func26 (cq) (by decide +kernel) (by decide +kernel)
            refine wX ?_
            (apply WcN [] [16]; (focus (exact o_ccall [(5, 16)] d0 rfl rfl rfl rfl (by repeat (first | exact .nil | refine .cons (.inl ⟨rfl, rfl⟩) ?_ | refine .cons (.inr ⟨rfl, fun _ => Wk.tok⟩) ?_)) (by repeat' (first | exact True.intro | rfl | apply And.intro)) (by repeat' (first | exact True.intro | rfl | apply And.intro)) rfl rfl rfl)); (focus (exact rfl)); (focus (exact rfl)); (focus (first | exact want_n | exact want_g rfl (by with_reducible rfl))))
            refine wX ?_
            (apply WvN [16]; (focus (exact o_rcall [(1000, 16)] d1 rfl rfl rfl rfl rfl (by repeat (first | exact .nil | refine .cons (.inl ⟨rfl, rfl⟩) ?_ | refine .cons (.inr ⟨rfl, fun _ => Wk.tok⟩) ?_)) (by repeat' (first | exact True.intro | rfl | apply And.intro)) (by repeat' (first | exact True.intro | rfl | apply And.intro)) rfl rfl)); (focus (exact rfl)); (focus (first | exact want_n | exact want_g rfl (by with_reducible rfl))))
            refine wX ?_
            (apply WcN [28] [28]; (focus (exact o_ccalld [(1000, 28)] d3 rfl rfl rfl rfl rfl (by repeat (first | exact .nil | refine .cons (.inl ⟨rfl, rfl⟩) ?_ | refine .cons (.inr ⟨rfl, fun _ => Wk.tok⟩) ?_)) (by repeat' (first | exact True.intro | rfl | apply And.intro)) (by repeat' (first | exact True.intro | rfl | apply And.intro)) rfl rfl)); (focus (exact rfl)); (focus (exact rfl)); (focus (first | exact want_n | exact want_g rfl (by with_reducible rfl))))
            refine wX ?_
            (apply WcN [28] [28]; (focus (exact o_ccalld [(1000, 28)] d6 rfl rfl rfl rfl rfl (by repeat (first | exact .nil | refine .cons (.inl ⟨rfl, rfl⟩) ?_ | refine .cons (.inr ⟨rfl, fun _ => Wk.tok⟩) ?_)) (by repeat' (first | exact True.intro | rfl | apply And.intro)) (by repeat' (first | exact True.intro | rfl | apply And.intro)) rfl rfl)); (focus (exact rfl)); (focus (exact rfl)); (focus (first | exact want_n | exact want_g rfl (by with_reducible rfl))))
            refine wX ?_
            (apply WcN [28] [28]; (focus (exact o_ccalld [(1000, 28)] d4 rfl rfl rfl rfl rfl (by repeat (first | exact .nil | refine .cons (.inl ⟨rfl, rfl⟩) ?_ | refine .cons (.inr ⟨rfl, fun _ => Wk.tok⟩) ?_)) (by repeat' (first | exact True.intro | rfl | apply And.intro)) (by repeat' (first | exact True.intro | rfl | apply And.intro)) rfl rfl)); (focus (exact rfl)); (focus (exact rfl)); (focus (first | exact want_n | exact want_g rfl (by with_reducible rfl))))
            refine wX ?_
            rw [decide_eq_false hl']
            refine Was 66 (nodeA false nilA (intsA ks) (keysA ps) (msgsA ms)) rfl ?_
            refine wX ?_
            exact fin ⟨res_varl rfl rfl rfl (fun _ => by (repeat (first | exact wkl0 | refine wkd rfl ?_ | refine wkt ?_ | refine wkn ?_))), res_of rfl rfl rfl, trivial⟩
    · rw [decide_eq_false hs] at c2
      unfold sum4 sumIn at c2
      have hd0 : decode b = (Nd.zero, 5) := by unfold decode; rw [if_pos h256, if_neg hs]
      rw [hd0]
      refine AFn_intro Try.func14 rfl Try.ntmps14 rfl (by simp) [_, _] rfl fun E hE => ?_; have hnt : (!true) = false := rfl; have hnf : (!false) = true := rfl
      have d0 := ccall Try.func25 (c0) (by decide +kernel) (by decide +kernel)
      have d1 := ccall Try.func27 (c1) (by decide +kernel) (by decide +kernel)
      have d2 := acall Try.func26 (c2) (by decide +kernel) (by decide +kernel)
      refine wX ?_
      (apply WcN [] [16]; (focus (exact o_ccall [(5, 16)] d0 rfl rfl rfl rfl (by repeat (first | exact .nil | refine .cons (.inl ⟨rfl, rfl⟩) ?_ | refine .cons (.inr ⟨rfl, fun _ => Wk.tok⟩) ?_)) (by repeat' (first | exact True.intro | rfl | apply And.intro)) (by repeat' (first | exact True.intro | rfl | apply And.intro)) rfl rfl rfl)); (focus (exact rfl)); (focus (exact rfl)); (focus (first | exact want_n | exact want_g rfl (by with_reducible rfl))))
      refine wX ?_
      (apply WvN [16]; (focus (exact o_rcall [(1000, 16)] d1 rfl rfl rfl rfl rfl (by repeat (first | exact .nil | refine .cons (.inl ⟨rfl, rfl⟩) ?_ | refine .cons (.inr ⟨rfl, fun _ => Wk.tok⟩) ?_)) (by repeat' (first | exact True.intro | rfl | apply And.intro)) (by repeat' (first | exact True.intro | rfl | apply And.intro)) rfl rfl)); (focus (exact rfl)); (focus (first | exact want_n | exact want_g rfl (by with_reducible rfl))))
      refine wX ?_
      exact fin ⟨res_varl rfl rfl rfl (fun _ => by (repeat (first | exact wkl0 | refine wkd rfl ?_ | refine wkt ?_ | refine wkn ?_))), res_of rfl rfl rfl, trivial⟩
  · have h256' : ¬ (b.length : Int) = 256 := by omega
    have e1 : decode b = (Nd.zero, 4) := by unfold decode; rw [if_neg h256]
    rw [e1]
    refine AFn_intro Try.func14 rfl Try.ntmps14 rfl (by simp) [_, _] rfl fun E hE => ?_; have hnt : (!true) = false := rfl; have hnf : (!false) = true := rfl
    refine wX ?_
    exact fin ⟨res_varl rfl rfl rfl (fun _ => by (repeat (first | exact wkl0 | refine wkd rfl ?_ | refine wkt ?_ | refine wkn ?_))), res_of rfl rfl rfl, trivial⟩
end Go.Proofs.Ytcmdhpinelnclaa

namespace Go.Proofs.Ytcmdhpinelnclaa
open Go Go.RowKit
set_option linter.unusedVariables false
set_option linter.unusedSimpArgs false
set_option maxRecDepth 100000

/-! ### plain law -/
def fN (b : List (BitVec 8)) (s : Rst) (w : Nat) : BitVec 64 × Rst := if s.bad = false ∧ s.pos + w ≤ b.length then (numAt b s.pos w, ⟨s.pos + w, false⟩) else (0#64, ⟨s.pos, true⟩)
def fT (b : List (BitVec 8)) (s : Rst) (m : Nat) : List (BitVec 8) × Rst :=
  if s.bad = false ∧ s.pos + 1 ≤ b.length ∧ cnt b s.pos ≤ m ∧ s.pos + 1 + cnt b s.pos ≤ b.length then (seg b (s.pos + 1) (cnt b s.pos), ⟨s.pos + 1 + cnt b s.pos, false⟩) else ([], ⟨(fN b s 1).2.pos, true⟩)
def fKey (b : List (BitVec 8)) (s : Rst) : Key × Rst := (mkKey (fT b s 8).1, (fT b s 8).2)
def fVl (b : List (BitVec 8)) (s : Rst) : Vl × Rst := (mkVl (fT b s 16).1, (fT b s 16).2)
def fKid (b : List (BitVec 8)) (s : Rst) : Int × Rst := ((fN b s 4).1.toInt, (fN b s 4).2)
def fEnt (b : List (BitVec 8)) (s : Rst) : Ent × Rst := (⟨(fKey b s).1, (fVl b (fKey b s).2).1⟩, (fVl b (fKey b s).2).2)
def fRest (b : List (BitVec 8)) (k : Int) (s : Rst) : (Vl × BitVec 64) × Rst := if k = 1 then (((fVl b s).1, 0#64), (fVl b s).2) else if k = 3 then ((Vl.zero, (fN b s 8).1), (fN b s 8).2) else ((Vl.zero, 0#64), s)
def fmK (b : List (BitVec 8)) (s : Rst) : Int := (fN b s 1).1.toInt
def fmS1 (b : List (BitVec 8)) (s : Rst) : Rst := (fN b s 1).2
def fmS2 (b : List (BitVec 8)) (s : Rst) : Rst := (fN b (fmS1 b s) 8).2
def fmS3 (b : List (BitVec 8)) (s : Rst) : Rst := (fKey b (fmS2 b s)).2
def fMsg (b : List (BitVec 8)) (s : Rst) : Msg × Rst := (⟨fmK b s, (fN b (fmS1 b s) 8).1, (fKey b (fmS2 b s)).1, (fRest b (fmK b s) (fmS3 b s)).1.1, (fRest b (fmK b s) (fmS3 b s)).1.2⟩, (fRest b (fmK b s) (fmS3 b s)).2)
theorem fN_pos (b : List (BitVec 8)) (s : Rst) (w : Nat) : (fN b s w).2.pos ≤ s.pos + w := by
  unfold fN
  split
  · exact Nat.le_refl _
  · show s.pos ≤ _; omega
theorem fT_pos (b : List (BitVec 8)) (s : Rst) (m : Nat) : (fT b s m).2.pos ≤ s.pos + 1 + m := by
  unfold fT
  split
  · rename_i h
    show s.pos + 1 + cnt b s.pos ≤ _
    omega
  · have := fN_pos b s 1
    show (fN b s 1).2.pos ≤ _
    omega
theorem fT_len (b : List (BitVec 8)) (s : Rst) (m : Nat) : (fT b s m).1.length ≤ m := by
  unfold fT
  split
  · rename_i h
    show (seg _ _ _).length ≤ _
    rw [seg_length h.2.2.2]; exact h.2.2.1
  · exact Nat.zero_le _
theorem fKey_pos (b : List (BitVec 8)) (s : Rst) : (fKey b s).2.pos ≤ s.pos + 9 := fT_pos b s 8
theorem fVl_pos (b : List (BitVec 8)) (s : Rst) : (fVl b s).2.pos ≤ s.pos + 17 := fT_pos b s 16
theorem fKid_pos (b : List (BitVec 8)) (s : Rst) : (fKid b s).2.pos ≤ s.pos + 40 := by have := fN_pos b s 4; show (fN b s 4).2.pos ≤ _; omega
theorem fEnt_pos (b : List (BitVec 8)) (s : Rst) : (fEnt b s).2.pos ≤ s.pos + 40 := by
  have h1 := fKey_pos b s
  have h2 := fVl_pos b (fKey b s).2
  show (fVl b (fKey b s).2).2.pos ≤ _
  omega
theorem fRest_pos (b : List (BitVec 8)) (k : Int) (s : Rst) : (fRest b k s).2.pos ≤ s.pos + 17 := by
  unfold fRest
  split
  · exact fVl_pos b s
  · split
    · have := fN_pos b s 8; show (fN b s 8).2.pos ≤ _; omega
    · show s.pos ≤ _; omega
theorem fMsg_pos (b : List (BitVec 8)) (s : Rst) : (fMsg b s).2.pos ≤ s.pos + 40 := by
  have h1 := fKey_pos b (fmS2 b s)
  have h2 := fRest_pos b (fmK b s) (fmS3 b s)
  have h3 := fN_pos b s 1
  have h4 := fN_pos b (fmS1 b s) 8
  have e1 : (fmS1 b s).pos = (fN b s 1).2.pos := rfl
  have e2 : (fmS2 b s).pos = (fN b (fmS1 b s) 8).2.pos := rfl
  have e3 : (fmS3 b s).pos = (fKey b (fmS2 b s)).2.pos := rfl
  show (fRest b (fmK b s) (fmS3 b s)).2.pos ≤ _
  omega
/-! ### walks -/
section
variable {E : Env} {nt : Nat} {ops : Array Oper} {T : Nat → Option AV} {H : Hp} {d : Option Nat} {ty : TypeId} {pos : String} {af : Array Edge} {gd : Option (Nat × Bool)}
theorem padded_snoc {m : Nat} (l : List (BitVec 8)) (c : BitVec 8) (h : l.length < m) : (padded m l).toList.set l.length c = (padded m (l ++ [c])).toList := by
  rw [padded_list m l (by omega), padded_list m (l ++ [c]) (by simp; omega)]
  obtain ⟨k, hk⟩ : ∃ k, m - l.length = k + 1 := ⟨m - l.length - 1, by omega⟩
  rw [List.set_append_right _ _ (Nat.le_refl _), Nat.sub_self, hk, List.replicate_succ, List.set_cons_zero, List.length_append, List.length_singleton, show m - (l.length + 1) = k by omega, List.append_assoc]
  rfl
theorem ob_stK {x y : Operand} {t : TypeId} {g j : Nat} {n : Int} {l : List (BitVec 8)} {c : BitVec 8} (hx : evalO T x = some (.ptr g (0 + 1 + j * 1) (([] ++ [1]) ++ [j]))) (hy : evalO T y = some (byteA c)) (hg : H g = some (.var (Key.av ⟨n, padded 8 l⟩))) (hl : l.length = j) (hj : j < 8) (hs : tabT.sa t = some (false, 1)) :
    OpOK Try.prog E nt ops ⟨none, .store t x y, ty, pos, af, gd⟩ T H [] ⟨.tup [], [(g, .var (Key.av ⟨n, padded 8 (l ++ [c])⟩))]⟩ := by
  subst hl
  have hlt : l.length < ((padded 8 l).toList).length := by simp; omega
  exact ok_store tabT (d := none) rfl hx hy hg (old := byteA ((padded 8 l).toList[l.length])) (by simp [subA, Key.av, vecA, List.getElem?_map, List.getElem?_eq_getElem hlt]) (by simp [offA, Key.av, vecA, intA, sizeA, sumS]) (by
    have e := padded_snoc (m := 8) l c hj
    have h9 : ((padded 8 l).toList.map byteA)[l.length]? = some (byteA ((padded 8 l).toList[l.length])) := by rw [List.getElem?_map, List.getElem?_eq_getElem hlt]; rfl
    simp only [Key.av, vecA, setA, List.nil_append, List.cons_append, List.getElem?_cons_succ, List.getElem?_cons_zero]
    rw [← e]
    simp only [h9, List.map_set]
    rfl) hs rfl rfl
theorem ob_stV {x y : Operand} {t : TypeId} {g j : Nat} {n : Int} {l : List (BitVec 8)} {c : BitVec 8} (hx : evalO T x = some (.ptr g (0 + 1 + j * 1) (([] ++ [1]) ++ [j]))) (hy : evalO T y = some (byteA c)) (hg : H g = some (.var (Vl.av ⟨n, padded 16 l⟩))) (hl : l.length = j) (hj : j < 16) (hs : tabT.sa t = some (false, 1)) :
    OpOK Try.prog E nt ops ⟨none, .store t x y, ty, pos, af, gd⟩ T H [] ⟨.tup [], [(g, .var (Vl.av ⟨n, padded 16 (l ++ [c])⟩))]⟩ := by
  subst hl
  have hlt : l.length < ((padded 16 l).toList).length := by simp; omega
  exact ok_store tabT (d := none) rfl hx hy hg (old := byteA ((padded 16 l).toList[l.length])) (by simp [subA, Vl.av, vecA, List.getElem?_map, List.getElem?_eq_getElem hlt]) (by simp [offA, Vl.av, vecA, intA, sizeA, sumS]) (by
    have e := padded_snoc (m := 16) l c hj
    have h9 : ((padded 16 l).toList.map byteA)[l.length]? = some (byteA ((padded 16 l).toList[l.length])) := by rw [List.getElem?_map, List.getElem?_eq_getElem hlt]; rfl
    simp only [Vl.av, vecA, setA, List.nil_append, List.cons_append, List.getElem?_cons_succ, List.getElem?_cons_zero]
    rw [← e]
    simp only [h9, List.map_set]
    rfl) hs rfl rfl
end
attribute [local irreducible] OpOK AWops AW CondB Go2 AFn thenA inBlockA noGotoA orderOk wantedA
set_option maxRecDepth 100000 in
set_option maxHeartbeats 4000000 in
theorem c_fnum (b : List (BitVec 8)) (s : Rst) (w : Nat) (hb : b.length ≤ 1000000) (hs : s.pos ≤ 1000000) (h1 : 1 ≤ w) (h8 : w ≤ 8) :
    CFn Try.prog 65 [.ptr 1000 0 [], intA (w : Nat)] (bxR b s) (u64A (fN b s w).1) (bxR b (fN b s w).2) := by
  obtain ⟨p, bad⟩ := s
  have c0 := a_refnum b p w h1 h8 (by omega) (by dsimp only at hs; omega)
  dsimp only at hs
  have e0 : u64A 0#64 = .v (.int .u64 0) := by unfold u64A; rw [D64_zero]
  unfold fN bxR rdA
  dsimp only
  cases bad
  · by_cases h : p + w ≤ b.length
    · rw [decide_eq_true h] at c0
      rw [if_pos ⟨rfl, h⟩]
      refine CFn_intro Try.func65 rfl Try.ntmps65 rfl (by simp) [_] rfl fun E hE => ?_; have hnt : (!true) = false := rfl; have hnf : (!false) = true := rfl
      have d0 := acall Try.func36 (c0) (by decide +kernel) (by decide +kernel)
      refine wY ?_
      exact finc ⟨⟨(by repeat' (first | exact True.intro | rfl | apply And.intro)), rfl⟩, rc_of rfl rfl rfl, trivial⟩
    · rw [decide_eq_false h] at c0
      rw [if_neg (fun k => h k.2), e0]
      refine CFn_intro Try.func65 rfl Try.ntmps65 rfl (by simp) [_] rfl fun E hE => ?_; have hnt : (!true) = false := rfl; have hnf : (!false) = true := rfl
      have d0 := acall Try.func36 (c0) (by decide +kernel) (by decide +kernel)
      refine wY ?_
      exact finc ⟨⟨(by repeat' (first | exact True.intro | rfl | apply And.intro)), rfl⟩, rc_of rfl rfl rfl, trivial⟩
  · rw [if_neg (fun k => by cases k.1), e0]
    by_cases h : p + w ≤ b.length
    · rw [decide_eq_true h] at c0
      refine CFn_intro Try.func65 rfl Try.ntmps65 rfl (by simp) [_] rfl fun E hE => ?_; have hnt : (!true) = false := rfl; have hnf : (!false) = true := rfl
      have d0 := acall Try.func36 (c0) (by decide +kernel) (by decide +kernel)
      refine wY ?_
      exact finc ⟨⟨(by repeat' (first | exact True.intro | rfl | apply And.intro)), rfl⟩, rc_of rfl rfl rfl, trivial⟩
    · rw [decide_eq_false h] at c0
      refine CFn_intro Try.func65 rfl Try.ntmps65 rfl (by simp) [_] rfl fun E hE => ?_; have hnt : (!true) = false := rfl; have hnf : (!false) = true := rfl
      have d0 := acall Try.func36 (c0) (by decide +kernel) (by decide +kernel)
      refine wY ?_
      exact finc ⟨⟨(by repeat' (first | exact True.intro | rfl | apply And.intro)), rfl⟩, rc_of rfl rfl rfl, trivial⟩
set_option maxRecDepth 100000 in
set_option maxHeartbeats 8000000 in
theorem c_ftake (b : List (BitVec 8)) (s : Rst) (m : Nat) (hb : b.length ≤ 1000000) (hs : s.pos ≤ 900000) (hm : m ≤ 100) :
    CFn Try.prog 86 [.ptr 1000 0 [], intA (m : Nat)] (bxR b s) (bytesA (fT b s m).1) (bxR b (fT b s m).2) := by
  have c0 := c_fnum b s 1 hb (by omega) (by omega) (by omega)
  have hc := numAt_one b s.pos
  have hcl := cnt_le b s.pos
  obtain ⟨p, bad⟩ := s
  unfold fT
  by_cases k0 : bad = false ∧ p + 1 ≤ b.length
  · obtain ⟨rfl, k0⟩ := k0
    have eN : fN b ⟨p, false⟩ 1 = (numAt b p 1, ⟨p + 1, false⟩) := by unfold fN; rw [if_pos ⟨rfl, k0⟩]
    rw [eN] at c0 ⊢
    unfold bxR rdA at c0 ⊢
    dsimp only at hs hc hcl c0 ⊢
    by_cases k1 : cnt b p ≤ m
    · by_cases k2 : p + 1 + cnt b p ≤ b.length
      · rw [if_pos ⟨rfl, k0, k1, k2⟩]
        have hcut := seg_cut b (p + 1) (cnt b p)
        have g1 : ¬ ((m : Nat) : Int) < (cnt b p : Nat) := by omega
        have g2 : ¬ (b.length : Int) - ((p + 1 : Nat) : Int) < (cnt b p : Nat) := by omega
        refine CFn_intro Try.func86 rfl Try.ntmps86 rfl (by simp) [_] rfl fun E hE => ?_; have hnt : (!true) = false := rfl; have hnf : (!false) = true := rfl
        have d0 := ccall Try.func65 (c0) (by decide +kernel) (by decide +kernel)
        refine wY ?_
        (apply WcN [1000] [1000]; (focus (exact o_ccalld [(1000, 1000)] d0 rfl rfl rfl rfl rfl (by repeat (first | exact .nil | refine .cons (.inl ⟨rfl, rfl⟩) ?_ | refine .cons (.inr ⟨rfl, fun _ => Wk.tok⟩) ?_)) (by repeat' (first | exact True.intro | rfl | apply And.intro)) (by repeat' (first | exact True.intro | rfl | apply And.intro)) rfl rfl)); (focus (exact rfl)); (focus (exact rfl)); (focus (first | exact want_n | exact want_g rfl (by with_reducible rfl))))
        refine wSY ?_
        rw [hc]
        refine wY ?_
        rw [hcut]
        exact finc ⟨⟨(by repeat' (first | exact True.intro | rfl | apply And.intro)), rfl⟩, rc_sl rfl, trivial⟩
      · rw [if_neg (fun k => k2 k.2.2.2)]
        have g1 : ¬ ((m : Nat) : Int) < (cnt b p : Nat) := by omega
        have g2 : (b.length : Int) - ((p + 1 : Nat) : Int) < (cnt b p : Nat) := by omega
        refine CFn_intro Try.func86 rfl Try.ntmps86 rfl (by simp) [_] rfl fun E hE => ?_; have hnt : (!true) = false := rfl; have hnf : (!false) = true := rfl
        have d0 := ccall Try.func65 (c0) (by decide +kernel) (by decide +kernel)
        refine wY ?_
        (apply WcN [1000] [1000]; (focus (exact o_ccalld [(1000, 1000)] d0 rfl rfl rfl rfl rfl (by repeat (first | exact .nil | refine .cons (.inl ⟨rfl, rfl⟩) ?_ | refine .cons (.inr ⟨rfl, fun _ => Wk.tok⟩) ?_)) (by repeat' (first | exact True.intro | rfl | apply And.intro)) (by repeat' (first | exact True.intro | rfl | apply And.intro)) rfl rfl)); (focus (exact rfl)); (focus (exact rfl)); (focus (first | exact want_n | exact want_g rfl (by with_reducible rfl))))
        refine wSY ?_
        rw [hc]
        refine wY ?_
        exact finc ⟨⟨(by repeat' (first | exact True.intro | rfl | apply And.intro)), rfl⟩, rc_nil rfl, trivial⟩
    · rw [if_neg (fun k => k1 k.2.2.1)]
      have g1 : ((m : Nat) : Int) < (cnt b p : Nat) := by omega
      refine CFn_intro Try.func86 rfl Try.ntmps86 rfl (by simp) [_] rfl fun E hE => ?_; have hnt : (!true) = false := rfl; have hnf : (!false) = true := rfl
      have d0 := ccall Try.func65 (c0) (by decide +kernel) (by decide +kernel)
      refine wY ?_
      (apply WcN [1000] [1000]; (focus (exact o_ccalld [(1000, 1000)] d0 rfl rfl rfl rfl rfl (by repeat (first | exact .nil | refine .cons (.inl ⟨rfl, rfl⟩) ?_ | refine .cons (.inr ⟨rfl, fun _ => Wk.tok⟩) ?_)) (by repeat' (first | exact True.intro | rfl | apply And.intro)) (by repeat' (first | exact True.intro | rfl | apply And.intro)) rfl rfl)); (focus (exact rfl)); (focus (exact rfl)); (focus (first | exact want_n | exact want_g rfl (by with_reducible rfl))))
      refine wSY ?_
      rw [hc]
      refine wY ?_
      exact finc ⟨⟨(by repeat' (first | exact True.intro | rfl | apply And.intro)), rfl⟩, rc_nil rfl, trivial⟩
  · have eN : fN b ⟨p, bad⟩ 1 = (0#64, ⟨p, true⟩) := by unfold fN; rw [if_neg k0]
    rw [eN] at c0 ⊢
    unfold bxR rdA at c0 ⊢
    dsimp only at hs c0 k0 ⊢
    rw [if_neg (fun k => k0 ⟨k.1, k.2.1⟩)]
    refine CFn_intro Try.func86 rfl Try.ntmps86 rfl (by simp) [_] rfl fun E hE => ?_; have hnt : (!true) = false := rfl; have hnf : (!false) = true := rfl
    have d0 := ccall Try.func65 (c0) (by decide +kernel) (by decide +kernel)
    refine wY ?_
    (apply WcN [1000] [1000]; (focus (exact o_ccalld [(1000, 1000)] d0 rfl rfl rfl rfl rfl (by repeat (first | exact .nil | refine .cons (.inl ⟨rfl, rfl⟩) ?_ | refine .cons (.inr ⟨rfl, fun _ => Wk.tok⟩) ?_)) (by repeat' (first | exact True.intro | rfl | apply And.intro)) (by repeat' (first | exact True.intro | rfl | apply And.intro)) rfl rfl)); (focus (exact rfl)); (focus (exact rfl)); (focus (first | exact want_n | exact want_g rfl (by with_reducible rfl))))
    refine wY ?_
    exact finc ⟨⟨(by repeat' (first | exact True.intro | rfl | apply And.intro)), rfl⟩, rc_nil rfl, trivial⟩
theorem padK0n (n : Int) : Key.av ⟨n, padded 8 []⟩ = .agg 9 [intA n, vecA (Vector.replicate 8 0#8)] := by unfold Key.av vecA; rw [padded_list 8 [] (by simp)]; rfl
theorem padV0n (n : Int) : Vl.av ⟨n, padded 16 []⟩ = .agg 17 [intA n, vecA (Vector.replicate 16 0#8)] := by unfold Vl.av vecA; rw [padded_list 16 [] (by simp)]; rfl
set_option maxRecDepth 100000 in
set_option maxHeartbeats 8000000 in
theorem c_fkey (b : List (BitVec 8)) (s : Rst) (hb : b.length ≤ 1000000) (hs : s.pos ≤ 800000) :
    CFn Try.prog 63 [.ptr 1000 0 []] (bxR b s) (fKey b s).1.av (bxR b (fKey b s).2) := by
  have c0 := c_ftake b s 8 hb (by omega) (by omega)
  have hl := fT_len b s 8
  unfold fKey mkKey
  dsimp only
  generalize fT b s 8 = R at *
  obtain ⟨l, s2⟩ := R
  dsimp only at c0 hl ⊢
  refine CFn_intro Try.func63 rfl Try.ntmps63 rfl (by simp) [_] rfl fun E hE => ?_; have hnt : (!true) = false := rfl; have hnf : (!false) = true := rfl
  have d0 := ccall Try.func86 (c0) (by decide +kernel) (by decide +kernel)
  refine wY ?_
  (apply WcN [1000] [1000]; (focus (exact o_ccalld [(1000, 1000)] d0 rfl rfl rfl rfl rfl (by repeat (first | exact .nil | refine .cons (.inl ⟨rfl, rfl⟩) ?_ | refine .cons (.inr ⟨rfl, fun _ => Wk.tok⟩) ?_)) (by repeat' (first | exact True.intro | rfl | apply And.intro)) (by repeat' (first | exact True.intro | rfl | apply And.intro)) rfl rfl)); (focus (exact rfl)); (focus (exact rfl)); (focus (first | exact want_n | exact want_g rfl (by with_reducible rfl))))
  refine wY ?_
  refine AW_loopI (fun j : Nat => ⟨[(2, .ptr 2 0 []), (3, .ptr 3 0 []), (4, bytesA l), (5, .v (.int .i64 (j : Nat)))], [(2, .var Key.zero.av), (3, .var (Key.av ⟨(l.length : Nat), padded 8 (l.take j)⟩)), (1000, .var (rdA b s2))]⟩) (fun j => j ≤ l.length) (fun j => l.length - j) 0 (Nat.zero_le _) (by rw [List.take_zero, padK0n]; (refine Go2.sub ⟨?_, ?_, ?_⟩ <;> repeat' (first | exact True.intro | rfl | apply And.intro))) (fun j hj => ?_)
  by_cases hlt : j < l.length
  · have hlt' : (j : Int) < (l.length : Nat) := by omega
    have hs' : l.take (j + 1) = l.take j ++ [l[j]] := (List.take_append_getElem hlt).symm
    have htl : (l.take j).length = j := by rw [List.length_take]; omega
    refine wY ?_
    (apply Wv; (focus (exact ok_idx_ptr tabT rfl rfl rfl rfl (by omega) (by omega))); (focus (first | exact want_n | exact want_g rfl (by with_reducible rfl))))
    (apply Ws; (focus (exact ob_stK rfl rfl rfl htl (by omega) rfl)); (focus (first | exact want_n | exact want_g rfl (by with_reducible rfl))))
    refine wY ?_
    refine ⟨j + 1, by omega, by omega, ?_⟩
    rw [hs']
    (refine Go2.sub ⟨?_, ?_, ?_⟩ <;> repeat' (first | exact True.intro | rfl | apply And.intro))
  · obtain rfl : j = l.length := by omega
    have hlt' : ¬ (l.length : Int) < (l.length : Nat) := by omega
    rw [List.take_length]
    refine wY ?_
    exact finc ⟨⟨(by repeat' (first | exact True.intro | rfl | apply And.intro)), rfl⟩, rc_var rfl rfl rfl rfl, trivial⟩
set_option maxRecDepth 100000 in
set_option maxHeartbeats 8000000 in
theorem c_fvl (b : List (BitVec 8)) (s : Rst) (hb : b.length ≤ 1000000) (hs : s.pos ≤ 800000) :
    CFn Try.prog 64 [.ptr 1000 0 []] (bxR b s) (fVl b s).1.av (bxR b (fVl b s).2) := by
  have c0 := c_ftake b s 16 hb (by omega) (by omega)
  have hl := fT_len b s 16
  unfold fVl mkVl
  dsimp only
  generalize fT b s 16 = R at *
  obtain ⟨l, s2⟩ := R
  dsimp only at c0 hl ⊢
  refine CFn_intro Try.func64 rfl Try.ntmps64 rfl (by simp) [_] rfl fun E hE => ?_; have hnt : (!true) = false := rfl; have hnf : (!false) = true := rfl
  have d0 := ccall Try.func86 (c0) (by decide +kernel) (by decide +kernel)
  refine wY ?_
  (apply WcN [1000] [1000]; (focus (exact o_ccalld [(1000, 1000)] d0 rfl rfl rfl rfl rfl (by repeat (first | exact .nil | refine .cons (.inl ⟨rfl, rfl⟩) ?_ | refine .cons (.inr ⟨rfl, fun _ => Wk.tok⟩) ?_)) (by repeat' (first | exact True.intro | rfl | apply And.intro)) (by repeat' (first | exact True.intro | rfl | apply And.intro)) rfl rfl)); (focus (exact rfl)); (focus (exact rfl)); (focus (first | exact want_n | exact want_g rfl (by with_reducible rfl))))
  refine wY ?_
  refine AW_loopI (fun j : Nat => ⟨[(2, .ptr 2 0 []), (3, .ptr 3 0 []), (4, bytesA l), (5, .v (.int .i64 (j : Nat)))], [(2, .var Vl.zero.av), (3, .var (Vl.av ⟨(l.length : Nat), padded 16 (l.take j)⟩)), (1000, .var (rdA b s2))]⟩) (fun j => j ≤ l.length) (fun j => l.length - j) 0 (Nat.zero_le _) (by rw [List.take_zero, padV0n]; (refine Go2.sub ⟨?_, ?_, ?_⟩ <;> repeat' (first | exact True.intro | rfl | apply And.intro))) (fun j hj => ?_)
  by_cases hlt : j < l.length
  · have hlt' : (j : Int) < (l.length : Nat) := by omega
    have hs' : l.take (j + 1) = l.take j ++ [l[j]] := (List.take_append_getElem hlt).symm
    have htl : (l.take j).length = j := by rw [List.length_take]; omega
    refine wY ?_
    (apply Wv; (focus (exact ok_idx_ptr tabT rfl rfl rfl rfl (by omega) (by omega))); (focus (first | exact want_n | exact want_g rfl (by with_reducible rfl))))
    (apply Ws; (focus (exact ob_stV rfl rfl rfl htl (by omega) rfl)); (focus (first | exact want_n | exact want_g rfl (by with_reducible rfl))))
    refine wY ?_
    refine ⟨j + 1, by omega, by omega, ?_⟩
    rw [hs']
    (refine Go2.sub ⟨?_, ?_, ?_⟩ <;> repeat' (first | exact True.intro | rfl | apply And.intro))
  · obtain rfl : j = l.length := by omega
    have hlt' : ¬ (l.length : Int) < (l.length : Nat) := by omega
    rw [List.take_length]
    refine wY ?_
    exact finc ⟨⟨(by repeat' (first | exact True.intro | rfl | apply And.intro)), rfl⟩, rc_var rfl rfl rfl rfl, trivial⟩
end Go.Proofs.Ytcmdhpinelnclaa

namespace Go.Proofs.Ytcmdhpinelnclaa
open Go Go.RowKit
set_option linter.unusedVariables false
set_option linter.unusedSimpArgs false
set_option maxRecDepth 100000

/-- x' is x, nil being a row to be appended to -/
def TokW (g n : Nat) (e : TypeId) (x x' : AV) : Prop := ∀ (U : Uns) (w : World) (B : Blk) (H : Hp) (c : List Value), H g = some (.tail e n 0) → B g = none → Rd U w x B H c → Rd U w x' B H c
inductive TokL (g n : Nat) : List AV → List AV → Prop
  | nil : TokL g n [] []
  | same {x : AV} {xs ys : List AV} (t : TokL g n xs ys) : TokL g n (x :: xs) (x :: ys)
  | tok {xs ys : List AV} (t : TokL g n xs ys) : TokL g n (.v (.slice none 0 0) :: xs) (.sl (some g) n [] :: ys)
theorem TokL.rds {g n : Nat} {e : TypeId} {U : Uns} {w : World} {B : Blk} {H : Hp} (hg : H g = some (.tail e n 0)) (hb : B g = none) {xs ys : List AV} (h : TokL g n xs ys) : ∀ {c : List Value}, Rds U w xs B H c → Rds U w ys B H c := by
  induction h with
  | nil => exact fun h => h
  | same t ih =>
    intro c hr
    simp only [Rds] at hr ⊢
    obtain ⟨c1, c2, rfl, h1, h2⟩ := hr
    exact ⟨c1, c2, rfl, h1, ih h2⟩
  | tok t ih =>
    intro c hr
    simp only [Rds] at hr ⊢
    obtain ⟨c1, c2, rfl, h1, h2⟩ := hr
    refine ⟨c1, c2, rfl, ?_, ih h2⟩
    simp only [Rd] at h1
    obtain ⟨_, rfl⟩ := h1
    exact nil_token hg hb
theorem TokL.agg {g n m : Nat} {e : TypeId} {xs ys : List AV} (h : TokL g n xs ys) : TokW g n e (.agg m xs) (.agg m ys) := fun U w B H c hg hb hr => by
  simp only [Rd] at hr ⊢
  exact ⟨hr.1, h.rds hg hb hr.2⟩
theorem Go2.tokF {E : Env} {nt : Nat} {T : List (Nat × AV)} {H : List (Nat × Bx)} (b g n : Nat) (e : TypeId) {x x' : AV} (hs : look b H = some (.var x)) (hk : TokW g (n + 1) e x x') (hg : look g H = none) : Go2 E nt ⟨T, H⟩ ⟨T, (b, .var x') :: (g, .tail e (n + 1) 0) :: H⟩ := fun B a w r => by
  have r1 := r.token (g := g) (n := n + 1) (e := e) hg (Nat.succ_pos n)
  have hbg : b ≠ g := fun e => by subst e; rw [hg] at hs; cases hs
  have eH : St.h ⟨T, (b, Bx.var x') :: (g, .tail e (n + 1) 0) :: H⟩ = upd (upd (St.h ⟨T, H⟩) g (.tail e (n + 1) 0)) b (.var x') := by
    show (fun k => look k ((b, Bx.var x') :: (g, .tail e (n + 1) 0) :: H)) = _
    rw [look_cons, look_cons]
    rfl
  refine ⟨B, ?_⟩
  rw [eH]
  generalize hH : upd (St.h ⟨T, H⟩) g (.tail e (n + 1) 0) = H1 at r1 ⊢
  have h1b : H1 b = some (.var x) := by rw [← hH, upd_ne _ _ hbg]; exact hs
  have h1g : H1 g = some (.tail e (n + 1) 0) := by rw [← hH]; exact upd_same _ _ _
  have hBg : B g = none := r.non g hg
  have hsh : ∀ j, isVar (upd H1 b (.var x') j) = isVar (H1 j) ∧ live (upd H1 b (.var x') j) = live (H1 j) := fun j => by
    by_cases c : j = b
    · subst c; rw [upd_same, h1b]; exact ⟨rfl, rfl⟩
    · rw [upd_ne _ _ c]; exact ⟨rfl, rfl⟩
  have hun : unst E B (upd H1 b (.var x')) = unst E B H1 := by
    funext k o
    refine propext (or_congr Iff.rfl (exists_congr fun j => and_congr_right fun _ => ?_))
    by_cases c : j = b
    · subst c; rw [upd_same, h1b]
    · rw [upd_ne _ _ c]
  have pic : Pic w w B B H1 (upd H1 b (.var x')) := by
    refine ⟨fun _ _ _ h => h, fun j h => (hsh j).1.trans h, fun t n len A cap h => ?_, ownPic (Evo.refl (fun _ _ => False) w) fun j e' n' xs h => ?_⟩
    · obtain ⟨e', k, h1, h2⟩ := h
      refine ⟨e', k, ?_, h2⟩
      rw [upd_ne]
      · exact h1
      · rintro rfl; rw [h1b] at h1; cases h1
    · refine ⟨?_, rfl⟩
      rw [upd_ne]
      · exact h
      · rintro rfl; rw [h1b] at h; cases h
  have rd : ∀ (z : AV) {c : List Value}, Rd (unst E B H1) w z B H1 c → Rd (unst E B (upd H1 b (.var x'))) w z B (upd H1 b (.var x')) c := fun z c h => by
    rw [hun]; exact Rd_go (Evo.refl _ w) (fun _ _ _ h => h) z pic h
  refine ⟨r1.nt, r1.df, fun s z hx => ?_, fun j bx h => ?_, fun j h => ?_, fun j1 j2 k h1 h2 => ?_, r1.left, fun j h => ?_⟩
  · obtain ⟨v, k1, k2⟩ := r1.tmp s z hx
    exact ⟨v, k1, by rw [hun]; exact Rdv_go (Evo.refl _ w) (fun _ _ _ h => h) pic k2⟩
  · by_cases c : j = b
    · subst c
      rw [upd_same] at h
      injection h with h
      subst h
      obtain ⟨k, cs, t, k1, k2, k3, k4⟩ := r1.box j _ h1b
      refine ⟨k, cs, t, k1, k2, ?_, k4⟩
      exact hk _ _ _ _ _ (by rw [upd_ne _ _ (Ne.symm hbg)]; exact h1g) hBg (rd x k3)
    · rw [upd_ne _ _ c] at h
      have hb := r1.box j bx h
      cases bx with
      | var z =>
        obtain ⟨k, cs, t, k1, k2, k3, k4⟩ := hb
        exact ⟨k, cs, t, k1, k2, rd z k3, k4⟩
      | froz z =>
        obtain ⟨k, cs, k1, k2, k3, k4⟩ := hb
        exact ⟨k, cs, k1, k2, by rw [hun]; exact k3, rd z k4⟩
      | tail e n k => exact hb
      | own e' n' xs =>
        refine ⟨hb.1, hb.2.1, hb.2.2.imp id ?_⟩
        rintro ⟨k, cur, cap, c, m1, m2, m3, m4, m5, m6, m7, m8⟩
        exact ⟨k, cur, cap, c, m1, m2, m3, m4, m5, m6, by rw [hun]; exact m7, m8⟩
  · by_cases c : j = b
    · subst c; rw [upd_same] at h; cases h
    · rw [upd_ne _ _ c] at h; exact r1.non j h
  · rw [(hsh j1).2] at h1
    rw [(hsh j2).2] at h2
    exact r1.inj j1 j2 k h1 h2
  · by_cases c : j = b
    · subst c; rw [upd_same] at h; cases h
    · rw [upd_ne _ _ c] at h; exact r1.keep j h
attribute [local irreducible] OpOK AWops AW CondB Go2 AFn thenA inBlockA noGotoA orderOk wantedA
set_option maxRecDepth 100000 in
set_option maxHeartbeats 8000000 in
theorem c_fmsg (b : List (BitVec 8)) (s : Rst) (hb : b.length ≤ 1000000) (hs : s.pos ≤ 700000) :
    CFn Try.prog 66 [.ptr 1000 0 []] (bxR b s) (fMsg b s).1.av (bxR b (fMsg b s).2) := by
  have q1 := fN_pos b s 1
  have q2 := fN_pos b (fmS1 b s) 8
  have q3 := fKey_pos b (fmS2 b s)
  have r1 : (fmS1 b s).pos = (fN b s 1).2.pos := rfl
  have r2 : (fmS2 b s).pos = (fN b (fmS1 b s) 8).2.pos := rfl
  have r3 : (fmS3 b s).pos = (fKey b (fmS2 b s)).2.pos := rfl
  have c0 := c_fnum b s 1 hb (by omega) (by omega) (by omega)
  have c1 := c_fnum b (fmS1 b s) 8 hb (by omega) (by omega) (by omega)
  have c2 := c_fkey b (fmS2 b s) hb (by omega)
  have c3 := c_fvl b (fmS3 b s) hb (by omega)
  have c4 := c_fnum b (fmS3 b s) 8 hb (by omega) (by omega) (by omega)
  have c0' : CFn Try.prog 65 [.ptr 1000 0 [], intA (1 : Nat)] (bxR b s) (u64A (fN b s 1).1) (bxR b (fmS1 b s)) := c0
  have c1' : CFn Try.prog 65 [.ptr 1000 0 [], intA (8 : Nat)] (bxR b (fmS1 b s)) (u64A (fN b (fmS1 b s) 8).1) (bxR b (fmS2 b s)) := c1
  have c2' : CFn Try.prog 63 [.ptr 1000 0 []] (bxR b (fmS2 b s)) (fKey b (fmS2 b s)).1.av (bxR b (fmS3 b s)) := c2
  have hk : (fN b s 1).1.toInt = fmK b s := rfl
  unfold fMsg fRest
  by_cases k1 : fmK b s = 1
  · rw [if_pos k1]
    dsimp only
    have n3 : ¬ fmK b s = 3 := by omega
    refine CFn_intro Try.func66 rfl Try.ntmps66 rfl (by simp) [_] rfl fun E hE => ?_; have hnt : (!true) = false := rfl; have hnf : (!false) = true := rfl
    have d0 := ccall Try.func65 (c0') (by decide +kernel) (by decide +kernel)
    have d1 := ccall Try.func65 (c1') (by decide +kernel) (by decide +kernel)
    have d2 := ccall Try.func63 (c2') (by decide +kernel) (by decide +kernel)
    have d3 := ccall Try.func64 (c3) (by decide +kernel) (by decide +kernel)
    refine wY ?_
    (apply WcN [1000] [1000]; (focus (exact o_ccalld [(1000, 1000)] d0 rfl rfl rfl rfl rfl (by repeat (first | exact .nil | refine .cons (.inl ⟨rfl, rfl⟩) ?_ | refine .cons (.inr ⟨rfl, fun _ => Wk.tok⟩) ?_)) (by repeat' (first | exact True.intro | rfl | apply And.intro)) (by repeat' (first | exact True.intro | rfl | apply And.intro)) rfl rfl)); (focus (exact rfl)); (focus (exact rfl)); (focus (first | exact want_n | exact want_g rfl (by with_reducible rfl))))
    refine wSY ?_
    rw [hk]
    refine wY ?_
    (apply WcN [1000] [1000]; (focus (exact o_ccalld [(1000, 1000)] d1 rfl rfl rfl rfl rfl (by repeat (first | exact .nil | refine .cons (.inl ⟨rfl, rfl⟩) ?_ | refine .cons (.inr ⟨rfl, fun _ => Wk.tok⟩) ?_)) (by repeat' (first | exact True.intro | rfl | apply And.intro)) (by repeat' (first | exact True.intro | rfl | apply And.intro)) rfl rfl)); (focus (exact rfl)); (focus (exact rfl)); (focus (first | exact want_n | exact want_g rfl (by with_reducible rfl))))
    refine wY ?_
    (apply WcN [1000] [1000]; (focus (exact o_ccalld [(1000, 1000)] d2 rfl rfl rfl rfl rfl (by repeat (first | exact .nil | refine .cons (.inl ⟨rfl, rfl⟩) ?_ | refine .cons (.inr ⟨rfl, fun _ => Wk.tok⟩) ?_)) (by repeat' (first | exact True.intro | rfl | apply And.intro)) (by repeat' (first | exact True.intro | rfl | apply And.intro)) rfl rfl)); (focus (exact rfl)); (focus (exact rfl)); (focus (first | exact want_n | exact want_g rfl (by with_reducible rfl))))
    refine wY ?_
    (apply WcN [1000] [1000]; (focus (exact o_ccalld [(1000, 1000)] d3 rfl rfl rfl rfl rfl (by repeat (first | exact .nil | refine .cons (.inl ⟨rfl, rfl⟩) ?_ | refine .cons (.inr ⟨rfl, fun _ => Wk.tok⟩) ?_)) (by repeat' (first | exact True.intro | rfl | apply And.intro)) (by repeat' (first | exact True.intro | rfl | apply And.intro)) rfl rfl)); (focus (exact rfl)); (focus (exact rfl)); (focus (first | exact want_n | exact want_g rfl (by with_reducible rfl))))
    refine wY ?_
    exact finc ⟨⟨(by repeat' (first | exact True.intro | rfl | apply And.intro)), rfl⟩, rc_var rfl rfl rfl rfl, trivial⟩
  · rw [if_neg k1]
    by_cases k3 : fmK b s = 3
    · rw [if_pos k3]
      dsimp only
      refine CFn_intro Try.func66 rfl Try.ntmps66 rfl (by simp) [_] rfl fun E hE => ?_; have hnt : (!true) = false := rfl; have hnf : (!false) = true := rfl
      have d0 := ccall Try.func65 (c0') (by decide +kernel) (by decide +kernel)
      have d1 := ccall Try.func65 (c1') (by decide +kernel) (by decide +kernel)
      have d2 := ccall Try.func63 (c2') (by decide +kernel) (by decide +kernel)
      have d3 := ccall Try.func65 (c4) (by decide +kernel) (by decide +kernel)
      refine wY ?_
      (apply WcN [1000] [1000]; (focus (exact o_ccalld [(1000, 1000)] d0 rfl rfl rfl rfl rfl (by repeat (first | exact .nil | refine .cons (.inl ⟨rfl, rfl⟩) ?_ | refine .cons (.inr ⟨rfl, fun _ => Wk.tok⟩) ?_)) (by repeat' (first | exact True.intro | rfl | apply And.intro)) (by repeat' (first | exact True.intro | rfl | apply And.intro)) rfl rfl)); (focus (exact rfl)); (focus (exact rfl)); (focus (first | exact want_n | exact want_g rfl (by with_reducible rfl))))
      refine wSY ?_
      rw [hk]
      refine wY ?_
      (apply WcN [1000] [1000]; (focus (exact o_ccalld [(1000, 1000)] d1 rfl rfl rfl rfl rfl (by repeat (first | exact .nil | refine .cons (.inl ⟨rfl, rfl⟩) ?_ | refine .cons (.inr ⟨rfl, fun _ => Wk.tok⟩) ?_)) (by repeat' (first | exact True.intro | rfl | apply And.intro)) (by repeat' (first | exact True.intro | rfl | apply And.intro)) rfl rfl)); (focus (exact rfl)); (focus (exact rfl)); (focus (first | exact want_n | exact want_g rfl (by with_reducible rfl))))
      refine wY ?_
      (apply WcN [1000] [1000]; (focus (exact o_ccalld [(1000, 1000)] d2 rfl rfl rfl rfl rfl (by repeat (first | exact .nil | refine .cons (.inl ⟨rfl, rfl⟩) ?_ | refine .cons (.inr ⟨rfl, fun _ => Wk.tok⟩) ?_)) (by repeat' (first | exact True.intro | rfl | apply And.intro)) (by repeat' (first | exact True.intro | rfl | apply And.intro)) rfl rfl)); (focus (exact rfl)); (focus (exact rfl)); (focus (first | exact want_n | exact want_g rfl (by with_reducible rfl))))
      refine wY ?_
      (apply WcN [1000] [1000]; (focus (exact o_ccalld [(1000, 1000)] d3 rfl rfl rfl rfl rfl (by repeat (first | exact .nil | refine .cons (.inl ⟨rfl, rfl⟩) ?_ | refine .cons (.inr ⟨rfl, fun _ => Wk.tok⟩) ?_)) (by repeat' (first | exact True.intro | rfl | apply And.intro)) (by repeat' (first | exact True.intro | rfl | apply And.intro)) rfl rfl)); (focus (exact rfl)); (focus (exact rfl)); (focus (first | exact want_n | exact want_g rfl (by with_reducible rfl))))
      refine wY ?_
      exact finc ⟨⟨(by repeat' (first | exact True.intro | rfl | apply And.intro)), rfl⟩, rc_var rfl rfl rfl rfl, trivial⟩
    · rw [if_neg k3]
      dsimp only
      refine CFn_intro Try.func66 rfl Try.ntmps66 rfl (by simp) [_] rfl fun E hE => ?_; have hnt : (!true) = false := rfl; have hnf : (!false) = true := rfl
      have d0 := ccall Try.func65 (c0') (by decide +kernel) (by decide +kernel)
      have d1 := ccall Try.func65 (c1') (by decide +kernel) (by decide +kernel)
      have d2 := ccall Try.func63 (c2') (by decide +kernel) (by decide +kernel)
      refine wY ?_
      (apply WcN [1000] [1000]; (focus (exact o_ccalld [(1000, 1000)] d0 rfl rfl rfl rfl rfl (by repeat (first | exact .nil | refine .cons (.inl ⟨rfl, rfl⟩) ?_ | refine .cons (.inr ⟨rfl, fun _ => Wk.tok⟩) ?_)) (by repeat' (first | exact True.intro | rfl | apply And.intro)) (by repeat' (first | exact True.intro | rfl | apply And.intro)) rfl rfl)); (focus (exact rfl)); (focus (exact rfl)); (focus (first | exact want_n | exact want_g rfl (by with_reducible rfl))))
      refine wSY ?_
      rw [hk]
      refine wY ?_
      (apply WcN [1000] [1000]; (focus (exact o_ccalld [(1000, 1000)] d1 rfl rfl rfl rfl rfl (by repeat (first | exact .nil | refine .cons (.inl ⟨rfl, rfl⟩) ?_ | refine .cons (.inr ⟨rfl, fun _ => Wk.tok⟩) ?_)) (by repeat' (first | exact True.intro | rfl | apply And.intro)) (by repeat' (first | exact True.intro | rfl | apply And.intro)) rfl rfl)); (focus (exact rfl)); (focus (exact rfl)); (focus (first | exact want_n | exact want_g rfl (by with_reducible rfl))))
      refine wY ?_
      (apply WcN [1000] [1000]; (focus (exact o_ccalld [(1000, 1000)] d2 rfl rfl rfl rfl rfl (by repeat (first | exact .nil | refine .cons (.inl ⟨rfl, rfl⟩) ?_ | refine .cons (.inr ⟨rfl, fun _ => Wk.tok⟩) ?_)) (by repeat' (first | exact True.intro | rfl | apply And.intro)) (by repeat' (first | exact True.intro | rfl | apply And.intro)) rfl rfl)); (focus (exact rfl)); (focus (exact rfl)); (focus (first | exact want_n | exact want_g rfl (by with_reducible rfl))))
      refine wY ?_
      exact finc ⟨⟨(by repeat' (first | exact True.intro | rfl | apply And.intro)), rfl⟩, rc_var rfl rfl rfl rfl, trivial⟩
end Go.Proofs.Ytcmdhpinelnclaa

namespace Go.Proofs.Ytcmdhpinelnclaa
open Go Go.RowKit
set_option linter.unusedVariables false
set_option linter.unusedSimpArgs false
set_option maxRecDepth 100000

section
variable {P : Program} {E : Env} {nt : Nat} {c : Code} {S : St} {Q : Exit → St → Prop}
/-- a loop that is left at once -/
theorem AW_once (h : AW P E nt c S (thenA (fun _ => False) Q)) : AW P E nt (.loop c) S Q :=
  AW_loopI (fun _ : Nat => S) (fun _ => True) (fun _ => 0) 0 trivial (fun B a w r => ⟨B, r⟩) fun i _ B a w r => by
    refine wp_mono (h B a w r) ?_
    rintro e a' w' ⟨B', S', r', hq⟩
    refine ⟨B', S', r', ?_⟩
    cases e <;> first | exact hq | exact hq.elim
end
theorem fN_stays (b : List (BitVec 8)) (s : Rst) (w : Nat) (h : s.bad = true) : (fN b s w).2.bad = true := by unfold fN; rw [if_neg (fun k => by rw [h] at k; cases k.1)]
theorem fT_stays (b : List (BitVec 8)) (s : Rst) (m : Nat) (h : s.bad = true) : (fT b s m).2.bad = true := by unfold fT; rw [if_neg (fun k => by rw [h] at k; cases k.1)]
theorem fKey_stays (b : List (BitVec 8)) (s : Rst) (h : s.bad = true) : (fKey b s).2.bad = true := fT_stays b s 8 h
theorem fVl_stays (b : List (BitVec 8)) (s : Rst) (h : s.bad = true) : (fVl b s).2.bad = true := fT_stays b s 16 h
theorem fKid_stays (b : List (BitVec 8)) (s : Rst) (h : s.bad = true) : (fKid b s).2.bad = true := fN_stays b s 4 h
theorem fEnt_stays (b : List (BitVec 8)) (s : Rst) (h : s.bad = true) : (fEnt b s).2.bad = true := fVl_stays b _ (fKey_stays b s h)
theorem fRest_stays (b : List (BitVec 8)) (k : Int) (s : Rst) (h : s.bad = true) : (fRest b k s).2.bad = true := by
  unfold fRest
  split
  · exact fVl_stays b s h
  · split
    · exact fN_stays b s 8 h
    · exact h
theorem fMsg_stays (b : List (BitVec 8)) (s : Rst) (h : s.bad = true) : (fMsg b s).2.bad = true := fRest_stays b _ _ (fKey_stays b _ (fN_stays b _ 8 (fN_stays b s 1 h)))
theorem many_stays {α : Type} (f : Rst → α × Rst) (hf : ∀ s, s.bad = true → (f s).2.bad = true) (s : Rst) {i : Nat} (h : (rdMany f i s).2.bad = true) : ∀ n, i ≤ n → (rdMany f n s).2.bad = true
  | 0, hn => by obtain rfl : i = 0 := by omega
                exact h
  | n + 1, hn => by
    by_cases e : i = n + 1
    · rw [← e]; exact h
    · exact hf _ (many_stays f hf s h n (by omega))
theorem many_bad {α : Type} (f : Rst → α × Rst) (hf : ∀ s, s.bad = true → (f s).2.bad = true) (s : Rst) (h : s.bad = true) (n : Nat) : (rdMany f n s).2.bad = true := many_stays f hf s (i := 0) h n (Nat.zero_le _)
def fNode (b : List (BitVec 8)) : Nd × Rst :=
  if byAt b 0 = 1#8 then
    (⟨true, (rdMany (fEnt b) (byAt b 1).toNat ⟨8, false⟩).1, [], [], (rdMany (fMsg b) (byAt b 2).toNat (rdMany (fEnt b) (byAt b 1).toNat ⟨8, false⟩).2).1⟩, (rdMany (fMsg b) (byAt b 2).toNat (rdMany (fEnt b) (byAt b 1).toNat ⟨8, false⟩).2).2)
  else
    (⟨false, [], (rdMany (fKid b) (byAt b 1).toNat ⟨8, false⟩).1, (rdMany (fKey b) ((byAt b 1).toNat - 1) (rdMany (fKid b) (byAt b 1).toNat ⟨8, false⟩).2).1, (rdMany (fMsg b) (byAt b 2).toNat (rdMany (fKey b) ((byAt b 1).toNat - 1) (rdMany (fKid b) (byAt b 1).toNat ⟨8, false⟩).2).2).1⟩,
     (rdMany (fMsg b) (byAt b 2).toNat (rdMany (fKey b) ((byAt b 1).toNat - 1) (rdMany (fKid b) (byAt b 1).toNat ⟨8, false⟩).2).2).2)
def fRead (b : List (BitVec 8)) : Nd := if (fNode b).2.bad = true then Nd.zero else (fNode b).1
attribute [local irreducible] OpOK AWops AW CondB Go2 AFn thenA inBlockA noGotoA orderOk wantedA
set_option maxRecDepth 100000 in
set_option maxHeartbeats 16000000 in
theorem a_fread (b : List (BitVec 8)) (h256 : b.length = 256) : AFn Try.prog 38 [bytesA b] (fRead b).av := by
  have hb : b.length ≤ 1000000 := by omega
  have k0 : 0 < b.length := by omega
  have k1 : 1 < b.length := by omega
  have k2 : 2 < b.length := by omega
  have f0 : b[0]'k0 = byAt b 0 := byAt_get (by omega)
  have f1 : b[1]'k1 = byAt b 1 := byAt_get (by omega)
  have f2 : b[2]'k2 = byAt b 2 := byAt_get (by omega)
  have hn1 := (b[1]'k1).isLt
  have hn2 := (b[2]'k2).isLt
  by_cases hl : byAt b 0 = 1#8
  · have hl' : B8 (b[0]'k0) = 1 := by rw [f0]; exact B8_one.2 hl
    obtain ⟨S3, hS3⟩ : ∃ S3, (rdMany (fEnt b) (b[1]'k1).toNat ⟨8, false⟩).2 = S3 := ⟨_, rfl⟩
    have hN : fNode b = (⟨true, (rdMany (fEnt b) (b[1]'k1).toNat ⟨8, false⟩).1, [], [], (rdMany (fMsg b) (b[2]'k2).toNat S3).1⟩, (rdMany (fMsg b) (b[2]'k2).toNat S3).2) := by
      unfold fNode; rw [if_pos hl, ← hS3, f1, f2]
    have hNs : (fNode b).2 = (rdMany (fMsg b) (b[2]'k2).toNat S3).2 := by rw [hN]
    have hNn := congrArg Prod.fst hN
    dsimp only at hNn
    have hNb : (rdMany (fMsg b) (b[2]'k2).toNat S3).2.bad = true → (fNode b).2.bad = true := fun h => by rw [hNs]; exact h
    clear hN
    refine AFn_intro Try.func38 rfl Try.ntmps38 rfl (by simp) [_] rfl fun E hE => ?_; have hnt : (!true) = false := rfl; have hnf : (!false) = true := rfl
    refine wX ?_
    rw [decide_eq_true hl']
    refine AW_go (Go2.tokF 4 200 25 64 (x := nodeA true nilA nilA nilA nilA) (x' := nodeA true (.sl (some 200) 26 []) nilA nilA nilA) rfl (TokL.agg (.same (.tok (.same (.same (.same .nil)))))) rfl) ?_
    refine AW_go (Go2.tokF 4 201 28 73 (x := nodeA true (.sl (some 200) 26 []) nilA nilA nilA) (x' := nodeA true (.sl (some 200) 26 []) nilA nilA (.sl (some 201) 29 [])) rfl (TokL.agg (.same (.same (.same (.same (.tok .nil)))))) rfl) ?_
    refine AW_loopI (fun j : Nat => ⟨[(0, bytesA b), (2, .ptr 2 0 []), (3, .ptr 10 0 []), (4, .ptr 4 0 []), (5, .v (.int .i64 (j : Nat)))], [(2, .var (nodeA false nilA nilA nilA nilA)), (4, .var (nodeA true (.sl (some 200) 26 ((rdMany (fEnt b) j ⟨8, false⟩).1.map Ent.av)) nilA nilA (.sl (some 201) 29 []))), (10, .var (rdA b (rdMany (fEnt b) j ⟨8, false⟩).2)), (200, .tail 64 26 (rdMany (fEnt b) j ⟨8, false⟩).1.length), (201, .tail 73 29 0)]⟩) (fun j => j ≤ (b[1]'k1).toNat ∧ ∀ i, i < j → (rdMany (fEnt b) i ⟨8, false⟩).2.bad = false) (fun j => (b[1]'k1).toNat - j) 0 ⟨Nat.zero_le _, fun i h => absurd h (Nat.not_lt_zero i)⟩ (by (refine Go2.sub ⟨?_, ?_, ?_⟩ <;> repeat' (first | exact True.intro | rfl | apply And.intro))) (fun j hj => ?_)
    obtain ⟨hj, hg⟩ := hj
    have hp := rdMany_pos (fEnt b) (fEnt_pos b) ⟨8, false⟩ j
    dsimp only at hp
    have hlen := rdMany_len (fEnt b) ⟨8, false⟩ j
    by_cases hlt : j < (b[1]'k1).toNat
    · have hlt' : (j : Int) < ((b[1]'k1).toNat : Nat) := by omega
      have hu : rdMany (fEnt b) (j + 1) ⟨8, false⟩ = ((rdMany (fEnt b) j ⟨8, false⟩).1 ++ [(fEnt b (rdMany (fEnt b) j ⟨8, false⟩).2).1], (fEnt b (rdMany (fEnt b) j ⟨8, false⟩).2).2) := rfl
      cases hbad : (rdMany (fEnt b) j ⟨8, false⟩).2.bad with
      | false =>
        have hq := fKey_pos b (rdMany (fEnt b) j ⟨8, false⟩).2
        have c3 := c_fkey b (rdMany (fEnt b) j ⟨8, false⟩).2 hb (by omega)
        have c4 := c_fvl b (fKey b (rdMany (fEnt b) j ⟨8, false⟩).2).2 hb (by omega)
        have hg' : ∀ i, i < j + 1 → (rdMany (fEnt b) i ⟨8, false⟩).2.bad = false := fun i hi => by
          by_cases e : i = j
          · rw [e]; exact hbad
          · exact hg i (by omega)
        unfold fEnt at hu
        have hu' : rdMany (fEnt b) (j + 1) ⟨8, false⟩ = ((rdMany (fEnt b) j ⟨8, false⟩).1 ++ [⟨(fKey b (rdMany (fEnt b) j ⟨8, false⟩).2).1, (fVl b (fKey b (rdMany (fEnt b) j ⟨8, false⟩).2).2).1⟩], (fVl b (fKey b (rdMany (fEnt b) j ⟨8, false⟩).2).2).2) := rfl
        clear hu
        generalize rdMany (fEnt b) j ⟨8, false⟩ = R at c3 c4 hu' hbad hlen hp hq ⊢
        obtain ⟨es, ⟨p, bad⟩⟩ := R
        dsimp only at c3 c4 hu' hbad hlen hp hq ⊢
        subst hbad
        have d3 := ccall Try.func63 (c3) (by decide +kernel) (by decide +kernel)
        have d4 := ccall Try.func64 (c4) (by decide +kernel) (by decide +kernel)
        refine wX ?_
        (apply WcN [10] [10]; (focus (exact o_ccalld [(1000, 10)] d3 rfl rfl rfl rfl rfl (by repeat (first | exact .nil | refine .cons (.inl ⟨rfl, rfl⟩) ?_ | refine .cons (.inr ⟨rfl, fun _ => Wk.tok⟩) ?_)) (by repeat' (first | exact True.intro | rfl | apply And.intro)) (by repeat' (first | exact True.intro | rfl | apply And.intro)) rfl rfl)); (focus (exact rfl)); (focus (exact rfl)); (focus (first | exact want_n | exact want_g rfl (by with_reducible rfl))))
        refine wX ?_
        (apply WcN [10] [10]; (focus (exact o_ccalld [(1000, 10)] d4 rfl rfl rfl rfl rfl (by repeat (first | exact .nil | refine .cons (.inl ⟨rfl, rfl⟩) ?_ | refine .cons (.inr ⟨rfl, fun _ => Wk.tok⟩) ?_)) (by repeat' (first | exact True.intro | rfl | apply And.intro)) (by repeat' (first | exact True.intro | rfl | apply And.intro)) rfl rfl)); (focus (exact rfl)); (focus (exact rfl)); (focus (first | exact want_n | exact want_g rfl (by with_reducible rfl))))
        refine wX ?_
        refine ⟨j + 1, ⟨by omega, hg'⟩, by omega, ?_⟩
        rw [hu']
        (refine Go2.sub ⟨?_, ?_, ?_⟩ <;> repeat' (first | exact True.intro | rfl | apply And.intro))
      | true =>
        have hz : fRead b = Nd.zero := by
          unfold fRead; rw [if_pos (hNb (many_bad (fMsg b) (fMsg_stays b) S3 (by rw [← hS3]; exact many_stays (fEnt b) (fEnt_stays b) _ hbad _ (by omega)) _))]
        rw [hz]
        generalize rdMany (fEnt b) j ⟨8, false⟩ = R at hbad ⊢
        obtain ⟨es, ⟨p, bad⟩⟩ := R
        dsimp only at hbad ⊢
        subst hbad
        refine wX ?_
        refine AW_once ?_
        refine wX ?_
        refine AW_once ?_
        by_cases hx : 0 < (b[2]'k2).toNat
        · have hx' : (0 : Int) < ((b[2]'k2).toNat : Nat) := by omega
          refine wX ?_
          exact fin ⟨res_varl rfl rfl rfl (fun _ => by (repeat (first | exact wkl0 | refine wkd rfl ?_ | refine wkt ?_ | refine wkn ?_))), trivial⟩
        · have hx' : ¬ (0 : Int) < ((b[2]'k2).toNat : Nat) := by omega
          refine wX ?_
          exact fin ⟨res_varl rfl rfl rfl (fun _ => by (repeat (first | exact wkl0 | refine wkd rfl ?_ | refine wkt ?_ | refine wkn ?_))), trivial⟩
    · obtain rfl : j = (b[1]'k1).toNat := by omega
      have hlt' : ¬ (((b[1]'k1).toNat : Nat) : Int) < ((b[1]'k1).toNat : Nat) := by omega
      rw [hS3]
      have hpS : S3.pos ≤ 8 + 40 * 256 := by rw [← hS3]; omega
      generalize (rdMany (fEnt b) (b[1]'k1).toNat ⟨8, false⟩).1 = es at hNn hlen ⊢
      cases hbad : S3.bad with
      | true =>
        have hz : fRead b = Nd.zero := by unfold fRead; rw [if_pos (hNb (many_bad (fMsg b) (fMsg_stays b) S3 hbad _))]
        rw [hz]
        clear hNn hNs hNb hS3
        obtain ⟨p, bad⟩ := S3
        dsimp only at hbad ⊢
        subst hbad
        refine wX ?_
        refine AW_once ?_
        refine wX ?_
        refine AW_once ?_
        by_cases hx : 0 < (b[2]'k2).toNat
        · have hx' : (0 : Int) < ((b[2]'k2).toNat : Nat) := by omega
          refine wX ?_
          exact fin ⟨res_varl rfl rfl rfl (fun _ => by (repeat (first | exact wkl0 | refine wkd rfl ?_ | refine wkt ?_ | refine wkn ?_))), trivial⟩
        · have hx' : ¬ (0 : Int) < ((b[2]'k2).toNat : Nat) := by omega
          refine wX ?_
          exact fin ⟨res_varl rfl rfl rfl (fun _ => by (repeat (first | exact wkl0 | refine wkd rfl ?_ | refine wkt ?_ | refine wkn ?_))), trivial⟩
      | false =>
        have e3 : rdA b S3 = rdB b S3.pos false := by unfold rdA; rw [hbad]
        rw [e3]
        refine wX ?_
        refine AW_once ?_
        refine wX ?_
        rw [← e3]
        refine AW_loopI (fun j : Nat => ⟨[(0, bytesA b), (2, .ptr 2 0 []), (3, .ptr 10 0 []), (4, .ptr 4 0 []), (7, .v (.int .i64 (j : Nat)))], [(2, .var (nodeA false nilA nilA nilA nilA)), (4, .var (nodeA true (.sl (some 200) 26 (es.map Ent.av)) nilA nilA (.sl (some 201) 29 ((rdMany (fMsg b) j S3).1.map Msg.av)))), (10, .var (rdA b (rdMany (fMsg b) j S3).2)), (200, .tail 64 26 es.length), (201, .tail 73 29 (rdMany (fMsg b) j S3).1.length)]⟩) (fun j => j ≤ (b[2]'k2).toNat ∧ ∀ i, i < j → (rdMany (fMsg b) i S3).2.bad = false) (fun j => (b[2]'k2).toNat - j) 0 ⟨Nat.zero_le _, fun i h => absurd h (Nat.not_lt_zero i)⟩ (by (refine Go2.sub ⟨?_, ?_, ?_⟩ <;> repeat' (first | exact True.intro | rfl | apply And.intro))) (fun j hj => ?_)
        obtain ⟨hj, hg⟩ := hj
        have hp := rdMany_pos (fMsg b) (fMsg_pos b) S3 j
        by_cases hlt : j < (b[2]'k2).toNat
        · have hlt' : (j : Int) < ((b[2]'k2).toNat : Nat) := by omega
          have hu : rdMany (fMsg b) (j + 1) S3 = ((rdMany (fMsg b) j S3).1 ++ [(fMsg b (rdMany (fMsg b) j S3).2).1], (fMsg b (rdMany (fMsg b) j S3).2).2) := rfl
          have hl := rdMany_len (fMsg b) S3 j
          cases hbad : (rdMany (fMsg b) j S3).2.bad with
          | false =>
            have c3 := c_fmsg b (rdMany (fMsg b) j S3).2 hb (by omega)
            have hg' : ∀ i, i < j + 1 → (rdMany (fMsg b) i S3).2.bad = false := fun i hi => by
              by_cases e : i = j
              · rw [e]; exact hbad
              · exact hg i (by omega)
            generalize rdMany (fMsg b) j S3 = R at c3 hu hbad hl hp ⊢
            obtain ⟨ms, ⟨p, bad⟩⟩ := R
            dsimp only at c3 hu hbad hl hp ⊢
            subst hbad
            have d3 := ccall Try.func66 (c3) (by decide +kernel) (by decide +kernel)
            refine wX ?_
            (apply WcN [10] [10]; (focus (exact o_ccalld [(1000, 10)] d3 rfl rfl rfl rfl rfl (by repeat (first | exact .nil | refine .cons (.inl ⟨rfl, rfl⟩) ?_ | refine .cons (.inr ⟨rfl, fun _ => Wk.tok⟩) ?_)) (by repeat' (first | exact True.intro | rfl | apply And.intro)) (by repeat' (first | exact True.intro | rfl | apply And.intro)) rfl rfl)); (focus (exact rfl)); (focus (exact rfl)); (focus (first | exact want_n | exact want_g rfl (by with_reducible rfl))))
            refine wX ?_
            refine ⟨j + 1, ⟨by omega, hg'⟩, by omega, ?_⟩
            rw [hu]
            (refine Go2.sub ⟨?_, ?_, ?_⟩ <;> repeat' (first | exact True.intro | rfl | apply And.intro))
          | true =>
            have hz : fRead b = Nd.zero := by unfold fRead; rw [if_pos (hNb (many_stays (fMsg b) (fMsg_stays b) S3 hbad _ (by omega)))]
            rw [hz]
            generalize rdMany (fMsg b) j S3 = R at hbad ⊢
            obtain ⟨ms, ⟨p, bad⟩⟩ := R
            dsimp only at hbad ⊢
            subst hbad
            refine wX ?_
            exact fin ⟨res_varl rfl rfl rfl (fun _ => by (repeat (first | exact wkl0 | refine wkd rfl ?_ | refine wkt ?_ | refine wkn ?_))), trivial⟩
        · obtain rfl : j = (b[2]'k2).toNat := by omega
          have hlt' : ¬ (((b[2]'k2).toNat : Nat) : Int) < ((b[2]'k2).toNat : Nat) := by omega
          cases hbad : (rdMany (fMsg b) (b[2]'k2).toNat S3).2.bad with
          | false =>
            have hz : fRead b = (fNode b).1 := by unfold fRead; rw [if_neg (by rw [hNs, hbad]; simp)]
            rw [hz, hNn]
            generalize rdMany (fMsg b) (b[2]'k2).toNat S3 = R at hbad ⊢
            obtain ⟨ms, ⟨p, bad⟩⟩ := R
            dsimp only at hbad ⊢
            subst hbad
            refine wX ?_
            exact fin ⟨res_varl rfl rfl rfl (fun _ => by (repeat (first | exact wkl0 | refine wkd rfl ?_ | refine wkt ?_ | refine wkn ?_))), trivial⟩
          | true =>
            have hz : fRead b = Nd.zero := by unfold fRead; rw [if_pos (hNb hbad)]
            rw [hz]
            generalize rdMany (fMsg b) (b[2]'k2).toNat S3 = R at hbad ⊢
            obtain ⟨ms, ⟨p, bad⟩⟩ := R
            dsimp only at hbad ⊢
            subst hbad
            refine wX ?_
            exact fin ⟨res_varl rfl rfl rfl (fun _ => by (repeat (first | exact wkl0 | refine wkd rfl ?_ | refine wkt ?_ | refine wkn ?_))), trivial⟩
  · have hl' : ¬ B8 (b[0]'k0) = 1 := by rw [f0]; exact fun h => hl (B8_one.1 h)
    obtain ⟨S1, hS1⟩ : ∃ S1, (rdMany (fKid b) (b[1]'k1).toNat ⟨8, false⟩).2 = S1 := ⟨_, rfl⟩
    obtain ⟨S3, hS3⟩ : ∃ S3, (rdMany (fKey b) ((b[1]'k1).toNat - 1) S1).2 = S3 := ⟨_, rfl⟩
    have hN : fNode b = (⟨false, [], (rdMany (fKid b) (b[1]'k1).toNat ⟨8, false⟩).1, (rdMany (fKey b) ((b[1]'k1).toNat - 1) S1).1, (rdMany (fMsg b) (b[2]'k2).toNat S3).1⟩, (rdMany (fMsg b) (b[2]'k2).toNat S3).2) := by
      unfold fNode; rw [if_neg hl, ← hS3, ← hS1, f1, f2]
    have hNs : (fNode b).2 = (rdMany (fMsg b) (b[2]'k2).toNat S3).2 := by rw [hN]
    have hNn := congrArg Prod.fst hN
    dsimp only at hNn
    have hNb : (rdMany (fMsg b) (b[2]'k2).toNat S3).2.bad = true → (fNode b).2.bad = true := fun h => by rw [hNs]; exact h
    have hkS : ∀ s, s.bad = true → (fKey b s).2.bad = true := fKey_stays b
    clear hN
    refine AFn_intro Try.func38 rfl Try.ntmps38 rfl (by simp) [_] rfl fun E hE => ?_; have hnt : (!true) = false := rfl; have hnf : (!false) = true := rfl
    refine wX ?_
    rw [decide_eq_false hl']
    refine AW_go (Go2.tokF 4 202 0 3 (x := nodeA false nilA nilA nilA nilA) (x' := nodeA false nilA (.sl (some 202) 1 []) nilA nilA) rfl (TokL.agg (.same (.same (.tok (.same (.same .nil)))))) rfl) ?_
    refine AW_go (Go2.tokF 4 203 8 59 (x := nodeA false nilA (.sl (some 202) 1 []) nilA nilA) (x' := nodeA false nilA (.sl (some 202) 1 []) (.sl (some 203) 9 []) nilA) rfl (TokL.agg (.same (.same (.same (.tok (.same .nil)))))) rfl) ?_
    refine AW_go (Go2.tokF 4 201 28 73 (x := nodeA false nilA (.sl (some 202) 1 []) (.sl (some 203) 9 []) nilA) (x' := nodeA false nilA (.sl (some 202) 1 []) (.sl (some 203) 9 []) (.sl (some 201) 29 [])) rfl (TokL.agg (.same (.same (.same (.same (.tok .nil)))))) rfl) ?_
    refine AW_loopI (fun j : Nat => ⟨[(0, bytesA b), (2, .ptr 2 0 []), (3, .ptr 10 0 []), (4, .ptr 4 0 []), (5, .v (.int .i64 (j : Nat)))], [(2, .var (nodeA false nilA nilA nilA nilA)), (4, .var (nodeA false nilA (.sl (some 202) 1 ((rdMany (fKid b) j ⟨8, false⟩).1.map intA)) (.sl (some 203) 9 []) (.sl (some 201) 29 []))), (10, .var (rdA b (rdMany (fKid b) j ⟨8, false⟩).2)), (202, .tail 3 1 (rdMany (fKid b) j ⟨8, false⟩).1.length), (203, .tail 59 9 0), (201, .tail 73 29 0)]⟩) (fun j => j ≤ (b[1]'k1).toNat ∧ ∀ i, i < j → (rdMany (fKid b) i ⟨8, false⟩).2.bad = false) (fun j => (b[1]'k1).toNat - j) 0 ⟨Nat.zero_le _, fun i h => absurd h (Nat.not_lt_zero i)⟩ (by (refine Go2.sub ⟨?_, ?_, ?_⟩ <;> repeat' (first | exact True.intro | rfl | apply And.intro))) (fun j hj => ?_)
    obtain ⟨hj, hg⟩ := hj
    have hp := rdMany_pos (fKid b) (fKid_pos b) ⟨8, false⟩ j
    dsimp only at hp
    have hlen := rdMany_len (fKid b) ⟨8, false⟩ j
    by_cases hlt : j < (b[1]'k1).toNat
    · have hlt' : (j : Int) < ((b[1]'k1).toNat : Nat) := by omega
      have hu' : rdMany (fKid b) (j + 1) ⟨8, false⟩ = ((rdMany (fKid b) j ⟨8, false⟩).1 ++ [(fN b (rdMany (fKid b) j ⟨8, false⟩).2 4).1.toInt], (fN b (rdMany (fKid b) j ⟨8, false⟩).2 4).2) := rfl
      cases hbad : (rdMany (fKid b) j ⟨8, false⟩).2.bad with
      | false =>
        have c3 := c_fnum b (rdMany (fKid b) j ⟨8, false⟩).2 4 hb (by omega) (by omega) (by omega)
        have hg' : ∀ i, i < j + 1 → (rdMany (fKid b) i ⟨8, false⟩).2.bad = false := fun i hi => by
          by_cases e : i = j
          · rw [e]; exact hbad
          · exact hg i (by omega)
        generalize rdMany (fKid b) j ⟨8, false⟩ = R at c3 hu' hbad hlen hp ⊢
        obtain ⟨ks, ⟨p, bad⟩⟩ := R
        dsimp only at c3 hu' hbad hlen hp ⊢
        subst hbad
        have d3 := ccall Try.func65 (c3) (by decide +kernel) (by decide +kernel)
        refine wX ?_
        (apply WcN [10] [10]; (focus (exact o_ccalld [(1000, 10)] d3 rfl rfl rfl rfl rfl (by repeat (first | exact .nil | refine .cons (.inl ⟨rfl, rfl⟩) ?_ | refine .cons (.inr ⟨rfl, fun _ => Wk.tok⟩) ?_)) (by repeat' (first | exact True.intro | rfl | apply And.intro)) (by repeat' (first | exact True.intro | rfl | apply And.intro)) rfl rfl)); (focus (exact rfl)); (focus (exact rfl)); (focus (first | exact want_n | exact want_g rfl (by with_reducible rfl))))
        refine wX ?_
        refine ⟨j + 1, ⟨by omega, hg'⟩, by omega, ?_⟩
        rw [hu']
        (refine Go2.sub ⟨?_, ?_, ?_⟩ <;> repeat' (first | exact True.intro | rfl | apply And.intro))
      | true =>
        have hz : fRead b = Nd.zero := by
          unfold fRead; rw [if_pos (hNb (many_bad (fMsg b) (fMsg_stays b) S3 (by rw [← hS3]; exact many_bad (fKey b) hkS S1 (by rw [← hS1]; exact many_stays (fKid b) (fKid_stays b) _ hbad _ (by omega)) _) _))]
        rw [hz]
        generalize rdMany (fKid b) j ⟨8, false⟩ = R at hbad hlen ⊢
        obtain ⟨ks, ⟨p, bad⟩⟩ := R
        dsimp only at hbad hlen ⊢
        subst hbad
        refine wX ?_
        refine AW_once ?_
        by_cases hy : 1 < ks.length
        · have hy' : (0 : Int) + 1 < (ks.length : Nat) := by omega
          refine wX ?_
          refine AW_once ?_
          by_cases hx : 0 < (b[2]'k2).toNat
          · have hx' : (0 : Int) < ((b[2]'k2).toNat : Nat) := by omega
            refine wX ?_
            exact fin ⟨res_varl rfl rfl rfl (fun _ => by (repeat (first | exact wkl0 | refine wkd rfl ?_ | refine wkt ?_ | refine wkn ?_))), trivial⟩
          · have hx' : ¬ (0 : Int) < ((b[2]'k2).toNat : Nat) := by omega
            refine wX ?_
            exact fin ⟨res_varl rfl rfl rfl (fun _ => by (repeat (first | exact wkl0 | refine wkd rfl ?_ | refine wkt ?_ | refine wkn ?_))), trivial⟩
        · have hy' : ¬ (0 : Int) + 1 < (ks.length : Nat) := by omega
          refine wX ?_
          refine AW_once ?_
          by_cases hx : 0 < (b[2]'k2).toNat
          · have hx' : (0 : Int) < ((b[2]'k2).toNat : Nat) := by omega
            refine wX ?_
            exact fin ⟨res_varl rfl rfl rfl (fun _ => by (repeat (first | exact wkl0 | refine wkd rfl ?_ | refine wkt ?_ | refine wkn ?_))), trivial⟩
          · have hx' : ¬ (0 : Int) < ((b[2]'k2).toNat : Nat) := by omega
            refine wX ?_
            exact fin ⟨res_varl rfl rfl rfl (fun _ => by (repeat (first | exact wkl0 | refine wkd rfl ?_ | refine wkt ?_ | refine wkn ?_))), trivial⟩
    · obtain rfl : j = (b[1]'k1).toNat := by omega
      have hlt' : ¬ (((b[1]'k1).toNat : Nat) : Int) < ((b[1]'k1).toNat : Nat) := by omega
      rw [hS1]
      have hpS1 : S1.pos ≤ 8 + 40 * 256 := by rw [← hS1]; omega
      cases hbad : S1.bad with
      | true =>
        have hz : fRead b = Nd.zero := by unfold fRead; rw [if_pos (hNb (many_bad (fMsg b) (fMsg_stays b) S3 (by rw [← hS3]; exact many_bad (fKey b) hkS S1 hbad _) _))]
        rw [hz]
        clear hNn hNs hNb hS1 hS3
        generalize (rdMany (fKid b) (b[1]'k1).toNat ⟨8, false⟩).1 = ks at hlen ⊢
        obtain ⟨p, bad⟩ := S1
        dsimp only at hbad ⊢
        subst hbad
        refine wX ?_
        refine AW_once ?_
        by_cases hy : 1 < ks.length
        · have hy' : (0 : Int) + 1 < (ks.length : Nat) := by omega
          refine wX ?_
          refine AW_once ?_
          by_cases hx : 0 < (b[2]'k2).toNat
          · have hx' : (0 : Int) < ((b[2]'k2).toNat : Nat) := by omega
            refine wX ?_
            exact fin ⟨res_varl rfl rfl rfl (fun _ => by (repeat (first | exact wkl0 | refine wkd rfl ?_ | refine wkt ?_ | refine wkn ?_))), trivial⟩
          · have hx' : ¬ (0 : Int) < ((b[2]'k2).toNat : Nat) := by omega
            refine wX ?_
            exact fin ⟨res_varl rfl rfl rfl (fun _ => by (repeat (first | exact wkl0 | refine wkd rfl ?_ | refine wkt ?_ | refine wkn ?_))), trivial⟩
        · have hy' : ¬ (0 : Int) + 1 < (ks.length : Nat) := by omega
          refine wX ?_
          refine AW_once ?_
          by_cases hx : 0 < (b[2]'k2).toNat
          · have hx' : (0 : Int) < ((b[2]'k2).toNat : Nat) := by omega
            refine wX ?_
            exact fin ⟨res_varl rfl rfl rfl (fun _ => by (repeat (first | exact wkl0 | refine wkd rfl ?_ | refine wkt ?_ | refine wkn ?_))), trivial⟩
          · have hx' : ¬ (0 : Int) < ((b[2]'k2).toNat : Nat) := by omega
            refine wX ?_
            exact fin ⟨res_varl rfl rfl rfl (fun _ => by (repeat (first | exact wkl0 | refine wkd rfl ?_ | refine wkt ?_ | refine wkn ?_))), trivial⟩
      | false =>
        generalize (rdMany (fKid b) (b[1]'k1).toNat ⟨8, false⟩).1 = ks at hNn hlen ⊢
        have e3 : rdA b S1 = rdB b S1.pos false := by unfold rdA; rw [hbad]
        rw [e3]
        refine wX ?_
        rw [← e3]
        clear e3 hbad hlt hlt' hg hj
        refine AW_loopI (fun j : Nat => ⟨[(0, bytesA b), (2, .ptr 2 0 []), (3, .ptr 10 0 []), (4, .ptr 4 0 []), (6, .v (.int .i64 (j : Nat)))], [(2, .var (nodeA false nilA nilA nilA nilA)), (4, .var (nodeA false nilA (.sl (some 202) 1 (ks.map intA)) (.sl (some 203) 9 ((rdMany (fKey b) j S1).1.map Key.av)) (.sl (some 201) 29 []))), (10, .var (rdA b (rdMany (fKey b) j S1).2)), (202, .tail 3 1 ks.length), (203, .tail 59 9 (rdMany (fKey b) j S1).1.length), (201, .tail 73 29 0)]⟩) (fun j => j ≤ (b[1]'k1).toNat - 1 ∧ ∀ i, i < j → (rdMany (fKey b) i S1).2.bad = false) (fun j => (b[1]'k1).toNat - 1 - j) 0 ⟨Nat.zero_le _, fun i h => absurd h (Nat.not_lt_zero i)⟩ (by (refine Go2.sub ⟨?_, ?_, ?_⟩ <;> repeat' (first | exact True.intro | rfl | apply And.intro))) (fun j hj => ?_)
        obtain ⟨hj, hg⟩ := hj
        have hp := rdMany_pos (fKey b) (fun s => by have := fKey_pos b s; omega) S1 j
        have hlen2 := rdMany_len (fKey b) S1 j
        by_cases hlt : j < (b[1]'k1).toNat - 1
        · have hlt' : (j : Int) + 1 < (ks.length : Nat) := by omega
          have hu' : rdMany (fKey b) (j + 1) S1 = ((rdMany (fKey b) j S1).1 ++ [(fKey b (rdMany (fKey b) j S1).2).1], (fKey b (rdMany (fKey b) j S1).2).2) := rfl
          cases hbad : (rdMany (fKey b) j S1).2.bad with
          | false =>
            have c3 := c_fkey b (rdMany (fKey b) j S1).2 hb (by omega)
            have hg' : ∀ i, i < j + 1 → (rdMany (fKey b) i S1).2.bad = false := fun i hi => by
              by_cases e : i = j
              · rw [e]; exact hbad
              · exact hg i (by omega)
            generalize rdMany (fKey b) j S1 = R at c3 hu' hbad hlen2 hp ⊢
            obtain ⟨ps, ⟨p, bad⟩⟩ := R
            dsimp only at c3 hu' hbad hlen2 hp ⊢
            subst hbad
            have d3 := ccall Try.func63 (c3) (by decide +kernel) (by decide +kernel)
            refine wX ?_
            (apply WcN [10] [10]; (focus (exact o_ccalld [(1000, 10)] d3 rfl rfl rfl rfl rfl (by repeat (first | exact .nil | refine .cons (.inl ⟨rfl, rfl⟩) ?_ | refine .cons (.inr ⟨rfl, fun _ => Wk.tok⟩) ?_)) (by repeat' (first | exact True.intro | rfl | apply And.intro)) (by repeat' (first | exact True.intro | rfl | apply And.intro)) rfl rfl)); (focus (exact rfl)); (focus (exact rfl)); (focus (first | exact want_n | exact want_g rfl (by with_reducible rfl))))
            refine wX ?_
            refine ⟨j + 1, ⟨by omega, hg'⟩, by omega, ?_⟩
            rw [hu']
            (refine Go2.sub ⟨?_, ?_, ?_⟩ <;> repeat' (first | exact True.intro | rfl | apply And.intro))
          | true =>
            have hz : fRead b = Nd.zero := by
              unfold fRead; rw [if_pos (hNb (many_bad (fMsg b) (fMsg_stays b) S3 (by rw [← hS3]; exact many_stays (fKey b) hkS S1 hbad _ (by omega)) _))]
            rw [hz]
            generalize rdMany (fKey b) j S1 = R at hbad hlen2 ⊢
            obtain ⟨ps, ⟨p, bad⟩⟩ := R
            dsimp only at hbad hlen2 ⊢
            subst hbad
            refine wX ?_
            refine AW_once ?_
            by_cases hx : 0 < (b[2]'k2).toNat
            · have hx' : (0 : Int) < ((b[2]'k2).toNat : Nat) := by omega
              refine wX ?_
              exact fin ⟨res_varl rfl rfl rfl (fun _ => by (repeat (first | exact wkl0 | refine wkd rfl ?_ | refine wkt ?_ | refine wkn ?_))), trivial⟩
            · have hx' : ¬ (0 : Int) < ((b[2]'k2).toNat : Nat) := by omega
              refine wX ?_
              exact fin ⟨res_varl rfl rfl rfl (fun _ => by (repeat (first | exact wkl0 | refine wkd rfl ?_ | refine wkt ?_ | refine wkn ?_))), trivial⟩
        · obtain rfl : j = (b[1]'k1).toNat - 1 := by omega
          have hlt' : ¬ (((b[1]'k1).toNat - 1 : Nat) : Int) + 1 < (ks.length : Nat) := by omega
          rw [hS3]
          have hpS : S3.pos ≤ 8 + 40 * 256 + 40 * 256 := by rw [← hS3]; omega
          generalize (rdMany (fKey b) ((b[1]'k1).toNat - 1) S1).1 = ps at hNn hlen2 ⊢
          cases hbad : S3.bad with
          | true =>
            have hz : fRead b = Nd.zero := by unfold fRead; rw [if_pos (hNb (many_bad (fMsg b) (fMsg_stays b) S3 hbad _))]
            rw [hz]
            clear hNn hNs hNb hS3
            obtain ⟨p, bad⟩ := S3
            dsimp only at hbad ⊢
            subst hbad
            refine wX ?_
            refine AW_once ?_
            by_cases hx : 0 < (b[2]'k2).toNat
            · have hx' : (0 : Int) < ((b[2]'k2).toNat : Nat) := by omega
              refine wX ?_
              exact fin ⟨res_varl rfl rfl rfl (fun _ => by (repeat (first | exact wkl0 | refine wkd rfl ?_ | refine wkt ?_ | refine wkn ?_))), trivial⟩
            · have hx' : ¬ (0 : Int) < ((b[2]'k2).toNat : Nat) := by omega
              refine wX ?_
              exact fin ⟨res_varl rfl rfl rfl (fun _ => by (repeat (first | exact wkl0 | refine wkd rfl ?_ | refine wkt ?_ | refine wkn ?_))), trivial⟩
          | false =>
            have e3 : rdA b S3 = rdB b S3.pos false := by unfold rdA; rw [hbad]
            rw [e3]
            refine wX ?_
            rw [← e3]
            refine AW_loopI (fun j : Nat => ⟨[(0, bytesA b), (2, .ptr 2 0 []), (3, .ptr 10 0 []), (4, .ptr 4 0 []), (7, .v (.int .i64 (j : Nat)))], [(2, .var (nodeA false nilA nilA nilA nilA)), (4, .var (nodeA false nilA (.sl (some 202) 1 (ks.map intA)) (.sl (some 203) 9 (ps.map Key.av)) (.sl (some 201) 29 ((rdMany (fMsg b) j S3).1.map Msg.av)))), (10, .var (rdA b (rdMany (fMsg b) j S3).2)), (202, .tail 3 1 ks.length), (203, .tail 59 9 ps.length), (201, .tail 73 29 (rdMany (fMsg b) j S3).1.length)]⟩) (fun j => j ≤ (b[2]'k2).toNat ∧ ∀ i, i < j → (rdMany (fMsg b) i S3).2.bad = false) (fun j => (b[2]'k2).toNat - j) 0 ⟨Nat.zero_le _, fun i h => absurd h (Nat.not_lt_zero i)⟩ (by (refine Go2.sub ⟨?_, ?_, ?_⟩ <;> repeat' (first | exact True.intro | rfl | apply And.intro))) (fun j hj => ?_)
            obtain ⟨hj, hg⟩ := hj
            have hp := rdMany_pos (fMsg b) (fMsg_pos b) S3 j
            by_cases hlt : j < (b[2]'k2).toNat
            · have hlt' : (j : Int) < ((b[2]'k2).toNat : Nat) := by omega
              have hu : rdMany (fMsg b) (j + 1) S3 = ((rdMany (fMsg b) j S3).1 ++ [(fMsg b (rdMany (fMsg b) j S3).2).1], (fMsg b (rdMany (fMsg b) j S3).2).2) := rfl
              have hl := rdMany_len (fMsg b) S3 j
              cases hbad : (rdMany (fMsg b) j S3).2.bad with
              | false =>
                have c3 := c_fmsg b (rdMany (fMsg b) j S3).2 hb (by omega)
                have hg' : ∀ i, i < j + 1 → (rdMany (fMsg b) i S3).2.bad = false := fun i hi => by
                  by_cases e : i = j
                  · rw [e]; exact hbad
                  · exact hg i (by omega)
                generalize rdMany (fMsg b) j S3 = R at c3 hu hbad hl hp ⊢
                obtain ⟨ms, ⟨p, bad⟩⟩ := R
                dsimp only at c3 hu hbad hl hp ⊢
                subst hbad
                have d3 := ccall Try.func66 (c3) (by decide +kernel) (by decide +kernel)
                refine wX ?_
                (apply WcN [10] [10]; (focus (exact o_ccalld [(1000, 10)] d3 rfl rfl rfl rfl rfl (by repeat (first | exact .nil | refine .cons (.inl ⟨rfl, rfl⟩) ?_ | refine .cons (.inr ⟨rfl, fun _ => Wk.tok⟩) ?_)) (by repeat' (first | exact True.intro | rfl | apply And.intro)) (by repeat' (first | exact True.intro | rfl | apply And.intro)) rfl rfl)); (focus (exact rfl)); (focus (exact rfl)); (focus (first | exact want_n | exact want_g rfl (by with_reducible rfl))))
                refine wX ?_
                refine ⟨j + 1, ⟨by omega, hg'⟩, by omega, ?_⟩
                rw [hu]
                (refine Go2.sub ⟨?_, ?_, ?_⟩ <;> repeat' (first | exact True.intro | rfl | apply And.intro))
              | true =>
                have hz : fRead b = Nd.zero := by unfold fRead; rw [if_pos (hNb (many_stays (fMsg b) (fMsg_stays b) S3 hbad _ (by omega)))]
                rw [hz]
                generalize rdMany (fMsg b) j S3 = R at hbad ⊢
                obtain ⟨ms, ⟨p, bad⟩⟩ := R
                dsimp only at hbad ⊢
                subst hbad
                refine wX ?_
                exact fin ⟨res_varl rfl rfl rfl (fun _ => by (repeat (first | exact wkl0 | refine wkd rfl ?_ | refine wkt ?_ | refine wkn ?_))), trivial⟩
            · obtain rfl : j = (b[2]'k2).toNat := by omega
              have hlt' : ¬ (((b[2]'k2).toNat : Nat) : Int) < ((b[2]'k2).toNat : Nat) := by omega
              cases hbad : (rdMany (fMsg b) (b[2]'k2).toNat S3).2.bad with
              | false =>
                have hz : fRead b = (fNode b).1 := by unfold fRead; rw [if_neg (by rw [hNs, hbad]; simp)]
                rw [hz, hNn]
                generalize rdMany (fMsg b) (b[2]'k2).toNat S3 = R at hbad ⊢
                obtain ⟨ms, ⟨p, bad⟩⟩ := R
                dsimp only at hbad ⊢
                subst hbad
                refine wX ?_
                exact fin ⟨res_varl rfl rfl rfl (fun _ => by (repeat (first | exact wkl0 | refine wkd rfl ?_ | refine wkt ?_ | refine wkn ?_))), trivial⟩
              | true =>
                have hz : fRead b = Nd.zero := by unfold fRead; rw [if_pos (hNb hbad)]
                rw [hz]
                generalize rdMany (fMsg b) (b[2]'k2).toNat S3 = R at hbad ⊢
                obtain ⟨ms, ⟨p, bad⟩⟩ := R
                dsimp only at hbad ⊢
                subst hbad
                refine wX ?_
                exact fin ⟨res_varl rfl rfl rfl (fun _ => by (repeat (first | exact wkl0 | refine wkd rfl ?_ | refine wkt ?_ | refine wkn ?_))), trivial⟩
end Go.Proofs.Ytcmdhpinelnclaa

namespace Go.Proofs.Ytcmdhpinelnclaa
open Go Go.RowKit
set_option linter.unusedVariables false
set_option linter.unusedSimpArgs false
set_option maxRecDepth 100000

/-! ### both readers -/
def Sim {α : Type} (p r : α × Rst) : Prop := p.2.bad = r.2.bad ∧ (p.2.bad = false → p = r)
theorem stN_stays (b : List (BitVec 8)) (s : Rst) (w : Nat) (h : s.bad = true) : (stN b s w).bad = true := by unfold stN; rw [h]; rfl
theorem stT_stays (b : List (BitVec 8)) (s : Rst) (m : Nat) (h : s.bad = true) : (stT b s m).bad = true := by unfold stT; split; exact h; rfl
theorem rdKey_stays (b : List (BitVec 8)) (s : Rst) (h : s.bad = true) : (rdKey b s).2.bad = true := stT_stays b s 8 h
theorem rdVl_stays (b : List (BitVec 8)) (s : Rst) (h : s.bad = true) : (rdVl b s).2.bad = true := stT_stays b s 16 h
theorem rdKid_stays (b : List (BitVec 8)) (s : Rst) (h : s.bad = true) : (rdKid b s).2.bad = true := stN_stays b s 4 h
theorem rdEnt_stays (b : List (BitVec 8)) (s : Rst) (h : s.bad = true) : (rdEnt b s).2.bad = true := rdVl_stays b _ (rdKey_stays b s h)
theorem rdRest_stays (b : List (BitVec 8)) (k : Int) (s : Rst) (h : s.bad = true) : (rdRest b k s).2.bad = true := by
  unfold rdRest
  split
  · exact rdVl_stays b s h
  · split
    · exact stN_stays b s 8 h
    · exact h
theorem rdMsg_stays (b : List (BitVec 8)) (s : Rst) (h : s.bad = true) : (rdMsg b s).2.bad = true := rdRest_stays b _ _ (rdKey_stays b _ (stN_stays b _ 8 (stN_stays b s 1 h)))
theorem sim_num (b : List (BitVec 8)) (s : Rst) (w : Nat) (h : s.bad = false) : Sim (numAt b s.pos w, stN b s w) (fN b s w) := by
  unfold fN stN
  by_cases c : s.pos + w ≤ b.length
  · rw [if_pos ⟨h, c⟩, decide_eq_true c, h]; exact ⟨rfl, fun _ => rfl⟩
  · rw [if_neg (fun k => c k.2), decide_eq_false c, h]; exact ⟨rfl, fun k => by cases k⟩
theorem sim_take (b : List (BitVec 8)) (s : Rst) (m : Nat) (h : s.bad = false) : Sim (takeS b s m, stT b s m) (fT b s m) := by
  unfold fT takeS stT takeOk
  by_cases c : cnt b s.pos ≤ m ∧ s.pos + 1 + cnt b s.pos ≤ b.length
  · rw [decide_eq_true c.1, decide_eq_true c.2, Bool.and_self, if_pos rfl, if_pos rfl, if_pos ⟨h, by omega, c.1, c.2⟩, h]; exact ⟨rfl, fun _ => rfl⟩
  · have e : (decide (cnt b s.pos ≤ m) && decide (s.pos + 1 + cnt b s.pos ≤ b.length)) = false := by
      rw [Bool.and_eq_false_iff, decide_eq_false_iff_not, decide_eq_false_iff_not]
      by_cases c1 : cnt b s.pos ≤ m
      · exact .inr (fun c2 => c ⟨c1, c2⟩)
      · exact .inl c1
    rw [e, if_neg (by simp), if_neg (by simp), if_neg (fun k => c ⟨k.2.2.1, k.2.2.2⟩)]
    exact ⟨rfl, fun k => by cases k⟩
theorem Sim.map {α β : Type} {p r : α × Rst} (g : α → β) (h : Sim p r) : Sim (g p.1, p.2) (g r.1, r.2) := ⟨h.1, fun k => by rw [h.2 k]⟩
theorem sim_key (b : List (BitVec 8)) (s : Rst) (h : s.bad = false) : Sim (rdKey b s) (fKey b s) := (sim_take b s 8 h).map mkKey
theorem sim_vl (b : List (BitVec 8)) (s : Rst) (h : s.bad = false) : Sim (rdVl b s) (fVl b s) := (sim_take b s 16 h).map mkVl
theorem sim_kid (b : List (BitVec 8)) (s : Rst) (h : s.bad = false) : Sim (rdKid b s) (fKid b s) := (sim_num b s 4 h).map BitVec.toInt
/-- one behind the other -/
theorem Sim.bind {α β γ : Type} {p r : α × Rst} (h : Sim p r) (f g : α → Rst → β × Rst) (hf : ∀ a s, s.bad = true → (f a s).2.bad = true) (hg : ∀ a s, s.bad = true → (g a s).2.bad = true) (hs : ∀ a s, s.bad = false → Sim (f a s) (g a s)) (k : α → β → γ) :
    Sim (k p.1 (f p.1 p.2).1, (f p.1 p.2).2) (k r.1 (g r.1 r.2).1, (g r.1 r.2).2) := by
  obtain ⟨h1, h2⟩ := h
  cases hb : p.2.bad with
  | true =>
    have hb' : r.2.bad = true := by rw [← h1]; exact hb
    have e1 := hf p.1 p.2 hb
    have e2 := hg r.1 r.2 hb'
    exact ⟨by show (f p.1 p.2).2.bad = (g r.1 r.2).2.bad; rw [e1, e2], fun k => by have k' : (f p.1 p.2).2.bad = false := k; rw [e1] at k'; cases k'⟩
  | false =>
    have e := h2 hb
    rw [← e]
    have hs' := hs p.1 p.2 hb
    exact ⟨hs'.1, fun k => by have k' : (f p.1 p.2).2.bad = false := k; rw [hs'.2 k']⟩
theorem sim_ent (b : List (BitVec 8)) (s : Rst) (h : s.bad = false) : Sim (rdEnt b s) (fEnt b s) :=
  (sim_key b s h).bind (fun _ => rdVl b) (fun _ => fVl b) (fun _ => rdVl_stays b) (fun _ => fVl_stays b) (fun _ s h => sim_vl b s h) (fun k v => (⟨k, v⟩ : Ent))
theorem sim_rest (b : List (BitVec 8)) (k : Int) (s : Rst) (h : s.bad = false) : Sim (rdRest b k s) (fRest b k s) := by
  unfold rdRest fRest
  by_cases k1 : k = 1
  · rw [if_pos k1, if_pos k1]; exact (sim_vl b s h).map (fun v => (v, 0#64))
  · rw [if_neg k1, if_neg k1]
    by_cases k3 : k = 3
    · rw [if_pos k3, if_pos k3]; exact (sim_num b s 8 h).map (fun n => (Vl.zero, n))
    · rw [if_neg k3, if_neg k3]; exact ⟨rfl, fun _ => rfl⟩
theorem sim_msg (b : List (BitVec 8)) (s : Rst) (h : s.bad = false) : Sim (rdMsg b s) (fMsg b s) :=
  (sim_num b s 1 h).bind
    (fun n s1 => (((numAt b s1.pos 8), ((rdKey b (stN b s1 8)).1, (rdRest b n.toInt (rdKey b (stN b s1 8)).2).1)), (rdRest b n.toInt (rdKey b (stN b s1 8)).2).2))
    (fun n s1 => (((fN b s1 8).1, ((fKey b (fN b s1 8).2).1, (fRest b n.toInt (fKey b (fN b s1 8).2).2).1)), (fRest b n.toInt (fKey b (fN b s1 8).2).2).2))
    (fun n s1 h1 => rdRest_stays b _ _ (rdKey_stays b _ (stN_stays b _ 8 h1)))
    (fun n s1 h1 => fRest_stays b _ _ (fKey_stays b _ (fN_stays b _ 8 h1)))
    (fun n s1 h1 => (sim_num b s1 8 h1).bind
      (fun _ s2 => (((rdKey b s2).1, (rdRest b n.toInt (rdKey b s2).2).1), (rdRest b n.toInt (rdKey b s2).2).2))
      (fun _ s2 => (((fKey b s2).1, (fRest b n.toInt (fKey b s2).2).1), (fRest b n.toInt (fKey b s2).2).2))
      (fun _ s2 h2 => rdRest_stays b _ _ (rdKey_stays b _ h2))
      (fun _ s2 h2 => fRest_stays b _ _ (fKey_stays b _ h2))
      (fun _ s2 h2 => (sim_key b s2 h2).bind (fun _ => rdRest b n.toInt) (fun _ => fRest b n.toInt) (fun _ => rdRest_stays b _) (fun _ => fRest_stays b _) (fun _ s3 h3 => sim_rest b _ s3 h3) (fun k r => (k, r)))
      (fun a r => (a, r)))
    (fun n r => (⟨n.toInt, r.1, r.2.1, r.2.2.1, r.2.2.2⟩ : Msg))
theorem sim_many {α : Type} (f g : Rst → α × Rst) (hf : ∀ s, s.bad = true → (f s).2.bad = true) (hg : ∀ s, s.bad = true → (g s).2.bad = true) (hs : ∀ s, s.bad = false → Sim (f s) (g s)) (s : Rst) (h : s.bad = false) : ∀ n, Sim (rdMany f n s) (rdMany g n s)
  | 0 => ⟨rfl, fun _ => rfl⟩
  | n + 1 => (sim_many f g hf hg hs s h n).bind (fun _ => f) (fun _ => g) (fun _ => hf) (fun _ => hg) (fun _ => hs) (fun l a => l ++ [a])
theorem sim_node (b : List (BitVec 8)) : Sim (rdNode b) (fNode b) := by
  unfold rdNode fNode
  by_cases hl : byAt b 0 = 1#8
  · rw [if_pos hl, if_pos hl]
    exact (sim_many (rdEnt b) (fEnt b) (rdEnt_stays b) (fEnt_stays b) (sim_ent b) ⟨8, false⟩ rfl (byAt b 1).toNat).bind (fun _ => rdMany (rdMsg b) (byAt b 2).toNat) (fun _ => rdMany (fMsg b) (byAt b 2).toNat)
      (fun _ s h => many_bad _ (rdMsg_stays b) s h _) (fun _ s h => many_bad _ (fMsg_stays b) s h _) (fun _ s h => sim_many _ _ (rdMsg_stays b) (fMsg_stays b) (sim_msg b) s h _) (fun es ms => (⟨true, es, [], [], ms⟩ : Nd))
  · rw [if_neg hl, if_neg hl]
    exact (sim_many (rdKid b) (fKid b) (rdKid_stays b) (fKid_stays b) (sim_kid b) ⟨8, false⟩ rfl (byAt b 1).toNat).bind
      (fun _ s1 => (((rdMany (rdKey b) ((byAt b 1).toNat - 1) s1).1, (rdMany (rdMsg b) (byAt b 2).toNat (rdMany (rdKey b) ((byAt b 1).toNat - 1) s1).2).1), (rdMany (rdMsg b) (byAt b 2).toNat (rdMany (rdKey b) ((byAt b 1).toNat - 1) s1).2).2))
      (fun _ s1 => (((rdMany (fKey b) ((byAt b 1).toNat - 1) s1).1, (rdMany (fMsg b) (byAt b 2).toNat (rdMany (fKey b) ((byAt b 1).toNat - 1) s1).2).1), (rdMany (fMsg b) (byAt b 2).toNat (rdMany (fKey b) ((byAt b 1).toNat - 1) s1).2).2))
      (fun _ s h => many_bad _ (rdMsg_stays b) _ (many_bad _ (rdKey_stays b) s h _) _) (fun _ s h => many_bad _ (fMsg_stays b) _ (many_bad _ (fKey_stays b) s h _) _)
      (fun _ s h => (sim_many (rdKey b) (fKey b) (rdKey_stays b) (fKey_stays b) (sim_key b) s h _).bind (fun _ => rdMany (rdMsg b) (byAt b 2).toNat) (fun _ => rdMany (fMsg b) (byAt b 2).toNat)
        (fun _ s h => many_bad _ (rdMsg_stays b) s h _) (fun _ s h => many_bad _ (fMsg_stays b) s h _) (fun _ s h => sim_many _ _ (rdMsg_stays b) (fMsg_stays b) (sim_msg b) s h _) (fun ps ms => (ps, ms)))
      (fun ks r => (⟨false, [], ks, r.1, r.2⟩ : Nd))
theorem zero_nofit : nodeFits Nd.zero = false := by unfold nodeFits nodeOk innerOk fanOkBy Nd.zero; simp
theorem decode_ref (b : List (BitVec 8)) : (if (encode (fRead b)).2 = 0 ∧ (encode (fRead b)).1 = b then (fRead b, 0) else (Nd.zero, 4)) = (if (rdNode b).2.bad = false ∧ (encode (rdNode b).1).2 = 0 ∧ (encode (rdNode b).1).1 = b then ((rdNode b).1, (0 : Int)) else (Nd.zero, 4)) := by
  obtain ⟨h1, h2⟩ := sim_node b
  cases hb : (rdNode b).2.bad with
  | true =>
    have e : fRead b = Nd.zero := by unfold fRead; rw [← h1, if_pos hb]
    have e2 : (encode Nd.zero).2 = 4 := by unfold encode; rw [zero_nofit]; rfl
    rw [e, if_neg (fun k => by rw [e2] at k; exact absurd k.1 (by decide)), if_neg (fun k => by cases k.1)]
  | false =>
    have e : fRead b = (rdNode b).1 := by unfold fRead; rw [← h1, hb, if_neg (by simp), ← h2 hb]
    rw [e]
    by_cases c : (encode (rdNode b).1).2 = 0 ∧ (encode (rdNode b).1).1 = b
    · rw [if_pos c, if_pos ⟨rfl, c⟩]
    · rw [if_neg c, if_neg (fun k => c k.2)]
theorem zero_sm : Nd.zero.Sm := ⟨Nat.zero_le _, Nat.zero_le _, Nat.zero_le _, Nat.zero_le _⟩
theorem fRead_sm (b : List (BitVec 8)) : (fRead b).Sm := by
  obtain ⟨h1, h2⟩ := sim_node b
  unfold fRead
  split
  · exact zero_sm
  · rename_i h
    rw [← h2 (by rw [h1]; simpa using h)]
    exact rdNode_sm b
/-! ### sums -/
theorem leBytes_leNum : ∀ (l : List (BitVec 8)), l.length ≤ 8 → leBytes (leNum l) l.length = l
  | [], _ => rfl
  | b :: l, h => by
    rw [List.length_cons, leBytes]
    have e1 : (leNum (b :: l)).setWidth 8 = b := by
      apply BitVec.eq_of_getLsbD_eq
      intro i hi
      rw [BitVec.getLsbD_setWidth, leNum_bit _ _ _ (by omega), if_pos hi]
      simp [hi]
    have e2 : leBytes (leNum (b :: l) >>> 8) l.length = leBytes (leNum l) l.length := by
      have hlen : l.length ≤ 7 := by rw [List.length_cons] at h; omega
      apply List.ext_getElem?
      intro j
      by_cases hj : j < l.length
      · rw [leBytes_get _ _ _ hj, leBytes_get _ _ _ hj]
        congr 1
        apply BitVec.eq_of_getLsbD_eq
        intro i hi
        rw [BitVec.getLsbD_setWidth, BitVec.getLsbD_setWidth, BitVec.getLsbD_ushiftRight, BitVec.getLsbD_ushiftRight, BitVec.getLsbD_ushiftRight, leNum_bit _ _ _ (by omega), if_neg (by omega)]
        rw [show 8 + (8 * j + i) - 8 = 8 * j + i by omega]
      · rw [List.getElem?_eq_none (by rw [leBytes_length]; omega), List.getElem?_eq_none (by rw [leBytes_length]; omega)]
    rw [e1, e2, leBytes_leNum l (by rw [List.length_cons] at h; omega)]
theorem leNum_four (x : BitVec 32) : leNum (leBytes (x.setWidth 64) 4) = x.setWidth 64 := by
  apply BitVec.eq_of_getLsbD_eq
  intro i hi
  rw [leNum_leBytes _ _ _ hi, BitVec.getLsbD_setWidth]
  by_cases c : i < 32
  · simp [show i < 8 * 4 by omega]
  · rw [BitVec.getLsbD_of_ge x i (by omega)]; simp
theorem sum_iff {b : List (BitVec 8)} (h : b.length = 256) (x : List (BitVec 8)) : numAt b 4 4 = (sumL x).setWidth 64 ↔ sum4 x = sumIn b := by
  have hl : (sumIn b).length = 4 := by unfold sumIn; rw [List.length_drop, List.length_take]; omega
  have e : numAt b 4 4 = leNum (sumIn b) := by
    rw [numAt_yes (by omega)]
    congr 1
    exact (seg_cut b 4 4).symm
  rw [e]
  unfold sum4
  constructor
  · intro k
    rw [← k, ← hl]
    exact leBytes_leNum _ (by omega)
  · intro k
    rw [← k, leNum_four]
theorem bare_sets {b : List (BitVec 8)} (h : b.length = 256) : (((b.set 4 0#8).set 5 0#8).set 6 0#8).set 7 0#8 = bareB b := by
  have s0 := put4_set b 4 (List.replicate 4 0#8) 0 (by simp) (by simp; omega)
  have s1 := put4_set b 4 (List.replicate 4 0#8) 1 (by simp) (by simp; omega)
  have s2 := put4_set b 4 (List.replicate 4 0#8) 2 (by simp) (by simp; omega)
  have s3 := put4_set b 4 (List.replicate 4 0#8) 3 (by simp) (by simp; omega)
  rw [List.take_zero, put4_nil] at s0
  unfold bareB
  have e : (List.replicate 4 0#8).take (3 + 1) = List.replicate 4 0#8 := rfl
  rw [e] at s3
  rw [s3, s2, s1, s0]
  rfl
attribute [local irreducible] OpOK AWops AW CondB Go2 AFn thenA inBlockA noGotoA orderOk wantedA
set_option maxRecDepth 100000 in
set_option maxHeartbeats 16000000 in
theorem a_refdecode (b : List (BitVec 8)) (hb : b.length ≤ 1000000) : AFn Try.prog 15 [bytesA b] (.tup [(decode b).1.av, intA (decode b).2]) := by
  by_cases h256 : b.length = 256
  · have h256' : (b.length : Int) = 256 := by omega
    have eb : (bareB b).length = 256 := by unfold bareB; rw [put4_len _ _ _ (by simp; omega)]; exact h256
    have el : (bareB b).length = b.length := by omega
    have c1 := c_refsum ((((b.set 4 0#8).set 5 0#8).set 6 0#8).set 7 0#8)
    rw [show ((((b.set 4 0#8).set 5 0#8).set 6 0#8).set 7 0#8).length = b.length by simp] at c1
    have c2 := a_refnum b 4 4 (by omega) (by omega) (by omega) (by omega)
    rw [decide_eq_true (by omega)] at c2
    have hbs := bare_sets h256
    have hsi := sum_iff h256 (bareB b)
    by_cases hs : sum4 (bareB b) = sumIn b
    · have hd0 : decode b = if (encode (fRead b)).2 = 0 ∧ (encode (fRead b)).1 = b then (fRead b, 0) else (Nd.zero, 4) := by
        unfold decode; rw [if_pos h256, if_pos hs, decode_ref b]
      rw [hd0]
      clear hd0
      have heq : D64 (numAt b 4 4) = D64 ((sumL (bareB b)).setWidth 64) := by rw [hsi.2 hs]
      have hne : ¬ D64 (numAt b 4 4) ≠ D64 ((sumL (bareB b)).setWidth 64) := fun k => k heq
      have c3 := a_fread b h256
      have c4 := a_refencode (fRead b) (fRead_sm b)
      generalize encode (fRead b) = EN at *
      obtain ⟨enb, ene⟩ := EN
      generalize fRead b = N at *
      obtain ⟨leaf, es, ks, ps, ms⟩ := N
      dsimp only at c4 ⊢
      by_cases he : ene = 0
      · by_cases hq : enb = b
        · rw [if_pos ⟨he, hq⟩]
          have hq' : decide (enb = b) = true := decide_eq_true hq
          have hq'' : (!decide (enb = b)) = false := by rw [hq']; rfl
          refine AFn_intro Try.func15 rfl Try.ntmps15 rfl (by simp) [_, _] rfl fun E hE => ?_; have hnt : (!true) = false := rfl; have hnf : (!false) = true := rfl
          have d1 := ccall Try.func37 (c1) (by decide +kernel) (by decide +kernel)
          have d2 := acall Try.func36 (c2) (by decide +kernel) (by decide +kernel)
          have d3 := acall Try.func38 (c3) (by decide +kernel) (by decide +kernel)
          have d4 := acall Try.func20 (c4) (by decide +kernel) (by decide +kernel)
          refine wX ?_
          (apply WvN [14]; (focus (exact o_rcall [(1000, 14)] d1 rfl rfl rfl rfl rfl (by repeat (first | exact .nil | refine .cons (.inl ⟨rfl, rfl⟩) ?_ | refine .cons (.inr ⟨rfl, fun _ => Wk.tok⟩) ?_)) (by repeat' (first | exact True.intro | rfl | apply And.intro)) (by repeat' (first | exact True.intro | rfl | apply And.intro)) rfl rfl)); (focus (exact rfl)); (focus (first | exact want_n | exact want_g rfl (by with_reducible rfl))))
          rw [hbs]
          refine wX ?_
          exact fin ⟨res_varl rfl rfl rfl (fun _ => by (repeat (first | exact wkl0 | refine wkd rfl ?_ | refine wkt ?_ | refine wkn ?_))), res_of rfl rfl rfl, trivial⟩
        · rw [if_neg (fun h => hq h.2)]
          have hq' : decide (enb = b) = false := decide_eq_false hq
          have hq'' : (!decide (enb = b)) = true := by rw [hq']; rfl
          refine AFn_intro Try.func15 rfl Try.ntmps15 rfl (by simp) [_, _] rfl fun E hE => ?_; have hnt : (!true) = false := rfl; have hnf : (!false) = true := rfl
          have d1 := ccall Try.func37 (c1) (by decide +kernel) (by decide +kernel)
          have d2 := acall Try.func36 (c2) (by decide +kernel) (by decide +kernel)
          have d3 := acall Try.func38 (c3) (by decide +kernel) (by decide +kernel)
          have d4 := acall Try.func20 (c4) (by decide +kernel) (by decide +kernel)
          refine wX ?_
          (apply WvN [14]; (focus (exact o_rcall [(1000, 14)] d1 rfl rfl rfl rfl rfl (by repeat (first | exact .nil | refine .cons (.inl ⟨rfl, rfl⟩) ?_ | refine .cons (.inr ⟨rfl, fun _ => Wk.tok⟩) ?_)) (by repeat' (first | exact True.intro | rfl | apply And.intro)) (by repeat' (first | exact True.intro | rfl | apply And.intro)) rfl rfl)); (focus (exact rfl)); (focus (first | exact want_n | exact want_g rfl (by with_reducible rfl))))
          rw [hbs]
          refine wX ?_
          exact fin ⟨res_varl rfl rfl rfl (fun _ => by (repeat (first | exact wkl0 | refine wkd rfl ?_ | refine wkt ?_ | refine wkn ?_))), res_of rfl rfl rfl, trivial⟩
      · rw [if_neg (fun h => he h.1)]
        refine AFn_intro Try.func15 rfl Try.ntmps15 rfl (by simp) [_, _] rfl fun E hE => ?_; have hnt : (!true) = false := rfl; have hnf : (!false) = true := rfl
        have d1 := ccall Try.func37 (c1) (by decide +kernel) (by decide +kernel)
        have d2 := acall Try.func36 (c2) (by decide +kernel) (by decide +kernel)
        have d3 := acall Try.func38 (c3) (by decide +kernel) (by decide +kernel)
        have d4 := acall Try.func20 (c4) (by decide +kernel) (by decide +kernel)
        refine wX ?_
        (apply WvN [14]; (focus (exact o_rcall [(1000, 14)] d1 rfl rfl rfl rfl rfl (by repeat (first | exact .nil | refine .cons (.inl ⟨rfl, rfl⟩) ?_ | refine .cons (.inr ⟨rfl, fun _ => Wk.tok⟩) ?_)) (by repeat' (first | exact True.intro | rfl | apply And.intro)) (by repeat' (first | exact True.intro | rfl | apply And.intro)) rfl rfl)); (focus (exact rfl)); (focus (first | exact want_n | exact want_g rfl (by with_reducible rfl))))
        rw [hbs]
        refine wX ?_
        exact fin ⟨res_varl rfl rfl rfl (fun _ => by (repeat (first | exact wkl0 | refine wkd rfl ?_ | refine wkt ?_ | refine wkn ?_))), res_of rfl rfl rfl, trivial⟩
    · have hd0 : decode b = (Nd.zero, 5) := by unfold decode; rw [if_pos h256, if_neg hs]
      rw [hd0]
      have hne : D64 (numAt b 4 4) ≠ D64 ((sumL (bareB b)).setWidth 64) := fun k => hs (hsi.1 (D64_inj.1 k))
      refine AFn_intro Try.func15 rfl Try.ntmps15 rfl (by simp) [_, _] rfl fun E hE => ?_; have hnt : (!true) = false := rfl; have hnf : (!false) = true := rfl
      have d1 := ccall Try.func37 (c1) (by decide +kernel) (by decide +kernel)
      have d2 := acall Try.func36 (c2) (by decide +kernel) (by decide +kernel)
      refine wX ?_
      (apply WvN [14]; (focus (exact o_rcall [(1000, 14)] d1 rfl rfl rfl rfl rfl (by repeat (first | exact .nil | refine .cons (.inl ⟨rfl, rfl⟩) ?_ | refine .cons (.inr ⟨rfl, fun _ => Wk.tok⟩) ?_)) (by repeat' (first | exact True.intro | rfl | apply And.intro)) (by repeat' (first | exact True.intro | rfl | apply And.intro)) rfl rfl)); (focus (exact rfl)); (focus (first | exact want_n | exact want_g rfl (by with_reducible rfl))))
      rw [hbs]
      refine wX ?_
      exact fin ⟨res_varl rfl rfl rfl (fun _ => by (repeat (first | exact wkl0 | refine wkd rfl ?_ | refine wkt ?_ | refine wkn ?_))), res_of rfl rfl rfl, trivial⟩
  · have h256' : ¬ (b.length : Int) = 256 := by omega
    have e1 : decode b = (Nd.zero, 4) := by unfold decode; rw [if_neg h256]
    rw [e1]
    refine AFn_intro Try.func15 rfl Try.ntmps15 rfl (by simp) [_, _] rfl fun E hE => ?_; have hnt : (!true) = false := rfl; have hnf : (!false) = true := rfl
    refine wX ?_
    exact fin ⟨res_varl rfl rfl rfl (fun _ => by (repeat (first | exact wkl0 | refine wkd rfl ?_ | refine wkt ?_ | refine wkn ?_))), res_of rfl rfl rfl, trivial⟩
end Go.Proofs.Ytcmdhpinelnclaa

namespace Go.Proofs.Ytcmdhpinelnclaa
open Go Go.RowKit
set_option linter.unusedVariables false
set_option linter.unusedSimpArgs false
set_option maxRecDepth 100000

/-- l stands at i -/
def At (b : List (BitVec 8)) (i : Nat) (l : List (BitVec 8)) : Prop := ∃ post, b.drop i = l ++ post
theorem At.left {b : List (BitVec 8)} {i : Nat} {l m : List (BitVec 8)} (h : At b i (l ++ m)) : At b i l := by
  obtain ⟨p, h⟩ := h
  exact ⟨m ++ p, by rw [h, List.append_assoc]⟩
theorem At.right {b : List (BitVec 8)} {i : Nat} {l m : List (BitVec 8)} (h : At b i (l ++ m)) : At b (i + l.length) m := by
  obtain ⟨p, h⟩ := h
  exact ⟨p, by rw [← List.drop_drop, h, List.append_assoc, List.drop_left]⟩
theorem At.le {b : List (BitVec 8)} {i : Nat} {l : List (BitVec 8)} (h : At b i l) (h0 : 0 < l.length) : i + l.length ≤ b.length := by
  obtain ⟨p, h⟩ := h
  have := congrArg List.length h
  rw [List.length_drop, List.length_append] at this
  omega
theorem At.seg {b : List (BitVec 8)} {i : Nat} {l : List (BitVec 8)} (h : At b i l) : seg b i l.length = l := by
  obtain ⟨p, h⟩ := h
  unfold Proofs.Ytcmdhpinelnclaa.seg
  rw [h, List.take_left]
theorem At.one {b : List (BitVec 8)} {i : Nat} {x : BitVec 8} (h : At b i [x]) : b.getD i 0#8 = x := by
  obtain ⟨p, h⟩ := h
  have : (b.drop i)[0]? = some x := by rw [h]; rfl
  rw [List.getElem?_drop, Nat.add_zero] at this
  rw [List.getD_eq_getElem?_getD, this]; rfl
theorem ofInt8 {n : Nat} (h : n < 256) : (BitVec.ofInt 8 (n : Nat)).toNat = n := by
  rw [BitVec.toNat_ofInt]; omega
theorem at_num {b : List (BitVec 8)} {i : Nat} {l : List (BitVec 8)} (h : At b i l) (h0 : 0 < l.length) : numAt b i l.length = leNum l ∧ stN b ⟨i, false⟩ l.length = ⟨i + l.length, false⟩ := by
  have hl := h.le h0
  refine ⟨by rw [numAt_yes hl, h.seg], ?_⟩
  unfold stN
  dsimp only
  rw [decide_eq_true hl]; rfl
theorem at_take {b : List (BitVec 8)} {i m : Nat} {s : List (BitVec 8)} (h : At b i (tx s)) (hm : s.length ≤ m) (h8 : m ≤ 255) : takeS b ⟨i, false⟩ m = s ∧ stT b ⟨i, false⟩ m = ⟨i + (tx s).length, false⟩ := by
  have h1 : At b i [BitVec.ofInt 8 (s.length : Nat)] := At.left h
  have h2 : At b (i + 1) s := At.right h
  have hc : cnt b i = s.length := by unfold cnt; rw [h1.one, ofInt8 (by omega)]
  have hle := h.le (by rw [tx_len]; omega)
  rw [tx_len] at hle
  unfold takeS stT takeOk
  dsimp only
  rw [hc, decide_eq_true hm, decide_eq_true (by omega)]
  exact ⟨h2.seg, by rw [tx_len, Nat.add_assoc]; rfl⟩
theorem mkKey_ky {k : Key} (h : k.ok = true) : mkKey (kyS k) = k := by
  obtain ⟨h1, h2, h3⟩ := (Key.ok_iff k).1 h
  have hl := (kyS_len ⟨h1, h2⟩).1
  unfold mkKey
  have e : padded 8 (kyS k) = k.b := padded_cut k.b _ h3
  rw [e, hl]
  obtain ⟨n, v⟩ := k
  dsimp only at h1 ⊢
  congr 1 <;> omega
theorem mkVl_vl {k : Vl} (h : k.ok = true) : mkVl (vlS k) = k := by
  obtain ⟨h1, h2, h3⟩ := (Vl.ok_iff k).1 h
  have hl := (vlS_len ⟨h1, h2⟩).1
  unfold mkVl
  have e : padded 16 (vlS k) = k.b := padded_cut k.b _ h3
  rw [e, hl]
  obtain ⟨n, v⟩ := k
  dsimp only at h1 ⊢
  congr 1 <;> omega
theorem at_key {b : List (BitVec 8)} {i : Nat} {k : Key} (hk : k.ok = true) (h : At b i (tx (kyS k))) : rdKey b ⟨i, false⟩ = (k, ⟨i + (tx (kyS k)).length, false⟩) := by
  obtain ⟨h1, h2⟩ := at_take (m := 8) h (kyS_len (KyR.of hk)).2 (by omega)
  unfold rdKey
  rw [h1, h2, mkKey_ky hk]
theorem at_vl {b : List (BitVec 8)} {i : Nat} {k : Vl} (hk : k.ok = true) (h : At b i (tx (vlS k))) : rdVl b ⟨i, false⟩ = (k, ⟨i + (tx (vlS k)).length, false⟩) := by
  obtain ⟨h1, h2⟩ := at_take (m := 16) h (vlS_len (VlR.of hk)).2 (by omega)
  unfold rdVl
  rw [h1, h2, mkVl_vl hk]
theorem at_ent {b : List (BitVec 8)} {i : Nat} {e : Ent} (he : e.key.ok = true ∧ e.val.ok = true) (h : At b i (entB e)) : rdEnt b ⟨i, false⟩ = (e, ⟨i + (entB e).length, false⟩) := by
  have h1 := at_key he.1 (At.left h)
  have h2 := at_vl he.2 (At.right h)
  unfold rdEnt
  rw [h1]
  dsimp only
  rw [h2]
  unfold entB
  rw [List.length_append, Nat.add_assoc]
theorem at_kid {b : List (BitVec 8)} {i : Nat} {k : Int} (hk : 1 ≤ k ∧ k < 256) (h : At b i (kidB k)) : rdKid b ⟨i, false⟩ = (k, ⟨i + (kidB k).length, false⟩) := by
  have hl := kidB_len k
  obtain ⟨h1, h2⟩ := at_num h (by omega)
  rw [hl] at h1 h2
  unfold rdKid
  dsimp only
  rw [h1, h2, hl]
  have e : leNum (kidB k) = BitVec.ofInt 64 k := by
    have := leNum_four (BitVec.ofInt 32 k)
    have e2 : (BitVec.ofInt 32 k).setWidth 64 = BitVec.ofInt 64 k := by
      apply BitVec.eq_of_toNat_eq
      rw [BitVec.toNat_setWidth, BitVec.toNat_ofInt, BitVec.toNat_ofInt]
      omega
    rw [e2] at this
    exact this
  rw [e]
  have e3 : (BitVec.ofInt 64 k).toInt = k := by
    rw [BitVec.toInt_ofInt]
    rw [Int.bmod_def]
    split <;> omega
  rw [e3]
theorem at_piv {b : List (BitVec 8)} {i : Nat} {k : Key} (hk : k.ok = true) (h : At b i (pivB k)) : rdKey b ⟨i, false⟩ = (k, ⟨i + (pivB k).length, false⟩) := at_key hk h
theorem at_msg {b : List (BitVec 8)} {i : Nat} {m : Msg} (hm : m.ok = true) (h : At b i (msgB m)) : rdMsg b ⟨i, false⟩ = (m, ⟨i + (msgB m).length, false⟩) := by
  obtain ⟨a1, a2, a3, a4, a5, a6⟩ := Msg.spec hm
  unfold msgB at h
  have h1 : At b i [BitVec.ofInt 8 m.kind] := h.left.left.left
  have h2 : At b (i + 1) (leBytes m.seq 8) := h.left.left.right
  have h3 : At b (i + 9) (tx (kyS m.key)) := by
    have := h.left.right
    rw [List.length_append, leBytes_length] at this
    exact this
  have h4 : At b (i + 9 + (tx (kyS m.key)).length) (restB m) := by
    have := h.right
    rw [List.length_append, List.length_append, leBytes_length, ← Nat.add_assoc] at this
    exact this
  obtain ⟨n1, s1⟩ := at_num h1 (by simp)
  obtain ⟨n2, s2⟩ := at_num h2 (by rw [leBytes_length]; omega)
  rw [leBytes_length, leNum_bytes] at n2
  rw [leBytes_length] at s2
  have hk := at_key a3 h3
  have ek : msK b ⟨i, false⟩ = m.kind := by
    unfold msK
    dsimp only
    rw [numAt_one]
    unfold cnt
    rw [h1.one, BitVec.toNat_ofInt]
    omega
  have e1 : msS1 b ⟨i, false⟩ = ⟨i + 1, false⟩ := s1
  have e2 : msS2 b ⟨i, false⟩ = ⟨i + 9, false⟩ := by unfold msS2; rw [e1]; exact s2
  have e3 : msS3 b ⟨i, false⟩ = ⟨i + 9 + (tx (kyS m.key)).length, false⟩ := by unfold msS3; rw [e2, hk]
  unfold rdMsg
  rw [ek, e1, e2, e3, hk]
  dsimp only
  rw [n2]
  have hlen : (msgB m).length = 9 + (tx (kyS m.key)).length + (restB m).length := by unfold msgB; simp only [List.length_append, List.length_singleton, leBytes_length]
  rw [hlen]
  obtain ⟨kind, seq, key, val, add⟩ := m
  dsimp only at a1 a2 a3 a4 a5 a6 h4 ⊢
  unfold rdRest
  unfold restB at h4 ⊢
  dsimp only at h4 ⊢
  by_cases k1 : kind = 1
  · rw [if_pos k1] at h4 ⊢
    rw [if_pos k1]
    have hv := at_vl a4 h4
    rw [hv, a6 (by omega)]
    dsimp only
    simp only [Nat.add_assoc]
  · rw [if_neg k1] at h4 ⊢
    rw [if_neg k1]
    by_cases k3 : kind = 3
    · rw [if_pos k3] at h4 ⊢
      rw [if_pos k3]
      obtain ⟨n4, s4⟩ := at_num h4 (by rw [leBytes_length]; omega)
      rw [leBytes_length, leNum_bytes] at n4
      rw [leBytes_length] at s4
      rw [n4, s4, a5 k1, leBytes_length]
      simp only [Nat.add_assoc]
    · rw [if_neg k3]
      rw [if_neg k3, a5 k1, a6 k3]
      simp only [List.length_nil, Nat.add_zero, Nat.add_assoc]
/-- many, one behind the other -/
theorem at_many {α : Type} (f : Rst → α × Rst) (enc : α → List (BitVec 8)) {b : List (BitVec 8)} {i : Nat} (l : List α) (hf : ∀ a ∈ l, ∀ i, At b i (enc a) → f ⟨i, false⟩ = (a, ⟨i + (enc a).length, false⟩)) (h : At b i (l.flatMap enc)) :
    ∀ j, j ≤ l.length → rdMany f j ⟨i, false⟩ = (l.take j, ⟨i + ((l.take j).flatMap enc).length, false⟩)
  | 0, _ => by simp [rdMany]
  | j + 1, hj => by
    have ih := at_many f enc l hf h j (by omega)
    have hlt : j < l.length := hj
    have e : l.flatMap enc = (l.take j).flatMap enc ++ (enc l[j] ++ (l.drop (j + 1)).flatMap enc) := by
      rw [← List.flatMap_cons, ← List.flatMap_append, ← List.drop_eq_getElem_cons hlt, List.take_append_drop]
    rw [e] at h
    have h1 := At.left (At.right h)
    have h2 := hf l[j] (List.getElem_mem hlt) _ h1
    show ((rdMany f j ⟨i, false⟩).1 ++ [(f (rdMany f j ⟨i, false⟩).2).1], (f (rdMany f j ⟨i, false⟩).2).2) = _
    rw [ih]
    dsimp only
    rw [h2, ← List.take_append_getElem hlt, List.flatMap_append]
    simp [Nat.add_assoc]
theorem at_all {α : Type} (f : Rst → α × Rst) (enc : α → List (BitVec 8)) {b : List (BitVec 8)} {i : Nat} (l : List α) (hf : ∀ a ∈ l, ∀ i, At b i (enc a) → f ⟨i, false⟩ = (a, ⟨i + (enc a).length, false⟩)) (h : At b i (l.flatMap enc)) :
    rdMany f l.length ⟨i, false⟩ = (l, ⟨i + (l.flatMap enc).length, false⟩) := by
  have := at_many f enc l hf h l.length (Nat.le_refl _)
  rwa [List.take_length] at this
/-! ### a block -/
theorem put4_lo {α : Type} (xs : List α) (off : Nat) (ys : List α) (h : off ≤ xs.length) {i : Nat} (hi : i < off) : (put4 xs off ys)[i]? = xs[i]? := by
  unfold put4
  rw [List.getElem?_append_left (by rw [List.length_take]; omega), List.getElem?_take, if_pos hi]
theorem put4_hi {α : Type} (xs : List α) (off : Nat) (ys : List α) (h : off ≤ xs.length) {i : Nat} (hi : off + ys.length ≤ i) : (put4 xs off ys)[i]? = xs[i]? := by
  unfold put4
  have e : (xs.take off).length = off := by rw [List.length_take]; omega
  rw [List.getElem?_append_right (by omega), e, List.getElem?_append_right (by omega), List.getElem?_drop]
  congr 1 <;> omega
theorem put4_in {α : Type} (xs : List α) (off : Nat) (ys : List α) (h : off ≤ xs.length) {i : Nat} (hi : off ≤ i) (hj : i < off + ys.length) : (put4 xs off ys)[i]? = ys[i - off]? := by
  unfold put4
  have e : (xs.take off).length = off := by rw [List.length_take]; omega
  rw [List.getElem?_append_right (by omega), e, List.getElem?_append_left (by omega)]
theorem put4_put4 {α : Type} (xs : List α) (off : Nat) (ys zs : List α) (hl : ys.length = zs.length) (h : off + ys.length ≤ xs.length) : put4 (put4 xs off ys) off zs = put4 xs off zs := by
  have hp := put4_len xs off ys h
  apply List.ext_getElem?
  intro i
  by_cases h1 : i < off
  · rw [put4_lo _ _ _ (by omega) h1, put4_lo _ _ _ (by omega) h1, put4_lo _ _ _ (by omega) h1]
  · by_cases h2 : i < off + ys.length
    · rw [put4_in _ _ _ (by omega) (by omega) (by omega), put4_in _ _ _ (by omega) (by omega) (by omega)]
    · rw [put4_hi _ _ _ (by omega) (by omega), put4_hi _ _ _ (by omega) (by omega), put4_hi _ _ _ (by omega) (by omega)]
theorem sumIn_put {b s : List (BitVec 8)} (hb : b.length = 256) (hs : s.length = 4) : sumIn (put4 b 4 s) = s := by
  unfold sumIn put4
  have e : (b.take 4).length = 4 := by rw [List.length_take]; omega
  apply List.ext_getElem?
  intro i
  rw [List.getElem?_drop, List.getElem?_take]
  by_cases h : i < 4
  · rw [if_pos (by omega), List.getElem?_append_right (by omega), e, List.getElem?_append_left (by omega)]
    congr 1 <;> omega
  · rw [if_neg (by omega), List.getElem?_eq_none (by omega)]
theorem raw_bare {n : Nd} (h : nodeFits n = true) : bareB (encB n) = rawB n := by
  have hl := rawB_len h
  unfold bareB encB
  rw [put4_put4 _ _ _ _ (by rw [sum4_len]; rfl) (by rw [sum4_len]; omega)]
  unfold rawB put4
  have e : (headB n).length = 4 := rfl
  simp only [List.append_assoc]
  rw [List.take_left' e]
  congr 1
theorem enc_sum {n : Nd} (h : nodeFits n = true) : sum4 (bareB (encB n)) = sumIn (encB n) := by
  rw [raw_bare h]
  exact (sumIn_put (rawB_len h) (sum4_len _)).symm
theorem enc_body {n : Nd} (h : nodeFits n = true) : At (encB n) 8 (bodyB n) := by
  refine ⟨List.replicate (248 - (bodyB n).length) 0#8, ?_⟩
  have hl := rawB_len h
  have e : (encB n).drop 8 = (rawB n).drop 8 := by
    apply List.ext_getElem?
    intro i
    rw [List.getElem?_drop, List.getElem?_drop]
    exact put4_hi _ _ _ (by omega) (by rw [sum4_len]; omega)
  rw [e]
  unfold rawB
  have e2 : (headB n ++ List.replicate 4 0#8).length = 8 := by simp [headB_len]
  rw [List.append_assoc (headB n ++ List.replicate 4 0#8)]
  exact List.drop_left' e2
theorem enc_head {n : Nd} (h : nodeFits n = true) {i : Nat} (hi : i < 4) : byAt (encB n) i = (headB n).getD i 0#8 := by
  have hl := rawB_len h
  unfold byAt
  rw [List.getD_eq_getElem?_getD, List.getD_eq_getElem?_getD]
  congr 1
  unfold encB
  rw [put4_lo _ _ _ (by omega) hi]
  unfold rawB
  rw [List.append_assoc, List.append_assoc, List.getElem?_append_left (by rw [headB_len]; exact hi)]
theorem rd_enc {n : Nd} (h : nodeFits n = true) : (rdNode (encB n)).1 = n ∧ (rdNode (encB n)).2.bad = false := by
  have hb := enc_body h
  have hr := fits_ndr h
  have h0 : byAt (encB n) 0 = if n.leaf = true then 1#8 else 2#8 := enc_head h (by omega)
  have h1 : byAt (encB n) 1 = BitVec.ofInt 8 (manyB n : Nat) := enc_head h (by omega)
  have h2 : byAt (encB n) 2 = BitVec.ofInt 8 (n.ms.length : Nat) := enc_head h (by omega)
  unfold rdNode
  rcases fits_is h with f | f
  · have hle := len_sum n.es f.ok
    have := f.sum
    rw [h0, f.leaf, if_pos rfl, if_pos rfl]
    have e1 : (byAt (encB n) 1).toNat = n.es.length := by rw [h1, ofInt8 (by unfold manyB; rw [f.leaf, if_pos rfl]; omega)]; unfold manyB; rw [f.leaf, if_pos rfl]
    have e2 : (byAt (encB n) 2).toNat = 0 := by rw [h2, f.ms]; rfl
    rw [e1, e2]
    have hb' : At (encB n) 8 (n.es.flatMap entB) := by
      unfold bodyB at hb
      rw [f.ks, f.ps, f.ms] at hb
      simpa using hb
    have q := at_all (rdEnt (encB n)) entB n.es (fun e he i hi => at_ent (f.ok e he) hi) hb'
    rw [q]
    obtain ⟨leaf, es, ks, ps, ms⟩ := n
    obtain rfl : leaf = true := f.leaf
    obtain rfl : ks = [] := f.ks
    obtain rfl : ps = [] := f.ps
    obtain rfl : ms = [] := f.ms
    exact ⟨rfl, rfl⟩
  · have hle := len_sumM n.ms f.ms
    have := f.sum
    have k4 := f.k4
    have kp := f.kp
    have hlf := f.leaf
    rw [h0, hlf, if_neg (by simp)]
    have e1 : (byAt (encB n) 1).toNat = n.ks.length := by rw [h1, ofInt8 (by unfold manyB; rw [hlf, if_neg (by simp)]; omega)]; unfold manyB; rw [hlf, if_neg (by simp)]
    have e2 : (byAt (encB n) 2).toNat = n.ms.length := by rw [h2, ofInt8 (by omega)]
    rw [e1, e2, show n.ks.length - 1 = n.ps.length by omega]
    have hb' : At (encB n) 8 (n.ks.flatMap kidB ++ n.ps.flatMap pivB ++ n.ms.flatMap msgB) := by
      unfold bodyB at hb
      rw [f.es] at hb
      simpa using hb
    have q1 := at_all (rdKid (encB n)) kidB n.ks (fun k hk i hi => at_kid (f.ks k hk) hi) (At.left (At.left hb'))
    have q2 := at_all (rdKey (encB n)) pivB n.ps (fun k hk i hi => at_piv (f.ps k hk) hi) (At.right (At.left hb'))
    have h3 := At.right hb'
    rw [List.length_append, ← Nat.add_assoc] at h3
    have q3 := at_all (rdMsg (encB n)) msgB n.ms (fun m hm i hi => at_msg (f.ms m hm) hi) h3
    rw [q1]
    dsimp only
    rw [q2]
    dsimp only
    rw [q3]
    obtain ⟨leaf, es, ks, ps, ms⟩ := n
    obtain rfl : leaf = false := f.leaf
    obtain rfl : es = [] := f.es
    exact ⟨rfl, rfl⟩
/-- what is put is read again -/
theorem decode_enc {n : Nd} (h : nodeFits n = true) : decode (encB n) = (n, 0) := by
  obtain ⟨h1, h2⟩ := rd_enc h
  have he : encode n = (encB n, 0) := by unfold encode; rw [if_pos h]
  unfold decode
  rw [if_pos (encB_len h), if_pos (enc_sum h), h1, he, if_pos ⟨h2, rfl, rfl⟩]
theorem enc_inj {n m : Nd} (hn : nodeFits n = true) (hm : nodeFits m = true) (h : encB n = encB m) : n = m := by
  have h1 := decode_enc hn
  rw [h, decode_enc hm] at h1
  exact (congrArg Prod.fst h1).symm
end Go.Proofs.Ytcmdhpinelnclaa

namespace Go.Proofs.Ytcmdhpinelnclaa
open Go Go.RowKit
set_option linter.unusedVariables false
set_option linter.unusedSimpArgs false
set_option maxRecDepth 100000

section
variable {H : Type} {enc : TypeId × Value → H} {P : Program} {w : World} {base : Nat} {spare : Nat → Bool} {held : Bool} {fuel : Nat} {t : TypeId} {cs : List Value} {x : DataW H × List MemPlace}
end
section
variable {H : Type} {enc : TypeId × Value → H} {w : World} {base : Nat} {spare : Nat → Bool} {held : Bool} {fuel : Nat} {cs : List Value} {x : DataW H × List MemPlace}
end
instance : Inhabited Key := ⟨Key.zero⟩
instance : Inhabited Vl := ⟨Vl.zero⟩
instance : Inhabited Ent := ⟨Ent.zero⟩
instance : Inhabited Msg := ⟨Msg.zero⟩
end Go.Proofs.Ytcmdhpinelnclaa

namespace Go.Proofs.Ytcmdhpinelnclaa
open Go Go.RowKit
set_option linter.unusedVariables false
set_option linter.unusedSimpArgs false
set_option maxRecDepth 100000

/-- a node's value: its slices' values, what these read as -/
structure NodeV (w : World) (v : Value) (n : Nd) : Prop where
  is : ∃ v1 v2 v3 v4, v = .agg #[.bool n.leaf, v1, v2, v3, v4] ∧ Sl Ent.arr 26 w v1 n.es ∧ Sl ie 1 w v2 n.ks ∧ Sl Key.arr 9 w v3 n.ps ∧ Sl Msg.arr 29 w v4 n.ms
section
variable {H : Type} {enc : TypeId × Value → H} {w : World} {base : Nat} {spare : Nat → Bool} {held : Bool} {fuel : Nat} {cs : List Value} {x : DataW H × List MemPlace}
end
end Go.Proofs.Ytcmdhpinelnclaa
