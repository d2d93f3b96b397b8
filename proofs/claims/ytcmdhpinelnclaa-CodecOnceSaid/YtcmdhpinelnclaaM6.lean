/-
  M6: several texts as one: Codec5, LawVal, LawMsgs, LawEnts, NodeLaw, NodeWalks2, NodeFacts, Codec9, Codec10, Codec11, Codec12, Codec13, CodecRT, StructIn, NodeIn, LawCodec1, CodecTurn, LawCodec2, CodecTurned, CodecOnce. No condition beyond those that each theorem states.
-/
import Derived.Test.YtcmdhpinelnclaaM5
import Derived.Laws.IdiomStrings
import Derived.OpenShut
import Derived.Deep.Slices
import Derived.Deep.Strs
import Derived.WideShapes
namespace Go.Proofs.Ytcmdhpinelnclaa
open Go Go.RowKit
set_option linter.unusedVariables false
set_option linter.unusedSimpArgs false
set_option maxRecDepth 100000

theorem put4_nil {α : Type} (xs : List α) (off : Nat) : put4 xs off [] = xs := by simp [put4]
theorem put4_set {α : Type} (xs : List α) (off : Nat) (s : List α) (j : Nat) (h : j < s.length) (hf : off + s.length ≤ xs.length) : put4 xs off (s.take (j + 1)) = (put4 xs off (s.take j)).set (off + j) s[j] := by
  apply List.ext_getElem?
  intro k
  have l1 : (s.take j).length = j := by rw [List.length_take]; omega
  have l2 : (s.take (j + 1)).length = j + 1 := by rw [List.length_take]; omega
  have l3 : (xs.take off).length = off := by rw [List.length_take]; omega
  have hp := put4_len xs off (s.take j) (by omega)
  rw [List.getElem?_set]
  unfold put4 at hp ⊢
  by_cases c1 : k < off
  · rw [if_neg (by omega), List.getElem?_append_left (by omega), List.getElem?_append_left (by omega)]
  · rw [List.getElem?_append_right (by omega), l3]
    by_cases c2 : off + j = k
    · subst c2
      rw [if_pos rfl, if_pos (by omega), List.getElem?_append_left (by omega), List.getElem?_take, if_pos (by omega)]
      rw [show off + j - off = j by omega]
      exact List.getElem?_eq_getElem h
    · rw [if_neg c2, show (xs.take off ++ (s.take j ++ xs.drop (off + (s.take j).length)))[k]? = (s.take j ++ xs.drop (off + (s.take j).length))[k - (xs.take off).length]? from List.getElem?_append_right (by omega), l3]
      by_cases c3 : k - off < j
      · rw [List.getElem?_append_left (by omega), List.getElem?_append_left (by omega), List.getElem?_take, List.getElem?_take, if_pos (by omega), if_pos (by omega)]
      · rw [List.getElem?_append_right (by omega), List.getElem?_append_right (by omega), List.getElem?_drop, List.getElem?_drop]
        congr 1
        omega
attribute [local irreducible] OpOK AWops AW CondB Go2 AFn thenA inBlockA noGotoA orderOk wantedA
set_option maxRecDepth 100000 in
set_option maxHeartbeats 16000000 in
theorem a_refencode (n : Nd) (h : n.Sm) : AFn Try.prog 20 [n.av] (.tup [bytesA (encode n).1, intA (encode n).2]) := by
  have c0 := a_ref09fits n h
  cases hf : nodeFits n with
  | false =>
    rw [hf] at c0
    unfold encode
    rw [hf, if_neg (by simp)]
    refine AFn_intro Try.func20 rfl Try.ntmps20 rfl (by simp) [_, _] rfl fun E hE => ?_; have hnt : (!true) = false := rfl; have hnf : (!false) = true := rfl
    have d0 := acall Try.func21 (c0) (by decide +kernel) (by decide +kernel)
    refine wY ?_
    exact fin ⟨res_nil rfl, res_of rfl rfl rfl, trivial⟩
  | true =>
    rw [hf] at c0
    have hn := fits_ndr hf
    have hb := body_len hf
    have hrl := rawB_len hf
    have e1 : (encode n).1 = encB n := by unfold encode; rw [if_pos hf]
    have e2 : (encode n).2 = 0 := by unfold encode; rw [if_pos hf]
    rw [e1, e2]
    clear e1 e2
    have hhl := headB_len n
    have hel : (encB n).length = (rawB n).length := by rw [encB_len hf, hrl]
    have c2 := c_refsum (rawB n)
    have c3 := a_refputnil ((sumL (rawB n)).setWidth 64) 4 (by omega) (by omega)
    obtain ⟨S4, hS4⟩ : ∃ S4, sum4 (rawB n) = S4 := ⟨_, rfl⟩
    have hs4 : S4.length = 4 := by rw [← hS4]; exact sum4_len _
    have hS4' : leBytes ((sumL (rawB n)).setWidth 64) 4 = S4 := hS4
    rw [hS4'] at c3
    have eE : put4 (rawB n) 4 S4 = encB n := by rw [← hS4]; rfl
    have eF : put4 (rawB n) 4 S4 = encB n := eE
    clear hS4 hS4'
    obtain ⟨leaf, es, ks, ps, ms⟩ := n
    obtain ⟨hes, hps, hms, hle, hlk, hlp, hlm⟩ := hn
    dsimp only at hes hps hms hle hlk hlp hlm
    obtain ⟨X0, hX0⟩ : ∃ X0, headB ⟨leaf, es, ks, ps, ms⟩ ++ List.replicate 4 0#8 = X0 := ⟨_, rfl⟩
    have x0 : X0.length = 8 := by rw [← hX0]; simp [headB_len]
    have e0 : X0 ++ bodyB ⟨leaf, es, ks, ps, ms⟩ = fl msgB (fl pivB (fl kidB (fl entB X0 es es.length) ks ks.length) ps ps.length) ms ms.length := by
      rw [fl_end, fl_end, fl_end, fl_end]; unfold bodyB; simp only [List.append_assoc]
    have b1 := fl_len entB X0 es (fun e he => entB_len (hes e he))
    generalize hX1 : fl entB X0 es es.length = X1 at e0
    have b1' : X1.length ≤ 1000 + 40 * 100000 := by have := b1 es.length; rw [hX1] at this; omega
    have b2 := fl_len kidB X1 ks (fun e he => by rw [kidB_len]; omega)
    generalize hX2 : fl kidB X1 ks ks.length = X2 at e0
    have b2' : X2.length ≤ 1000 + 80 * 100000 := by have := b2 ks.length; rw [hX2] at this; omega
    have b3 := fl_len pivB X2 ps (fun e he => pivB_len (hps e he))
    generalize hX3 : fl pivB X2 ps ps.length = X3 at e0
    have b3' : X3.length ≤ 1000 + 120 * 100000 := by have := b3 ps.length; rw [hX3] at this; omega
    have b4 := fl_len msgB X3 ms (fun e he => msgB_len (hms e he))
    generalize hX4 : fl msgB X3 ms ms.length = X4 at e0
    have x4 : X4.length = 8 + (bodyB ⟨leaf, es, ks, ps, ms⟩).length := by rw [← e0, List.length_append, x0]
    have eR : X4 ++ List.replicate (256 - X4.length) 0#8 = rawB ⟨leaf, es, ks, ps, ms⟩ := by
      rw [x4, ← e0, ← hX0]; unfold rawB; congr 2; omega
    generalize hRAW : rawB ⟨leaf, es, ks, ps, ms⟩ = RAW at *
    generalize hENC : encB ⟨leaf, es, ks, ps, ms⟩ = ENC at *
    cases leaf with
    | true =>
      have eh : X0 = [1#8, BitVec.ofInt 8 (es.length : Nat), BitVec.ofInt 8 (ms.length : Nat), 0#8, 0#8, 0#8, 0#8, 0#8] := by rw [← hX0]; rfl
      refine AFn_intro Try.func20 rfl Try.ntmps20 rfl (by simp) [_, _] rfl fun E hE => ?_; have hnt : (!true) = false := rfl; have hnf : (!false) = true := rfl
      have d0 := acall Try.func21 (c0) (by decide +kernel) (by decide +kernel)
      have dS := ccall Try.func37 (c2) (by decide +kernel) (by decide +kernel)
      have dP := acall Try.func43 (c3) (by decide +kernel) (by decide +kernel)
      refine wZ ?_
      (apply Wb; (focus (exact ob_bsl (f := byteA) (z := 0#8) [1#8, BitVec.ofInt 8 (es.length : Nat), BitVec.ofInt 8 (ms.length : Nat), 0#8, 0#8, 0#8, 0#8, 0#8] rfl rfl rfl rfl (by simp only [List.map_cons, List.map_nil, byte0, byte1, byte2]; exact rfl) (by exact rfl) (by intro H'; simp only [List.map_cons, List.map_nil]; (repeat (first | exact wkl0 | refine wkd rfl ?_ | refine wkt ?_ | refine wkn ?_)); done) (by exact rfl) (by exact rfl) (by exact rfl))); (focus (first | exact want_n | exact want_g rfl (by with_reducible rfl))))
      rw [← eh]
      refine wY ?_
      refine AW_loopI (fun j : Nat => ⟨[(1, .ptr 1 0 []), (6, .own 34 1 (fl entB X0 es j).length .row), (7, .v (.int .i64 (j : Nat)))], [(1, .var (Nd.av ⟨true, es, ks, ps, ms⟩)), (34, .own 5 1 ((fl entB X0 es j).map byteA))]⟩) (fun j => j ≤ es.length) (fun j => es.length - j) 0 (Nat.zero_le _) (by rw [fl_zero]; (refine Go2.sub ⟨?_, ?_, ?_⟩ <;> repeat' (first | exact True.intro | rfl | apply And.intro))) (fun j hj => ?_)
      by_cases hlt : j < es.length
      · have hlt' : (j : Int) < (es.length : Nat) := by omega
        have hr := hes es[j] (List.getElem_mem hlt)
        have hb := b1 j
        have hk := kyS_len hr.1
        have hv := vlS_len hr.2
        obtain ⟨⟨q1, q2⟩, q3, q4⟩ := hr
        have d0 := c_reftext (fl entB X0 es j) es[j].key.b.toList es[j].key.n (by omega) (by simp) q1 (by simp; omega)
        have d1 := c_reftext (fl entB X0 es j ++ [BitVec.ofInt 8 ((kyS es[j].key).length : Nat)] ++ kyS es[j].key) es[j].val.b.toList es[j].val.n (by simp only [List.length_append, List.length_singleton]; omega) (by simp) q3 (by simp; omega)
        have hs := fl_snoc entB X0 es j hlt
        rw [entB_split] at hs
        have d2 := ccall Try.func46 (d0) (by decide +kernel) (by decide +kernel)
        have d3 := ccall Try.func46 (d1) (by decide +kernel) (by decide +kernel)
        refine wRG ?_
        refine thenA_n ?_
        refine wRG ?_
        refine thenA_n ?_
        refine wRG ?_
        refine thenA_n ?_
        refine AW_go (Go2.frozB 8 rfl) ?_
        refine wY ?_
        (apply WcN [34] [34]; (focus (exact o_ccall [(1000, 34)] d2 rfl rfl rfl rfl (by repeat (first | exact .nil | refine .cons (.inl ⟨rfl, rfl⟩) ?_ | refine .cons (.inr ⟨rfl, fun _ => Wk.tok⟩) ?_)) (by repeat' (first | exact True.intro | rfl | apply And.intro)) (by repeat' (first | exact True.intro | rfl | apply And.intro)) rfl rfl rfl)); (focus (exact rfl)); (focus (exact rfl)); (focus (first | exact want_n | exact want_g rfl (by with_reducible rfl))))
        refine wY ?_
        (apply WcN [34] [34]; (focus (exact o_ccall [(1000, 34)] d3 rfl rfl rfl rfl (by repeat (first | exact .nil | refine .cons (.inl ⟨rfl, rfl⟩) ?_ | refine .cons (.inr ⟨rfl, fun _ => Wk.tok⟩) ?_)) (by repeat' (first | exact True.intro | rfl | apply And.intro)) (by repeat' (first | exact True.intro | rfl | apply And.intro)) rfl rfl rfl)); (focus (exact rfl)); (focus (exact rfl)); (focus (first | exact want_n | exact want_g rfl (by with_reducible rfl))))
        refine wY ?_
        refine ⟨j + 1, by omega, by omega, ?_⟩
        rw [hs]
        (refine Go2.sub ⟨?_, ?_, ?_⟩ <;> repeat' (first | exact True.intro | rfl | apply And.intro))
      obtain rfl : j = es.length := by omega
      have hlt' : ¬ (es.length : Int) < (es.length : Nat) := by omega
      rw [hX1]
      refine wY ?_
      clear hlt hlt' hj
      refine AW_loopI (fun j : Nat => ⟨[(1, .ptr 1 0 []), (6, .own 34 1 (fl kidB X1 ks j).length .row), (9, .v (.int .i64 (j : Nat)))], [(1, .var (Nd.av ⟨true, es, ks, ps, ms⟩)), (34, .own 5 1 ((fl kidB X1 ks j).map byteA))]⟩) (fun j => j ≤ ks.length) (fun j => ks.length - j) 0 (Nat.zero_le _) (by rw [fl_zero]; (refine Go2.sub ⟨?_, ?_, ?_⟩ <;> repeat' (first | exact True.intro | rfl | apply And.intro))) (fun j hj => ?_)
      by_cases hlt : j < ks.length
      · have hlt' : (j : Int) < (ks.length : Nat) := by omega
        have hb := b2 j
        have d0 := c_refput (fl kidB X1 ks j) (BitVec.ofInt 64 ks[j]) 4 (by omega) (by omega) (by omega)
        have hs : fl kidB X1 ks (j + 1) = fl kidB X1 ks j ++ leBytes (BitVec.ofInt 64 ks[j]) 4 := fl_snoc kidB X1 ks j hlt
        have d2 := ccall Try.func43 (d0) (by decide +kernel) (by decide +kernel)
        refine wY ?_
        (apply WcN [34] [34]; (focus (exact o_ccall [(1000, 34)] d2 rfl rfl rfl rfl (by repeat (first | exact .nil | refine .cons (.inl ⟨rfl, rfl⟩) ?_ | refine .cons (.inr ⟨rfl, fun _ => Wk.tok⟩) ?_)) (by repeat' (first | exact True.intro | rfl | apply And.intro)) (by repeat' (first | exact True.intro | rfl | apply And.intro)) rfl rfl rfl)); (focus (exact rfl)); (focus (exact rfl)); (focus (first | exact want_n | exact want_g rfl (by with_reducible rfl))))
        refine wY ?_
        refine ⟨j + 1, by omega, by omega, ?_⟩
        rw [hs]
        (refine Go2.sub ⟨?_, ?_, ?_⟩ <;> repeat' (first | exact True.intro | rfl | apply And.intro))
      obtain rfl : j = ks.length := by omega
      have hlt' : ¬ (ks.length : Int) < (ks.length : Nat) := by omega
      rw [hX2]
      refine wY ?_
      clear hlt hlt' hj
      refine AW_loopI (fun j : Nat => ⟨[(1, .ptr 1 0 []), (6, .own 34 1 (fl pivB X2 ps j).length .row), (10, .v (.int .i64 (j : Nat)))], [(1, .var (Nd.av ⟨true, es, ks, ps, ms⟩)), (34, .own 5 1 ((fl pivB X2 ps j).map byteA))]⟩) (fun j => j ≤ ps.length) (fun j => ps.length - j) 0 (Nat.zero_le _) (by rw [fl_zero]; (refine Go2.sub ⟨?_, ?_, ?_⟩ <;> repeat' (first | exact True.intro | rfl | apply And.intro))) (fun j hj => ?_)
      by_cases hlt : j < ps.length
      · have hlt' : (j : Int) < (ps.length : Nat) := by omega
        have hr := hps ps[j] (List.getElem_mem hlt)
        have hb := b3 j
        have hk := kyS_len hr
        obtain ⟨q1, q2⟩ := hr
        have d0 := c_reftext (fl pivB X2 ps j) ps[j].b.toList ps[j].n (by omega) (by simp) q1 (by simp; omega)
        have hs := fl_snoc pivB X2 ps j hlt
        rw [pivB_split] at hs
        have d2 := ccall Try.func46 (d0) (by decide +kernel) (by decide +kernel)
        refine wY ?_
        (apply WcN [34] [34]; (focus (exact o_ccall [(1000, 34)] d2 rfl rfl rfl rfl (by repeat (first | exact .nil | refine .cons (.inl ⟨rfl, rfl⟩) ?_ | refine .cons (.inr ⟨rfl, fun _ => Wk.tok⟩) ?_)) (by repeat' (first | exact True.intro | rfl | apply And.intro)) (by repeat' (first | exact True.intro | rfl | apply And.intro)) rfl rfl rfl)); (focus (exact rfl)); (focus (exact rfl)); (focus (first | exact want_n | exact want_g rfl (by with_reducible rfl))))
        refine wY ?_
        refine ⟨j + 1, by omega, by omega, ?_⟩
        rw [hs]
        (refine Go2.sub ⟨?_, ?_, ?_⟩ <;> repeat' (first | exact True.intro | rfl | apply And.intro))
      obtain rfl : j = ps.length := by omega
      have hlt' : ¬ (ps.length : Int) < (ps.length : Nat) := by omega
      rw [hX3]
      refine wY ?_
      clear hlt hlt' hj
      refine AW_loopI (fun j : Nat => ⟨[(1, .ptr 1 0 []), (6, .own 34 1 (fl msgB X3 ms j).length .row), (11, .v (.int .i64 (j : Nat)))], [(1, .var (Nd.av ⟨true, es, ks, ps, ms⟩)), (34, .own 5 1 ((fl msgB X3 ms j).map byteA))]⟩) (fun j => j ≤ ms.length) (fun j => ms.length - j) 0 (Nat.zero_le _) (by rw [fl_zero]; (refine Go2.sub ⟨?_, ?_, ?_⟩ <;> repeat' (first | exact True.intro | rfl | apply And.intro))) (fun j hj => ?_)
      by_cases hlt : j < ms.length
      · have hlt' : (j : Int) < (ms.length : Nat) := by omega
        have hr := hms ms[j] (List.getElem_mem hlt)
        have hb := b4 j
        have hk := kyS_len hr.1
        have hv := vlS_len hr.2
        obtain ⟨⟨q1, q2⟩, q3, q4⟩ := hr
        have d0 := c_refput (fl msgB X3 ms j ++ [BitVec.ofInt 8 ms[j].kind]) ms[j].seq 8 (by simp only [List.length_append, List.length_singleton]; omega) (by omega) (by omega)
        have d1 := c_reftext (fl msgB X3 ms j ++ [BitVec.ofInt 8 ms[j].kind] ++ leBytes ms[j].seq 8) ms[j].key.b.toList ms[j].key.n (by simp only [List.length_append, List.length_singleton, leBytes_length]; omega) (by simp) q1 (by simp; omega)
        have hs := fl_snoc msgB X3 ms j hlt
        rw [msgB_split] at hs
        obtain ⟨Y, hY⟩ : ∃ Y, fl msgB X3 ms j ++ [BitVec.ofInt 8 ms[j].kind] ++ leBytes ms[j].seq 8 ++ [BitVec.ofInt 8 ((kyS ms[j].key).length : Nat)] ++ kyS ms[j].key = Y := ⟨_, rfl⟩
        have hYl : Y.length ≤ 17000000 := by rw [← hY]; simp only [List.length_append, List.length_singleton, leBytes_length]; omega
        rw [hY] at hs
        have hY' : fl msgB X3 ms j ++ [BitVec.ofInt 8 ms[j].kind] ++ leBytes ms[j].seq 8 ++ [BitVec.ofInt 8 ((ms[j].key.b.toList.take ms[j].key.n.toNat).length : Nat)] ++ ms[j].key.b.toList.take ms[j].key.n.toNat = Y := hY
        rw [hY'] at d1
        clear hY hY'
        have d2 := ccall Try.func43 (d0) (by decide +kernel) (by decide +kernel)
        have d3 := ccall Try.func46 (d1) (by decide +kernel) (by decide +kernel)
        refine wRG ?_
        refine thenA_n ?_
        refine wRG ?_
        refine thenA_n ?_
        refine wRG ?_
        refine thenA_n ?_
        refine AW_go (Go2.frozB 12 rfl) ?_
        by_cases k1 : ms[j].kind = 1
        · have n3 : ¬ ms[j].kind = 3 := by omega
          have d4 := c_reftext Y ms[j].val.b.toList ms[j].val.n (by omega) (by simp) q3 (by simp; omega)
          have d5 := ccall Try.func46 (d4) (by decide +kernel) (by decide +kernel)
          refine wY ?_
          (apply WcN [34] [34]; (focus (exact o_ccall [(1000, 34)] d2 rfl rfl rfl rfl (by repeat (first | exact .nil | refine .cons (.inl ⟨rfl, rfl⟩) ?_ | refine .cons (.inr ⟨rfl, fun _ => Wk.tok⟩) ?_)) (by repeat' (first | exact True.intro | rfl | apply And.intro)) (by repeat' (first | exact True.intro | rfl | apply And.intro)) rfl rfl rfl)); (focus (exact rfl)); (focus (exact rfl)); (focus (first | exact want_n | exact want_g rfl (by with_reducible rfl))))
          refine wY ?_
          (apply WcN [34] [34]; (focus (exact o_ccall [(1000, 34)] d3 rfl rfl rfl rfl (by repeat (first | exact .nil | refine .cons (.inl ⟨rfl, rfl⟩) ?_ | refine .cons (.inr ⟨rfl, fun _ => Wk.tok⟩) ?_)) (by repeat' (first | exact True.intro | rfl | apply And.intro)) (by repeat' (first | exact True.intro | rfl | apply And.intro)) rfl rfl rfl)); (focus (exact rfl)); (focus (exact rfl)); (focus (first | exact want_n | exact want_g rfl (by with_reducible rfl))))
          refine wY ?_
          (apply WcN [34] [34]; (focus (exact o_ccall [(1000, 34)] d5 rfl rfl rfl rfl (by repeat (first | exact .nil | refine .cons (.inl ⟨rfl, rfl⟩) ?_ | refine .cons (.inr ⟨rfl, fun _ => Wk.tok⟩) ?_)) (by repeat' (first | exact True.intro | rfl | apply And.intro)) (by repeat' (first | exact True.intro | rfl | apply And.intro)) rfl rfl rfl)); (focus (exact rfl)); (focus (exact rfl)); (focus (first | exact want_n | exact want_g rfl (by with_reducible rfl))))
          refine wY ?_
          refine ⟨j + 1, by omega, by omega, ?_⟩
          have he : restB ms[j] = [BitVec.ofInt 8 ((vlS ms[j].val).length : Nat)] ++ vlS ms[j].val := by unfold restB tx; rw [if_pos k1]
          rw [hs, he, ← List.append_assoc Y]
          (refine Go2.sub ⟨?_, ?_, ?_⟩ <;> repeat' (first | exact True.intro | rfl | apply And.intro))
        · by_cases k3 : ms[j].kind = 3
          · have d4 := c_refput Y ms[j].add 8 (by omega) (by omega) (by omega)
            have d5 := ccall Try.func43 (d4) (by decide +kernel) (by decide +kernel)
            refine wY ?_
            (apply WcN [34] [34]; (focus (exact o_ccall [(1000, 34)] d2 rfl rfl rfl rfl (by repeat (first | exact .nil | refine .cons (.inl ⟨rfl, rfl⟩) ?_ | refine .cons (.inr ⟨rfl, fun _ => Wk.tok⟩) ?_)) (by repeat' (first | exact True.intro | rfl | apply And.intro)) (by repeat' (first | exact True.intro | rfl | apply And.intro)) rfl rfl rfl)); (focus (exact rfl)); (focus (exact rfl)); (focus (first | exact want_n | exact want_g rfl (by with_reducible rfl))))
            refine wY ?_
            (apply WcN [34] [34]; (focus (exact o_ccall [(1000, 34)] d3 rfl rfl rfl rfl (by repeat (first | exact .nil | refine .cons (.inl ⟨rfl, rfl⟩) ?_ | refine .cons (.inr ⟨rfl, fun _ => Wk.tok⟩) ?_)) (by repeat' (first | exact True.intro | rfl | apply And.intro)) (by repeat' (first | exact True.intro | rfl | apply And.intro)) rfl rfl rfl)); (focus (exact rfl)); (focus (exact rfl)); (focus (first | exact want_n | exact want_g rfl (by with_reducible rfl))))
            refine wY ?_
            (apply WcN [34] [34]; (focus (exact o_ccall [(1000, 34)] d5 rfl rfl rfl rfl (by repeat (first | exact .nil | refine .cons (.inl ⟨rfl, rfl⟩) ?_ | refine .cons (.inr ⟨rfl, fun _ => Wk.tok⟩) ?_)) (by repeat' (first | exact True.intro | rfl | apply And.intro)) (by repeat' (first | exact True.intro | rfl | apply And.intro)) rfl rfl rfl)); (focus (exact rfl)); (focus (exact rfl)); (focus (first | exact want_n | exact want_g rfl (by with_reducible rfl))))
            refine wY ?_
            refine ⟨j + 1, by omega, by omega, ?_⟩
            have he : restB ms[j] = leBytes ms[j].add 8 := by unfold restB; rw [if_neg k1, if_pos k3]
            rw [hs, he]
            (refine Go2.sub ⟨?_, ?_, ?_⟩ <;> repeat' (first | exact True.intro | rfl | apply And.intro))
          · refine wY ?_
            (apply WcN [34] [34]; (focus (exact o_ccall [(1000, 34)] d2 rfl rfl rfl rfl (by repeat (first | exact .nil | refine .cons (.inl ⟨rfl, rfl⟩) ?_ | refine .cons (.inr ⟨rfl, fun _ => Wk.tok⟩) ?_)) (by repeat' (first | exact True.intro | rfl | apply And.intro)) (by repeat' (first | exact True.intro | rfl | apply And.intro)) rfl rfl rfl)); (focus (exact rfl)); (focus (exact rfl)); (focus (first | exact want_n | exact want_g rfl (by with_reducible rfl))))
            refine wY ?_
            (apply WcN [34] [34]; (focus (exact o_ccall [(1000, 34)] d3 rfl rfl rfl rfl (by repeat (first | exact .nil | refine .cons (.inl ⟨rfl, rfl⟩) ?_ | refine .cons (.inr ⟨rfl, fun _ => Wk.tok⟩) ?_)) (by repeat' (first | exact True.intro | rfl | apply And.intro)) (by repeat' (first | exact True.intro | rfl | apply And.intro)) rfl rfl rfl)); (focus (exact rfl)); (focus (exact rfl)); (focus (first | exact want_n | exact want_g rfl (by with_reducible rfl))))
            refine wY ?_
            refine ⟨j + 1, by omega, by omega, ?_⟩
            have he : restB ms[j] = [] := by unfold restB; rw [if_neg k1, if_neg k3]
            rw [hs, he, List.append_nil]
            (refine Go2.sub ⟨?_, ?_, ?_⟩ <;> repeat' (first | exact True.intro | rfl | apply And.intro))
      obtain rfl : j = ms.length := by omega
      have hlt' : ¬ (ms.length : Int) < (ms.length : Nat) := by omega
      rw [hX4]
      refine wY ?_
      clear hlt hlt' hj
      refine AW_loopI (fun j : Nat => ⟨[(1, .ptr 1 0 []), (6, .own 34 1 (X4 ++ List.replicate j 0#8).length .row)], [(1, .var (Nd.av ⟨true, es, ks, ps, ms⟩)), (34, .own 5 1 ((X4 ++ List.replicate j 0#8).map byteA))]⟩) (fun j => j ≤ 256 - X4.length) (fun j => 256 - X4.length - j) 0 (Nat.zero_le _) (by rw [List.replicate_zero, List.append_nil]; (refine Go2.sub ⟨?_, ?_, ?_⟩ <;> repeat' (first | exact True.intro | rfl | apply And.intro))) (fun j hj => ?_)
      have hjl : (X4 ++ List.replicate j 0#8).length = X4.length + j := by rw [List.length_append, List.length_replicate]
      by_cases hlt : j < 256 - X4.length
      · have hlt' : ((X4 ++ List.replicate j 0#8).length : Int) < 256 := by omega
        have hs : X4 ++ List.replicate (j + 1) 0#8 = X4 ++ List.replicate j 0#8 ++ [0#8] := by rw [List.replicate_succ', List.append_assoc]
        refine wY ?_
        refine ⟨j + 1, by omega, by omega, ?_⟩
        rw [hs]
        (refine Go2.sub ⟨?_, ?_, ?_⟩ <;> repeat' (first | exact True.intro | rfl | apply And.intro))
      obtain rfl : j = 256 - X4.length := by omega
      have hlt' : ¬ ((X4 ++ List.replicate (256 - X4.length) 0#8).length : Int) < 256 := by omega
      rw [eR] at hlt' ⊢
      refine wY ?_
      clear hlt hlt' hj hjl
      (apply WvN [34]; (focus (exact o_rcall [(1000, 34)] dS rfl rfl rfl rfl rfl (by repeat (first | exact .nil | refine .cons (.inl ⟨rfl, rfl⟩) ?_ | refine .cons (.inr ⟨rfl, fun _ => Wk.tok⟩) ?_)) (by repeat' (first | exact True.intro | rfl | apply And.intro)) (by repeat' (first | exact True.intro | rfl | apply And.intro)) rfl rfl)); (focus (exact rfl)); (focus (first | exact want_n | exact want_g rfl (by with_reducible rfl))))
      refine wY ?_
      refine AW_loopI (fun j : Nat => ⟨[(6, .own 34 1 RAW.length .row), (13, bytesA S4), (14, .v (.int .i64 (j : Nat)))], [(34, .own 5 1 ((put4 RAW 4 (S4.take j)).map byteA))]⟩) (fun j => j ≤ 4) (fun j => 4 - j) 0 (Nat.zero_le _) (by rw [List.take_zero, put4_nil]; (refine Go2.sub ⟨?_, ?_, ?_⟩ <;> repeat' (first | exact True.intro | rfl | apply And.intro))) (fun j hj => ?_)
      have hpl : (put4 RAW 4 (S4.take j)).length = RAW.length := put4_len _ _ _ (by rw [List.length_take]; omega)
      by_cases hlt : j < 4
      · have hlt' : (j : Int) < 4 := by omega
        have hj4 : j < S4.length := by omega
        have hs := put4_set RAW 4 S4 j hj4 (by omega)
        refine wY ?_
        refine ⟨j + 1, by omega, by omega, ?_⟩
        rw [hs]
        (refine Go2.sub ⟨?_, ?_, ?_⟩ <;> repeat' (first | exact True.intro | rfl | apply And.intro))
      obtain rfl : j = 4 := by omega
      have hlt' : ¬ (((4 : Nat) : Int) < 4) := by omega
      rw [List.take_of_length_le (by omega)]
      rw [List.take_of_length_le (by omega)] at hpl
      refine wRG ?_
      refine thenA_n ?_
      refine AW_go (S' := ⟨[(6, .own 34 1 (put4 RAW 4 S4).length .row), (158, .v (.bool (decide (((4 : Nat) : Int) < 4))))], [(34, .own 5 1 ((put4 RAW 4 S4).map byteA))]⟩) (by rw [hpl]; (refine Go2.sub ⟨?_, ?_, ?_⟩ <;> repeat' (first | exact True.intro | rfl | apply And.intro))) ?_
      refine AW_go (Go2.thaw (S' := ⟨[(6, .sl (some 34) 1 ((put4 RAW 4 S4).map byteA)), (158, .v (.bool (decide (((4 : Nat) : Int) < 4))))], [(34, .tail 5 1 ((put4 RAW 4 S4).map byteA).length)]⟩) 34 rfl (by repeat' (first | exact True.intro | rfl | apply And.intro | (simp; done))) (by repeat' (first | exact True.intro | rfl | apply And.intro | (simp; done))) rfl) ?_
      rw [eE]
      refine wY ?_
      exact fin ⟨res_sl rfl, res_of rfl rfl rfl, trivial⟩
    | false =>
      have eh : X0 = [2#8, BitVec.ofInt 8 (ks.length : Nat), BitVec.ofInt 8 (ms.length : Nat), 0#8, 0#8, 0#8, 0#8, 0#8] := by rw [← hX0]; rfl
      refine AFn_intro Try.func20 rfl Try.ntmps20 rfl (by simp) [_, _] rfl fun E hE => ?_; have hnt : (!true) = false := rfl; have hnf : (!false) = true := rfl
      have d0 := acall Try.func21 (c0) (by decide +kernel) (by decide +kernel)
      have dS := ccall Try.func37 (c2) (by decide +kernel) (by decide +kernel)
      have dP := acall Try.func43 (c3) (by decide +kernel) (by decide +kernel)
      refine wZ ?_
      (apply Wb; (focus (exact ob_bsl (f := byteA) (z := 0#8) [2#8, BitVec.ofInt 8 (ks.length : Nat), BitVec.ofInt 8 (ms.length : Nat), 0#8, 0#8, 0#8, 0#8, 0#8] rfl rfl rfl rfl (by simp only [List.map_cons, List.map_nil, byte0, byte1, byte2]; exact rfl) (by exact rfl) (by intro H'; simp only [List.map_cons, List.map_nil]; (repeat (first | exact wkl0 | refine wkd rfl ?_ | refine wkt ?_ | refine wkn ?_)); done) (by exact rfl) (by exact rfl) (by exact rfl))); (focus (first | exact want_n | exact want_g rfl (by with_reducible rfl))))
      rw [← eh]
      refine wY ?_
      refine AW_loopI (fun j : Nat => ⟨[(1, .ptr 1 0 []), (6, .own 34 1 (fl entB X0 es j).length .row), (7, .v (.int .i64 (j : Nat)))], [(1, .var (Nd.av ⟨false, es, ks, ps, ms⟩)), (34, .own 5 1 ((fl entB X0 es j).map byteA))]⟩) (fun j => j ≤ es.length) (fun j => es.length - j) 0 (Nat.zero_le _) (by rw [fl_zero]; (refine Go2.sub ⟨?_, ?_, ?_⟩ <;> repeat' (first | exact True.intro | rfl | apply And.intro))) (fun j hj => ?_)
      by_cases hlt : j < es.length
      · have hlt' : (j : Int) < (es.length : Nat) := by omega
        have hr := hes es[j] (List.getElem_mem hlt)
        have hb := b1 j
        have hk := kyS_len hr.1
        have hv := vlS_len hr.2
        obtain ⟨⟨q1, q2⟩, q3, q4⟩ := hr
        have d0 := c_reftext (fl entB X0 es j) es[j].key.b.toList es[j].key.n (by omega) (by simp) q1 (by simp; omega)
        have d1 := c_reftext (fl entB X0 es j ++ [BitVec.ofInt 8 ((kyS es[j].key).length : Nat)] ++ kyS es[j].key) es[j].val.b.toList es[j].val.n (by simp only [List.length_append, List.length_singleton]; omega) (by simp) q3 (by simp; omega)
        have hs := fl_snoc entB X0 es j hlt
        rw [entB_split] at hs
        have d2 := ccall Try.func46 (d0) (by decide +kernel) (by decide +kernel)
        have d3 := ccall Try.func46 (d1) (by decide +kernel) (by decide +kernel)
        refine wRG ?_
        refine thenA_n ?_
        refine wRG ?_
        refine thenA_n ?_
        refine wRG ?_
        refine thenA_n ?_
        refine AW_go (Go2.frozB 8 rfl) ?_
        refine wY ?_
        (apply WcN [34] [34]; (focus (exact o_ccall [(1000, 34)] d2 rfl rfl rfl rfl (by repeat (first | exact .nil | refine .cons (.inl ⟨rfl, rfl⟩) ?_ | refine .cons (.inr ⟨rfl, fun _ => Wk.tok⟩) ?_)) (by repeat' (first | exact True.intro | rfl | apply And.intro)) (by repeat' (first | exact True.intro | rfl | apply And.intro)) rfl rfl rfl)); (focus (exact rfl)); (focus (exact rfl)); (focus (first | exact want_n | exact want_g rfl (by with_reducible rfl))))
        refine wY ?_
        (apply WcN [34] [34]; (focus (exact o_ccall [(1000, 34)] d3 rfl rfl rfl rfl (by repeat (first | exact .nil | refine .cons (.inl ⟨rfl, rfl⟩) ?_ | refine .cons (.inr ⟨rfl, fun _ => Wk.tok⟩) ?_)) (by repeat' (first | exact True.intro | rfl | apply And.intro)) (by repeat' (first | exact True.intro | rfl | apply And.intro)) rfl rfl rfl)); (focus (exact rfl)); (focus (exact rfl)); (focus (first | exact want_n | exact want_g rfl (by with_reducible rfl))))
        refine wY ?_
        refine ⟨j + 1, by omega, by omega, ?_⟩
        rw [hs]
        (refine Go2.sub ⟨?_, ?_, ?_⟩ <;> repeat' (first | exact True.intro | rfl | apply And.intro))
      obtain rfl : j = es.length := by omega
      have hlt' : ¬ (es.length : Int) < (es.length : Nat) := by omega
      rw [hX1]
      refine wY ?_
      clear hlt hlt' hj
      refine AW_loopI (fun j : Nat => ⟨[(1, .ptr 1 0 []), (6, .own 34 1 (fl kidB X1 ks j).length .row), (9, .v (.int .i64 (j : Nat)))], [(1, .var (Nd.av ⟨false, es, ks, ps, ms⟩)), (34, .own 5 1 ((fl kidB X1 ks j).map byteA))]⟩) (fun j => j ≤ ks.length) (fun j => ks.length - j) 0 (Nat.zero_le _) (by rw [fl_zero]; (refine Go2.sub ⟨?_, ?_, ?_⟩ <;> repeat' (first | exact True.intro | rfl | apply And.intro))) (fun j hj => ?_)
      by_cases hlt : j < ks.length
      · have hlt' : (j : Int) < (ks.length : Nat) := by omega
        have hb := b2 j
        have d0 := c_refput (fl kidB X1 ks j) (BitVec.ofInt 64 ks[j]) 4 (by omega) (by omega) (by omega)
        have hs : fl kidB X1 ks (j + 1) = fl kidB X1 ks j ++ leBytes (BitVec.ofInt 64 ks[j]) 4 := fl_snoc kidB X1 ks j hlt
        have d2 := ccall Try.func43 (d0) (by decide +kernel) (by decide +kernel)
        refine wY ?_
        (apply WcN [34] [34]; (focus (exact o_ccall [(1000, 34)] d2 rfl rfl rfl rfl (by repeat (first | exact .nil | refine .cons (.inl ⟨rfl, rfl⟩) ?_ | refine .cons (.inr ⟨rfl, fun _ => Wk.tok⟩) ?_)) (by repeat' (first | exact True.intro | rfl | apply And.intro)) (by repeat' (first | exact True.intro | rfl | apply And.intro)) rfl rfl rfl)); (focus (exact rfl)); (focus (exact rfl)); (focus (first | exact want_n | exact want_g rfl (by with_reducible rfl))))
        refine wY ?_
        refine ⟨j + 1, by omega, by omega, ?_⟩
        rw [hs]
        (refine Go2.sub ⟨?_, ?_, ?_⟩ <;> repeat' (first | exact True.intro | rfl | apply And.intro))
      obtain rfl : j = ks.length := by omega
      have hlt' : ¬ (ks.length : Int) < (ks.length : Nat) := by omega
      rw [hX2]
      refine wY ?_
      clear hlt hlt' hj
      refine AW_loopI (fun j : Nat => ⟨[(1, .ptr 1 0 []), (6, .own 34 1 (fl pivB X2 ps j).length .row), (10, .v (.int .i64 (j : Nat)))], [(1, .var (Nd.av ⟨false, es, ks, ps, ms⟩)), (34, .own 5 1 ((fl pivB X2 ps j).map byteA))]⟩) (fun j => j ≤ ps.length) (fun j => ps.length - j) 0 (Nat.zero_le _) (by rw [fl_zero]; (refine Go2.sub ⟨?_, ?_, ?_⟩ <;> repeat' (first | exact True.intro | rfl | apply And.intro))) (fun j hj => ?_)
      by_cases hlt : j < ps.length
      · have hlt' : (j : Int) < (ps.length : Nat) := by omega
        have hr := hps ps[j] (List.getElem_mem hlt)
        have hb := b3 j
        have hk := kyS_len hr
        obtain ⟨q1, q2⟩ := hr
        have d0 := c_reftext (fl pivB X2 ps j) ps[j].b.toList ps[j].n (by omega) (by simp) q1 (by simp; omega)
        have hs := fl_snoc pivB X2 ps j hlt
        rw [pivB_split] at hs
        have d2 := ccall Try.func46 (d0) (by decide +kernel) (by decide +kernel)
        refine wY ?_
        (apply WcN [34] [34]; (focus (exact o_ccall [(1000, 34)] d2 rfl rfl rfl rfl (by repeat (first | exact .nil | refine .cons (.inl ⟨rfl, rfl⟩) ?_ | refine .cons (.inr ⟨rfl, fun _ => Wk.tok⟩) ?_)) (by repeat' (first | exact True.intro | rfl | apply And.intro)) (by repeat' (first | exact True.intro | rfl | apply And.intro)) rfl rfl rfl)); (focus (exact rfl)); (focus (exact rfl)); (focus (first | exact want_n | exact want_g rfl (by with_reducible rfl))))
        refine wY ?_
        refine ⟨j + 1, by omega, by omega, ?_⟩
        rw [hs]
        (refine Go2.sub ⟨?_, ?_, ?_⟩ <;> repeat' (first | exact True.intro | rfl | apply And.intro))
      obtain rfl : j = ps.length := by omega
      have hlt' : ¬ (ps.length : Int) < (ps.length : Nat) := by omega
      rw [hX3]
      refine wY ?_
      clear hlt hlt' hj
      refine AW_loopI (fun j : Nat => ⟨[(1, .ptr 1 0 []), (6, .own 34 1 (fl msgB X3 ms j).length .row), (11, .v (.int .i64 (j : Nat)))], [(1, .var (Nd.av ⟨false, es, ks, ps, ms⟩)), (34, .own 5 1 ((fl msgB X3 ms j).map byteA))]⟩) (fun j => j ≤ ms.length) (fun j => ms.length - j) 0 (Nat.zero_le _) (by rw [fl_zero]; (refine Go2.sub ⟨?_, ?_, ?_⟩ <;> repeat' (first | exact True.intro | rfl | apply And.intro))) (fun j hj => ?_)
      by_cases hlt : j < ms.length
      · have hlt' : (j : Int) < (ms.length : Nat) := by omega
        have hr := hms ms[j] (List.getElem_mem hlt)
        have hb := b4 j
        have hk := kyS_len hr.1
        have hv := vlS_len hr.2
        obtain ⟨⟨q1, q2⟩, q3, q4⟩ := hr
        have d0 := c_refput (fl msgB X3 ms j ++ [BitVec.ofInt 8 ms[j].kind]) ms[j].seq 8 (by simp only [List.length_append, List.length_singleton]; omega) (by omega) (by omega)
        have d1 := c_reftext (fl msgB X3 ms j ++ [BitVec.ofInt 8 ms[j].kind] ++ leBytes ms[j].seq 8) ms[j].key.b.toList ms[j].key.n (by simp only [List.length_append, List.length_singleton, leBytes_length]; omega) (by simp) q1 (by simp; omega)
        have hs := fl_snoc msgB X3 ms j hlt
        rw [msgB_split] at hs
        obtain ⟨Y, hY⟩ : ∃ Y, fl msgB X3 ms j ++ [BitVec.ofInt 8 ms[j].kind] ++ leBytes ms[j].seq 8 ++ [BitVec.ofInt 8 ((kyS ms[j].key).length : Nat)] ++ kyS ms[j].key = Y := ⟨_, rfl⟩
        have hYl : Y.length ≤ 17000000 := by rw [← hY]; simp only [List.length_append, List.length_singleton, leBytes_length]; omega
        rw [hY] at hs
        have hY' : fl msgB X3 ms j ++ [BitVec.ofInt 8 ms[j].kind] ++ leBytes ms[j].seq 8 ++ [BitVec.ofInt 8 ((ms[j].key.b.toList.take ms[j].key.n.toNat).length : Nat)] ++ ms[j].key.b.toList.take ms[j].key.n.toNat = Y := hY
        rw [hY'] at d1
        clear hY hY'
        have d2 := ccall Try.func43 (d0) (by decide +kernel) (by decide +kernel)
        have d3 := ccall Try.func46 (d1) (by decide +kernel) (by decide +kernel)
        refine wRG ?_
        refine thenA_n ?_
        refine wRG ?_
        refine thenA_n ?_
        refine wRG ?_
        refine thenA_n ?_
        refine AW_go (Go2.frozB 12 rfl) ?_
        by_cases k1 : ms[j].kind = 1
        · have n3 : ¬ ms[j].kind = 3 := by omega
          have d4 := c_reftext Y ms[j].val.b.toList ms[j].val.n (by omega) (by simp) q3 (by simp; omega)
          have d5 := ccall Try.func46 (d4) (by decide +kernel) (by decide +kernel)
          refine wY ?_
          (apply WcN [34] [34]; (focus (exact o_ccall [(1000, 34)] d2 rfl rfl rfl rfl (by repeat (first | exact .nil | refine .cons (.inl ⟨rfl, rfl⟩) ?_ | refine .cons (.inr ⟨rfl, fun _ => Wk.tok⟩) ?_)) (by repeat' (first | exact True.intro | rfl | apply And.intro)) (by repeat' (first | exact True.intro | rfl | apply And.intro)) rfl rfl rfl)); (focus (exact rfl)); (focus (exact rfl)); (focus (first | exact want_n | exact want_g rfl (by with_reducible rfl))))
          refine wY ?_
          (apply WcN [34] [34]; (focus (exact o_ccall [(1000, 34)] d3 rfl rfl rfl rfl (by repeat (first | exact .nil | refine .cons (.inl ⟨rfl, rfl⟩) ?_ | refine .cons (.inr ⟨rfl, fun _ => Wk.tok⟩) ?_)) (by repeat' (first | exact True.intro | rfl | apply And.intro)) (by repeat' (first | exact True.intro | rfl | apply And.intro)) rfl rfl rfl)); (focus (exact rfl)); (focus (exact rfl)); (focus (first | exact want_n | exact want_g rfl (by with_reducible rfl))))
          refine wY ?_
          (apply WcN [34] [34]; (focus (exact o_ccall [(1000, 34)] d5 rfl rfl rfl rfl (by repeat (first | exact .nil | refine .cons (.inl ⟨rfl, rfl⟩) ?_ | refine .cons (.inr ⟨rfl, fun _ => Wk.tok⟩) ?_)) (by repeat' (first | exact True.intro | rfl | apply And.intro)) (by repeat' (first | exact True.intro | rfl | apply And.intro)) rfl rfl rfl)); (focus (exact rfl)); (focus (exact rfl)); (focus (first | exact want_n | exact want_g rfl (by with_reducible rfl))))
          refine wY ?_
          refine ⟨j + 1, by omega, by omega, ?_⟩
          have he : restB ms[j] = [BitVec.ofInt 8 ((vlS ms[j].val).length : Nat)] ++ vlS ms[j].val := by unfold restB tx; rw [if_pos k1]
          rw [hs, he, ← List.append_assoc Y]
          (refine Go2.sub ⟨?_, ?_, ?_⟩ <;> repeat' (first | exact True.intro | rfl | apply And.intro))
        · by_cases k3 : ms[j].kind = 3
          · have d4 := c_refput Y ms[j].add 8 (by omega) (by omega) (by omega)
            have d5 := ccall Try.func43 (d4) (by decide +kernel) (by decide +kernel)
            refine wY ?_
            (apply WcN [34] [34]; (focus (exact o_ccall [(1000, 34)] d2 rfl rfl rfl rfl (by repeat (first | exact .nil | refine .cons (.inl ⟨rfl, rfl⟩) ?_ | refine .cons (.inr ⟨rfl, fun _ => Wk.tok⟩) ?_)) (by repeat' (first | exact True.intro | rfl | apply And.intro)) (by repeat' (first | exact True.intro | rfl | apply And.intro)) rfl rfl rfl)); (focus (exact rfl)); (focus (exact rfl)); (focus (first | exact want_n | exact want_g rfl (by with_reducible rfl))))
            refine wY ?_
            (apply WcN [34] [34]; (focus (exact o_ccall [(1000, 34)] d3 rfl rfl rfl rfl (by repeat (first | exact .nil | refine .cons (.inl ⟨rfl, rfl⟩) ?_ | refine .cons (.inr ⟨rfl, fun _ => Wk.tok⟩) ?_)) (by repeat' (first | exact True.intro | rfl | apply And.intro)) (by repeat' (first | exact True.intro | rfl | apply And.intro)) rfl rfl rfl)); (focus (exact rfl)); (focus (exact rfl)); (focus (first | exact want_n | exact want_g rfl (by with_reducible rfl))))
            refine wY ?_
            (apply WcN [34] [34]; (focus (exact o_ccall [(1000, 34)] d5 rfl rfl rfl rfl (by repeat (first | exact .nil | refine .cons (.inl ⟨rfl, rfl⟩) ?_ | refine .cons (.inr ⟨rfl, fun _ => Wk.tok⟩) ?_)) (by repeat' (first | exact True.intro | rfl | apply And.intro)) (by repeat' (first | exact True.intro | rfl | apply And.intro)) rfl rfl rfl)); (focus (exact rfl)); (focus (exact rfl)); (focus (first | exact want_n | exact want_g rfl (by with_reducible rfl))))
            refine wY ?_
            refine ⟨j + 1, by omega, by omega, ?_⟩
            have he : restB ms[j] = leBytes ms[j].add 8 := by unfold restB; rw [if_neg k1, if_pos k3]
            rw [hs, he]
            (refine Go2.sub ⟨?_, ?_, ?_⟩ <;> repeat' (first | exact True.intro | rfl | apply And.intro))
          · refine wY ?_
            (apply WcN [34] [34]; (focus (exact o_ccall [(1000, 34)] d2 rfl rfl rfl rfl (by repeat (first | exact .nil | refine .cons (.inl ⟨rfl, rfl⟩) ?_ | refine .cons (.inr ⟨rfl, fun _ => Wk.tok⟩) ?_)) (by repeat' (first | exact True.intro | rfl | apply And.intro)) (by repeat' (first | exact True.intro | rfl | apply And.intro)) rfl rfl rfl)); (focus (exact rfl)); (focus (exact rfl)); (focus (first | exact want_n | exact want_g rfl (by with_reducible rfl))))
            refine wY ?_
            (apply WcN [34] [34]; (focus (exact o_ccall [(1000, 34)] d3 rfl rfl rfl rfl (by repeat (first | exact .nil | refine .cons (.inl ⟨rfl, rfl⟩) ?_ | refine .cons (.inr ⟨rfl, fun _ => Wk.tok⟩) ?_)) (by repeat' (first | exact True.intro | rfl | apply And.intro)) (by repeat' (first | exact True.intro | rfl | apply And.intro)) rfl rfl rfl)); (focus (exact rfl)); (focus (exact rfl)); (focus (first | exact want_n | exact want_g rfl (by with_reducible rfl))))
            refine wY ?_
            refine ⟨j + 1, by omega, by omega, ?_⟩
            have he : restB ms[j] = [] := by unfold restB; rw [if_neg k1, if_neg k3]
            rw [hs, he, List.append_nil]
            (refine Go2.sub ⟨?_, ?_, ?_⟩ <;> repeat' (first | exact True.intro | rfl | apply And.intro))
      obtain rfl : j = ms.length := by omega
      have hlt' : ¬ (ms.length : Int) < (ms.length : Nat) := by omega
      rw [hX4]
      refine wY ?_
      clear hlt hlt' hj
      refine AW_loopI (fun j : Nat => ⟨[(1, .ptr 1 0 []), (6, .own 34 1 (X4 ++ List.replicate j 0#8).length .row)], [(1, .var (Nd.av ⟨false, es, ks, ps, ms⟩)), (34, .own 5 1 ((X4 ++ List.replicate j 0#8).map byteA))]⟩) (fun j => j ≤ 256 - X4.length) (fun j => 256 - X4.length - j) 0 (Nat.zero_le _) (by rw [List.replicate_zero, List.append_nil]; (refine Go2.sub ⟨?_, ?_, ?_⟩ <;> repeat' (first | exact True.intro | rfl | apply And.intro))) (fun j hj => ?_)
      have hjl : (X4 ++ List.replicate j 0#8).length = X4.length + j := by rw [List.length_append, List.length_replicate]
      by_cases hlt : j < 256 - X4.length
      · have hlt' : ((X4 ++ List.replicate j 0#8).length : Int) < 256 := by omega
        have hs : X4 ++ List.replicate (j + 1) 0#8 = X4 ++ List.replicate j 0#8 ++ [0#8] := by rw [List.replicate_succ', List.append_assoc]
        refine wY ?_
        refine ⟨j + 1, by omega, by omega, ?_⟩
        rw [hs]
        (refine Go2.sub ⟨?_, ?_, ?_⟩ <;> repeat' (first | exact True.intro | rfl | apply And.intro))
      obtain rfl : j = 256 - X4.length := by omega
      have hlt' : ¬ ((X4 ++ List.replicate (256 - X4.length) 0#8).length : Int) < 256 := by omega
      rw [eR] at hlt' ⊢
      refine wY ?_
      clear hlt hlt' hj hjl
      (apply WvN [34]; (focus (exact o_rcall [(1000, 34)] dS rfl rfl rfl rfl rfl (by repeat (first | exact .nil | refine .cons (.inl ⟨rfl, rfl⟩) ?_ | refine .cons (.inr ⟨rfl, fun _ => Wk.tok⟩) ?_)) (by repeat' (first | exact True.intro | rfl | apply And.intro)) (by repeat' (first | exact True.intro | rfl | apply And.intro)) rfl rfl)); (focus (exact rfl)); (focus (first | exact want_n | exact want_g rfl (by with_reducible rfl))))
      refine wY ?_
      refine AW_loopI (fun j : Nat => ⟨[(6, .own 34 1 RAW.length .row), (13, bytesA S4), (14, .v (.int .i64 (j : Nat)))], [(34, .own 5 1 ((put4 RAW 4 (S4.take j)).map byteA))]⟩) (fun j => j ≤ 4) (fun j => 4 - j) 0 (Nat.zero_le _) (by rw [List.take_zero, put4_nil]; (refine Go2.sub ⟨?_, ?_, ?_⟩ <;> repeat' (first | exact True.intro | rfl | apply And.intro))) (fun j hj => ?_)
      have hpl : (put4 RAW 4 (S4.take j)).length = RAW.length := put4_len _ _ _ (by rw [List.length_take]; omega)
      by_cases hlt : j < 4
      · have hlt' : (j : Int) < 4 := by omega
        have hj4 : j < S4.length := by omega
        have hs := put4_set RAW 4 S4 j hj4 (by omega)
        refine wY ?_
        refine ⟨j + 1, by omega, by omega, ?_⟩
        rw [hs]
        (refine Go2.sub ⟨?_, ?_, ?_⟩ <;> repeat' (first | exact True.intro | rfl | apply And.intro))
      obtain rfl : j = 4 := by omega
      have hlt' : ¬ (((4 : Nat) : Int) < 4) := by omega
      rw [List.take_of_length_le (by omega)]
      rw [List.take_of_length_le (by omega)] at hpl
      refine wRG ?_
      refine thenA_n ?_
      refine AW_go (S' := ⟨[(6, .own 34 1 (put4 RAW 4 S4).length .row), (158, .v (.bool (decide (((4 : Nat) : Int) < 4))))], [(34, .own 5 1 ((put4 RAW 4 S4).map byteA))]⟩) (by rw [hpl]; (refine Go2.sub ⟨?_, ?_, ?_⟩ <;> repeat' (first | exact True.intro | rfl | apply And.intro))) ?_
      refine AW_go (Go2.thaw (S' := ⟨[(6, .sl (some 34) 1 ((put4 RAW 4 S4).map byteA)), (158, .v (.bool (decide (((4 : Nat) : Int) < 4))))], [(34, .tail 5 1 ((put4 RAW 4 S4).map byteA).length)]⟩) 34 rfl (by repeat' (first | exact True.intro | rfl | apply And.intro | (simp; done))) (by repeat' (first | exact True.intro | rfl | apply And.intro | (simp; done))) rfl) ?_
      rw [eE]
      refine wY ?_
      exact fin ⟨res_sl rfl, res_of rfl rfl rfl, trivial⟩
end Go.Proofs.Ytcmdhpinelnclaa

namespace Go.Proofs.Ytcmdhpinelnclaa
open Go Go.RowKit
set_option linter.unusedVariables false
set_option linter.unusedSimpArgs false
set_option maxRecDepth 100000

def vByte (k i : Nat) : BitVec 8 := BitVec.ofInt 8 ((k : Int) / 17 + (i : Int) * ((k : Int) / 4352))
def vText (k : Nat) : List (BitVec 8) := (List.range (k % 17)).map (vByte k)
def lawVl (v : Int) : Vl := mkVl (vText (v % 1099511627776).toNat)
theorem vText_len (k : Nat) : (vText k).length = k % 17 := by simp [vText]
theorem lawVl_ok (v : Int) : (lawVl v).ok = true := mkVl_ok _ (by rw [vText_len]; omega)
/-- the row behind j bytes -/
def vRow (k j : Nat) : List (BitVec 8) := (vText k).take j ++ List.replicate (k % 17 - j) 0#8
theorem vRow_zero (k : Nat) : vRow k 0 = List.replicate (k % 17) 0#8 := by simp [vRow]
theorem vRow_end (k : Nat) : vRow k (k % 17) = vText k := by
  unfold vRow
  rw [List.take_of_length_le (by rw [vText_len]; exact Nat.le_refl _)]
  simp
theorem vRow_len (k j : Nat) (h : j ≤ k % 17) : (vRow k j).length = k % 17 := by
  unfold vRow
  rw [List.length_append, List.length_take, List.length_replicate, vText_len]
  omega
theorem vRow_set (k j : Nat) (h : j < k % 17) : (vRow k j).set j (vByte k j) = vRow k (j + 1) := by
  unfold vRow
  have hl : ((vText k).take j).length = j := by rw [List.length_take, vText_len]; omega
  rw [List.set_append, if_neg (by omega), hl, Nat.sub_self, show k % 17 - j = (k % 17 - (j + 1)) + 1 by omega, List.replicate_succ, List.set_cons_zero]
  rw [← List.take_append_getElem (show j < (vText k).length by rw [vText_len]; exact h)]
  simp [vText]
theorem a_refvlof (xs : List (BitVec 8)) (h : xs.length ≤ 16) : AFn Try.prog 78 [.v (.string (bytesOf xs))] (.tup [(mkVl xs).av, intA 0]) := fun U w vs hr => by
  obtain ⟨v1, us, rfl, h1, hr⟩ := rdp_one hr
  obtain rfl := rdp_nil hr
  rw [(Rdv_v.1 h1).2]
  have := refvlof_any xs w
  rw [if_pos h] at this
  exact ofIs this fun w' => by
    rw [Rdv_tup]
    refine ⟨[.agg (mkVl xs).arr, .int .i64 0], rfl, ?_⟩
    simp only [Rdp]
    exact ⟨(mkVl xs).arr.toList, [.int .i64 0], rfl, Vl.rd.2 rfl, [.int .i64 0], [], rfl, (rd_v rfl).2 rfl, rfl⟩
attribute [local irreducible] OpOK AWops AW CondB Go2 AFn thenA inBlockA noGotoA orderOk wantedA
set_option maxRecDepth 100000 in
set_option maxHeartbeats 4000000 in
theorem a_lval (v : Int) (hv : -9223372036854775808 ≤ v ∧ v ≤ 9223372036854775807) : AFn Try.prog 51 [intA v] (lawVl v).av := by
  refine AFn_intro Try.func51 rfl Try.ntmps51 rfl (by simp) [_] rfl fun E hE => ?_
  obtain ⟨k, hk⟩ : ∃ k : Nat, v % 1099511627776 = (k : Int) := ⟨(v % 1099511627776).toNat, by omega⟩
  have hlt : k < 1099511627776 := by omega
  have hlv : lawVl v = mkVl (vText k) := by unfold lawVl; rw [hk]; rfl
  rw [hlv]
  have c1 := a_lplace v 1099511627776 (by omega) (by omega) hv
  rw [hk] at c1
  have c2 := a_refvlof (vText k) (by rw [vText_len]; omega)
  have d1 := acall Try.func19 (c1) (by decide +kernel) (by decide +kernel)
  have d2 := acall Try.func78 (c2) (by decide +kernel) (by decide +kernel)
  refine wS ?_
  refine Wri 13 ((k % 17 : Nat) : Int) rfl (by omega) ?_
  refine wS ?_
  (apply Wb; (focus (exact o_make (f := byteA) (x0 := 0#8) (n := k % 17) rfl rfl rfl rfl rfl rfl (by omega) (by omega))); (focus (first | exact want_n | exact want_g rfl (by with_reducible rfl))))
  refine wS ?_
  refine AW_loopI (fun j : Nat => ⟨[(2, .ptr 2 0 []), (3, intA k), (4, intA (k % 17 : Nat)), (5, .seg 14 0 1 [] (k % 17) (k % 17)), (6, intA j)], [(2, .var Vl.zero.av), (14, .var (.arr (k % 17 * 1) 1 ((vRow k j).map byteA)))]⟩) (fun j => j ≤ k % 17) (fun j => k % 17 - j) 0 (Nat.zero_le _) (by rw [vRow_zero]; (refine Go2.sub ⟨?_, ?_, ?_⟩ <;> repeat' (first | exact True.intro | rfl | apply And.intro))) (fun j hj => ?_)
  by_cases c : j < k % 17
  · have hs := vRow_set k j c
    have hl := vRow_len k j hj
    have hm : (j : Int) * ((k : Int) / 4352) ≤ 17 * 252645136 := by
      have h1 : (j : Int) ≤ 17 := by omega
      have h2 : (k : Int) / 4352 ≤ 252645136 := by omega
      have h3 : 0 ≤ (k : Int) / 4352 := by omega
      exact Int.mul_le_mul h1 h2 h3 (by omega)
    have hm0 : 0 ≤ (j : Int) * ((k : Int) / 4352) := Int.mul_nonneg (by omega) (by omega)
    generalize hmm : (j : Int) * ((k : Int) / 4352) = mm at hm hm0
    refine wS ?_
    (apply Ws; (focus (exact o_stm (f := byteA) (b := vByte k j) rfl (by unfold vByte; rw [hmm]; rfl) rfl (by omega) rfl rfl (fun _ => rfl) rfl rfl)); (focus (first | exact want_n | exact want_g rfl (by with_reducible rfl))))
    refine wS ?_
    refine ⟨j + 1, by omega, by omega, ?_⟩
    (refine Go2.sub ⟨?_, ?_, ?_⟩ <;> repeat' (first | exact True.intro | rfl | apply And.intro))
    all_goals (rw [hs]; rfl)
  · obtain rfl : j = k % 17 := by omega
    rw [vRow_end]
    have hl := vText_len k
    refine AW_go (Go2.froz hE 14 rfl) ?_
    refine AW_go (Go2.seg 5 14 rfl rfl rfl rfl (by simp; omega)) ?_
    refine AW_go (Go2.as 5 (.sl none 1 ((vText k).map byteA)) (by rw [← hl, ← List.length_map (f := byteA), List.take_length]; rfl)) ?_
    refine wS ?_
    exact fin ⟨res_var rfl rfl rfl rfl, trivial⟩
/-- the laws' message by a number -/
def lawMsg (v seq : Int) : Msg :=
  let k := v % 1099511627776
  ⟨1 + k % 3, BitVec.ofInt 64 (seq % 1099511627776), lawKey (k / 4), if k % 3 = 0 then lawVl (k / 64) else Vl.zero, if k % 3 = 2 then BitVec.ofInt 64 (k / 1024) * BitVec.ofInt 64 65537 else 0#64⟩
theorem lawMsg_ok (v seq : Int) : (lawMsg v seq).ok = true := by
  have h0 := Int.emod_nonneg (v % 1099511627776) (show (3 : Int) ≠ 0 by omega)
  have h1 := Int.emod_lt_of_pos (v % 1099511627776) (show (0 : Int) < 3 by omega)
  unfold Msg.ok lawMsg
  simp only [lawKey_ok, Bool.and_true, Bool.and_eq_true, Bool.or_eq_true, decide_eq_true_eq]
  refine ⟨⟨⟨by omega, by omega⟩, ?_⟩, ?_⟩
  · by_cases c : v % 1099511627776 % 3 = 0
    · rw [if_pos (by omega), if_pos c]; exact lawVl_ok _
    · rw [if_neg (by omega), decide_eq_true_eq, if_neg c]
  · by_cases c : v % 1099511627776 % 3 = 2
    · exact .inl (by omega)
    · right; rw [if_neg c]
set_option maxRecDepth 100000 in
set_option maxHeartbeats 4000000 in
theorem a_lmsg (v seq : Int) (hv : -9223372036854775808 ≤ v ∧ v ≤ 9223372036854775807) (hq : -9223372036854775808 ≤ seq ∧ seq ≤ 9223372036854775807) : AFn Try.prog 55 [intA v, intA seq] (lawMsg v seq).av := by
  refine AFn_intro Try.func55 rfl Try.ntmps55 rfl (by simp) [_] rfl fun E hE => ?_
  have h0 := Int.emod_nonneg v (show (1099511627776 : Int) ≠ 0 by omega)
  have h1 := Int.emod_lt_of_pos v (show (0 : Int) < 1099511627776 by omega)
  have c1 := a_lplace v 1099511627776 (by omega) (by omega) hv
  have c2 := a_lplace seq 1099511627776 (by omega) (by omega) hq
  unfold lawMsg
  dsimp only
  generalize v % 1099511627776 = k at h0 h1 c1 ⊢
  have d1 := acall Try.func19 (c1) (by decide +kernel) (by decide +kernel)
  have d2 := acall Try.func19 (c2) (by decide +kernel) (by decide +kernel)
  have d3 := acall Try.func50 (a_lkey (k / 4) (by omega)) (by decide +kernel) (by decide +kernel)
  have d4 := acall Try.func51 (a_lval (k / 64) (by omega)) (by decide +kernel) (by decide +kernel)
  by_cases q0 : k % 3 = 0
  · have e1 : 1 + k % 3 = 1 := by omega
    rw [if_pos q0, if_neg (by omega)]
    refine wS ?_
    exact fin ⟨res_var rfl rfl rfl rfl, trivial⟩
  · have e1 : ¬ 1 + k % 3 = 1 := by omega
    rw [if_neg q0]
    by_cases q2 : k % 3 = 2
    · rw [if_pos q2]
      have e3 : 1 + k % 3 = 3 := by omega
      refine wS ?_
      exact fin ⟨res_var rfl rfl rfl rfl, trivial⟩
    · rw [if_neg q2]
      have e3 : ¬ 1 + k % 3 = 3 := by omega
      refine wS ?_
      exact fin ⟨res_var rfl rfl rfl rfl, trivial⟩
end Go.Proofs.Ytcmdhpinelnclaa

namespace Go.Proofs.Ytcmdhpinelnclaa
open Go Go.RowKit
set_option linter.unusedVariables false
set_option linter.unusedSimpArgs false
set_option maxRecDepth 100000

def msgStep (most : Int) (out : List Msg) (m : Msg) : List Msg := if bSum (bfAdd out m) ≤ most then bfAdd out m else out
def msgsF (l : List Int) (most : Int) : Nat → List Msg
  | 0 => []
  | j + 1 => msgStep most (msgsF l most j) (lawMsg (l.getD j 0) ((j + 1 : Nat) : Int))
def msgList (l : List Int) (most : Int) : List Msg := msgsF l most (min l.length 60)
theorem msgsF_bf (l : List Int) (most : Int) : ∀ j, Bf (msgsF l most j)
  | 0 => bf_nil
  | j + 1 => by
    unfold msgsF msgStep
    split
    · exact bf_add (msgsF_bf l most j) (lawMsg_ok _ _)
    · exact msgsF_bf l most j
theorem msgsF_len (l : List Int) (most : Int) : ∀ j, (msgsF l most j).length ≤ j
  | 0 => Nat.le_refl _
  | j + 1 => by
    have h1 := msgsF_len l most j
    have h2 := add_len (msgsF l most j) (lawMsg (l.getD j 0) ((j + 1 : Nat) : Int))
    unfold msgsF msgStep
    split <;> omega
theorem msgsF_sum (l : List Int) (most : Int) (h0 : 0 ≤ most) : ∀ j, bSum (msgsF l most j) ≤ most
  | 0 => h0
  | j + 1 => by
    unfold msgsF msgStep
    split
    · assumption
    · exact msgsF_sum l most h0 j
theorem msgList_bf (l : List Int) (most : Int) : Bf (msgList l most) := msgsF_bf l most _
theorem msgList_sum (l : List Int) (most : Int) (h0 : 0 ≤ most) : bSum (msgList l most) ≤ most := msgsF_sum l most h0 _
theorem msgList_end (l : List Int) (most : Int) (j : Nat) (h : (j = 60 ∧ j ≤ l.length) ∨ (j = l.length ∧ j ≤ 60)) : msgsF l most j = msgList l most := by
  unfold msgList
  congr 1
  omega
attribute [local irreducible] OpOK AWops AW CondB Go2 AFn thenA inBlockA noGotoA orderOk wantedA
set_option maxRecDepth 100000 in
set_option maxHeartbeats 8000000 in
theorem a_msgs (l : List Int) (most : Int) (hb : ∀ n ∈ l, -9223372036854775808 ≤ n ∧ n ≤ 9223372036854775807) : AFn Try.prog 24 [intsA l, intA most] (msgsA (msgList l most)) := by
  refine AFn_intro Try.func24 rfl Try.ntmps24 rfl (by simp) [_] rfl fun E hE => ?_
  refine wL ?_
  refine AW_go (Go2.nil 5 29 rfl) ?_
  refine AW_loopI (fun j : Nat => ⟨[(0, intsA l), (1, intA most), (5, msgsA (msgsF l most j)), (6, intA j)], []⟩) (fun j => j ≤ l.length ∧ j ≤ 60) (fun j => l.length - j) 0 ⟨Nat.zero_le _, by omega⟩ (by (refine Go2.sub ⟨?_, ?_, ?_⟩ <;> repeat' (first | exact True.intro | rfl | apply And.intro))) (fun j hj => ?_)
  obtain ⟨j1, j2⟩ := hj
  by_cases c : j < l.length
  · by_cases q : j < 60
    · have hx := hb l[j] (List.getElem_mem c)
      have hbf := msgsF_bf l most j
      have hlen := msgsF_len l most j
      have hs : msgsF l most (j + 1) = msgStep most (msgsF l most j) (lawMsg l[j] ((j + 1 : Nat) : Int)) := by
        rw [msgsF]
        rw [List.getD_eq_getElem?_getD, List.getElem?_eq_getElem c]
        rfl
      have hmo := lawMsg_ok l[j] ((j + 1 : Nat) : Int)
      have p1 := a_lmsg l[j] ((j + 1 : Nat) : Int) hx (by omega)
      generalize lawMsg l[j] ((j + 1 : Nat) : Int) = M at hs hmo p1
      have hal := add_len (msgsF l most j) M
      have p2 := a_ref06add (msgsF l most j) M hbf (Msg.spec hmo).2.2.1 (by omega)
      have p3 := a_ref06bytes (bfAdd (msgsF l most j) M) (by omega)
      unfold msgStep at hs
      generalize bfAdd (msgsF l most j) M = more at hs hal p2 p3
      have d1 := acall Try.func55 (p1) (by decide +kernel) (by decide +kernel)
      have d2 := acall Try.func54 (p2) (by decide +kernel) (by decide +kernel)
      have d3 := acall Try.func56 (p3) (by decide +kernel) (by decide +kernel)
      by_cases z : bSum more ≤ most
      · rw [if_pos z] at hs
        refine wL ?_
        refine ⟨j + 1, ⟨c, q⟩, by omega, ?_⟩
        rw [hs]
        (refine Go2.sub ⟨?_, ?_, ?_⟩ <;> repeat' (first | exact True.intro | rfl | apply And.intro))
      · rw [if_neg z] at hs
        refine wL ?_
        refine ⟨j + 1, ⟨c, q⟩, by omega, ?_⟩
        rw [hs]
        (refine Go2.sub ⟨?_, ?_, ?_⟩ <;> repeat' (first | exact True.intro | rfl | apply And.intro))
    · rw [← msgList_end l most j (.inl ⟨by omega, j1⟩)]
      refine wL ?_
      exact fin ⟨res_sl rfl, trivial⟩
  · rw [← msgList_end l most j (.inr ⟨by omega, j2⟩)]
    refine wL ?_
    exact fin ⟨res_sl rfl, trivial⟩
end Go.Proofs.Ytcmdhpinelnclaa

namespace Go.Proofs.Ytcmdhpinelnclaa
open Go Go.RowKit
set_option linter.unusedVariables false
set_option linter.unusedSimpArgs false
set_option maxRecDepth 100000

def entMsg (x : Int) : Msg := ⟨1, 0#64, lawKey (x % 1099511627776), lawVl (x % 1099511627776 / 16), 0#64⟩
theorem entMsg_ok (x : Int) : (entMsg x).ok = true := by
  unfold Msg.ok entMsg
  simp [lawKey_ok, lawVl_ok]
def entStep (most : Int) (out : List Ent) (x : Int) : List Ent := if eSum (lfPut out (entMsg x)) ≤ most then lfPut out (entMsg x) else out
def entsF (l : List Int) (most : Int) (j : Nat) : List Ent := (l.take j).foldl (entStep most) []
def entList (l : List Int) (most : Int) : List Ent := entsF l most 80
theorem entsF_snoc (l : List Int) (most : Int) (j : Nat) (h : j < l.length) : entsF l most (j + 1) = entStep most (entsF l most j) l[j] := by
  unfold entsF
  rw [← List.take_append_getElem h, List.foldl_append]
  rfl
theorem entStep_lf {most : Int} {out : List Ent} {x : Int} (h : Lf out) : Lf (entStep most out x) := by
  unfold entStep
  split
  · exact lf_put h (entMsg_ok x)
  · exact h
theorem entsF_lf (l : List Int) (most : Int) : ∀ j, Lf (entsF l most j) := by
  unfold entsF
  intro j
  have : ∀ (xs : List Int) (out : List Ent), Lf out → Lf (xs.foldl (entStep most) out) := by
    intro xs
    induction xs with
    | nil => intro out h; exact h
    | cons x xs ih => intro out h; exact ih _ (entStep_lf h)
  exact this _ _ lf_nil
theorem entsF_len (l : List Int) (most : Int) (j : Nat) : (entsF l most j).length ≤ j := by
  unfold entsF
  have : ∀ (xs : List Int) (out : List Ent), (xs.foldl (entStep most) out).length ≤ out.length + xs.length := by
    intro xs
    induction xs with
    | nil => intro out; simp
    | cons x xs ih =>
      intro out
      have h1 := ih (entStep most out x)
      have h2 : (entStep most out x).length ≤ out.length + 1 := by
        unfold entStep
        split
        · exact put_len _ _
        · omega
      simp only [List.foldl_cons, List.length_cons]
      omega
  have h := this (l.take j) []
  simp only [List.length_nil, List.length_take] at h
  omega
theorem entsF_sum (l : List Int) (most : Int) (h0 : 0 ≤ most) (j : Nat) : eSum (entsF l most j) ≤ most := by
  unfold entsF
  have : ∀ (xs : List Int) (out : List Ent), eSum out ≤ most → eSum (xs.foldl (entStep most) out) ≤ most := by
    intro xs
    induction xs with
    | nil => intro out h; exact h
    | cons x xs ih =>
      intro out h
      refine ih _ ?_
      unfold entStep
      split
      · assumption
      · exact h
  exact this _ _ h0
theorem entList_end (l : List Int) (most : Int) (j : Nat) (h : j = 80 ∨ (j = l.length ∧ j ≤ 80)) : entsF l most j = entList l most := by
  unfold entList entsF
  rcases h with h | ⟨h1, h2⟩
  · rw [h]
  · rw [List.take_of_length_le (by omega), List.take_of_length_le (by omega)]
theorem entList_lf (l : List Int) (most : Int) : Lf (entList l most) := entsF_lf l most 80
attribute [local irreducible] OpOK AWops AW CondB Go2 AFn thenA inBlockA noGotoA orderOk wantedA
set_option maxRecDepth 100000 in
set_option maxHeartbeats 8000000 in
theorem a_entries (l : List Int) (most : Int) (hb : ∀ n ∈ l, -9223372036854775808 ≤ n ∧ n ≤ 9223372036854775807) : AFn Try.prog 22 [intsA l, intA most] (entsA (entList l most)) := by
  refine AFn_intro Try.func22 rfl Try.ntmps22 rfl (by simp) [_] rfl fun E hE => ?_
  refine wL ?_
  refine AW_go (Go2.nil 5 26 rfl) ?_
  refine AW_loopI (fun j : Nat => ⟨[(0, intsA l), (1, intA most), (5, entsA (entsF l most j)), (6, intA j)], []⟩) (fun j => j ≤ l.length ∧ j ≤ 80) (fun j => l.length - j) 0 ⟨Nat.zero_le _, by omega⟩ (by (refine Go2.sub ⟨?_, ?_, ?_⟩ <;> repeat' (first | exact True.intro | rfl | apply And.intro))) (fun j hj => ?_)
  obtain ⟨j1, j2⟩ := hj
  by_cases c : j < l.length
  · by_cases q : j < 80
    · have hx := hb l[j] (List.getElem_mem c)
      have hs := entsF_snoc l most j c
      have hlf := entsF_lf l most j
      have hlen := entsF_len l most j
      have hlf2 := lf_put hlf (entMsg_ok l[j])
      have hlen2 := put_len (entsF l most j) (entMsg l[j])
      have hm := a_ref07put (entsF l most j) (entMsg l[j]) hlf (Msg.spec (entMsg_ok l[j])).2.2.1 (by omega)
      have hy := a_ref07bytes (lfPut (entsF l most j) (entMsg l[j])) hlf2.ok.bd (by omega)
      have k0 := Int.emod_nonneg l[j] (show (1099511627776 : Int) ≠ 0 by omega)
      have k1 := Int.emod_lt_of_pos l[j] (show (0 : Int) < 1099511627776 by omega)
      unfold entStep at hs
      unfold entMsg at hm hy hs
      have p1 := a_lplace l[j] 1099511627776 (by omega) (by omega) hx
      generalize l[j] % 1099511627776 = k at p1 k0 k1 hm hy hs
      have p2 := a_lkey k (by omega)
      have p3 := a_lval (k / 16) (by omega)
      generalize lfPut (entsF l most j) ⟨1, 0#64, lawKey k, lawVl (k / 16), 0#64⟩ = more at hm hy hs
      have d1 := acall Try.func19 (p1) (by decide +kernel) (by decide +kernel)
      have d2 := acall Try.func50 (p2) (by decide +kernel) (by decide +kernel)
      have d3 := acall Try.func51 (p3) (by decide +kernel) (by decide +kernel)
      have d4 := acall Try.func49 (hm) (by decide +kernel) (by decide +kernel)
      have d5 := acall Try.func52 (hy) (by decide +kernel) (by decide +kernel)
      by_cases z : eSum more ≤ most
      · rw [if_pos z] at hs
        refine wL ?_
        refine ⟨j + 1, ⟨c, q⟩, by omega, ?_⟩
        rw [hs]
        (refine Go2.sub ⟨?_, ?_, ?_⟩ <;> repeat' (first | exact True.intro | rfl | apply And.intro))
      · rw [if_neg z] at hs
        refine wL ?_
        refine ⟨j + 1, ⟨c, q⟩, by omega, ?_⟩
        rw [hs]
        (refine Go2.sub ⟨?_, ?_, ?_⟩ <;> repeat' (first | exact True.intro | rfl | apply And.intro))
    · rw [← entList_end l most j (.inl (by omega))]
      refine wL ?_
      exact fin ⟨res_sl rfl, trivial⟩
  · rw [← entList_end l most j (.inr ⟨by omega, j2⟩)]
    refine wL ?_
    exact fin ⟨res_sl rfl, trivial⟩
end Go.Proofs.Ytcmdhpinelnclaa

namespace Go.Proofs.Ytcmdhpinelnclaa
open Go Go.RowKit
set_option linter.unusedVariables false
set_option linter.unusedSimpArgs false
set_option maxRecDepth 100000

def innerN (p : List Int) (v : Int) (l : List Int) : Nd := ⟨false, [], kidsL v ((pivK (16 :: p) 3).length + 1), pivK (16 :: p) 3, msgList l 205⟩
def leafN (l : List Int) : Nd := ⟨true, entList l 248, [], [], []⟩
theorem res_varl {S : St} {a t g n : Nat} {fs ys : List AV} (ha : S.t a = some (.ptr g 0 [])) (hg : S.h g = some (.var (.agg n fs))) (hs : tabT.sa t = some (true, n)) (hw : ∀ H, WkL H fs ys) : Res1 Try.prog S (.cell a t) (.agg n ys) := ⟨g, .agg n fs, ha, hg, tabT.tyOf hs, Wk.agg (hw _)⟩
def innerM (v : Int) (P : List Key) (S : List Msg) : Nat → St
  | 0 => ⟨[(6, .ptr 6 0 []), (7, .ptr 7 0 []), (8, intA (1 + v % 200)), (9, intA ((0 : Nat) : Int))], [(6, .var (nodeA false nilA nilA nilA nilA)), (7, .var (nodeA false nilA nilA (keysA P) (msgsA S)))]⟩
  | j + 1 => ⟨[(6, .ptr 6 0 []), (7, .ptr 7 0 []), (8, intA (1 + v % 200)), (9, intA ((j + 1 : Nat) : Int))], [(6, .var (nodeA false nilA nilA nilA nilA)), (7, .var (nodeA false nilA (.sl (some 34) 1 ((kidsL v (j + 1)).map intA)) (keysA P) (msgsA S))), (34, .tail 3 1 (kidsL v (j + 1)).length)]⟩
attribute [local irreducible] OpOK AWops AW CondB Go2 AFn thenA inBlockA noGotoA orderOk wantedA
set_option maxRecDepth 100000 in
set_option maxHeartbeats 4000000 in
theorem a_inner (p : List Int) (v : Int) (l : List Int) (hl : p.length ≤ 17592186044400) (hb : ∀ n ∈ p, -9223372036854775808 ≤ n ∧ n ≤ 9223372036854775807) (hv : -9223372036854775808 ≤ v ∧ v ≤ 9223372036854775807) (hlb : ∀ n ∈ l, -9223372036854775808 ≤ n ∧ n ≤ 9223372036854775807) :
    AFn Try.prog 11 [intsA p, intA v, intsA l] (innerN p v l).av := by
  unfold innerN
  refine AFn_intro Try.func11 rfl Try.ntmps11 rfl (by simp) [_] rfl fun E hE => ?_
  have hp := a_pivots (16 :: p) 3 (by simp; omega) (fun n hn => by rcases List.mem_cons.1 hn with rfl | hn; omega; exact hb n hn)
  have hle := pivK_le (16 :: p) 3 (by omega)
  generalize pivK (16 :: p) 3 = P at hp hle ⊢
  have cm := a_msgs l 205 hlb
  generalize msgList l 205 = S at cm ⊢
  have c1 := acall Try.func23 (hp) (by decide +kernel) (by decide +kernel)
  have c2 := acall Try.func24 (cm) (by decide +kernel) (by decide +kernel)
  have c3 := acall Try.func19 (a_lplace v 200 (by omega) (by omega) hv) (by decide +kernel) (by decide +kernel)
  refine wL ?_
  refine AW_loopI (innerM v P S) (fun j => j ≤ P.length + 1) (fun j => P.length + 1 - j) 0 (Nat.zero_le _) (by unfold innerM; (refine Go2.sub ⟨?_, ?_, ?_⟩ <;> repeat' (first | exact True.intro | rfl | apply And.intro))) (fun j hj => ?_)
  have hs := kidsL_succ v j
  have hkl := kidsL_len v j
  by_cases hlt : j ≤ P.length
  · cases j with
    | zero =>
      unfold innerM
      refine wL ?_
      refine ⟨1, by omega, by omega, ?_⟩
      (refine Go2.sub ⟨?_, ?_, ?_⟩ <;> repeat' (first | exact True.intro | rfl | apply And.intro))
    | succ j =>
      unfold innerM
      refine wL ?_
      refine Was 33 (AV.sl (some 33) 1 (List.map intA [1 + v % 200 + 7 * ((j + 1 : Nat) : Int)])) rfl ?_
      refine wL ?_
      refine ⟨j + 2, by omega, by omega, ?_⟩
      (refine Go2.sub ⟨?_, ?_, ?_⟩ <;> repeat' (first | exact True.intro | rfl | apply And.intro))
      all_goals (rw [hs]; rfl)
  · have : j = P.length + 1 := by omega
    subst this
    unfold innerM
    refine wL ?_
    exact fin ⟨res_varl rfl rfl rfl (fun _ => .cons (Wk.data rfl) (.cons Wk.nil (.cons Wk.tok (.cons (Wk.data rfl) (.cons (Wk.data rfl) .nil))))), trivial⟩
set_option maxRecDepth 100000 in
set_option maxHeartbeats 4000000 in
theorem a_lleaf (l : List Int) (hlb : ∀ n ∈ l, -9223372036854775808 ≤ n ∧ n ≤ 9223372036854775807) : AFn Try.prog 10 [intsA l] (leafN l).av := by
  unfold leafN
  refine AFn_intro Try.func10 rfl Try.ntmps10 rfl (by simp) [_] rfl fun E hE => ?_
  have ce := a_entries l 248 hlb
  generalize entList l 248 = L at ce ⊢
  have c1 := acall Try.func22 (ce) (by decide +kernel) (by decide +kernel)
  refine wL ?_
  exact fin ⟨res_varl rfl rfl rfl (fun _ => .cons (Wk.data rfl) (.cons (Wk.data rfl) (.cons Wk.nil (.cons Wk.nil (.cons Wk.nil .nil))))), trivial⟩
end Go.Proofs.Ytcmdhpinelnclaa

namespace Go.Proofs.Ytcmdhpinelnclaa
open Go Go.RowKit
set_option linter.unusedVariables false
set_option linter.unusedSimpArgs false
set_option maxRecDepth 100000

attribute [local irreducible] OpOK AWops AW CondB Go2 AFn thenA inBlockA noGotoA orderOk wantedA
set_option maxRecDepth 100000 in
set_option maxHeartbeats 4000000 in
theorem a_refsame (a b : Nd) (h : a.Sm) : AFn Try.prog 16 [a.av, b.av] (boolA (decide (a = b))) := by
  obtain ⟨l1, es1, ks1, ps1, ms1⟩ := a
  obtain ⟨l2, es2, ks2, ps2, ms2⟩ := b
  dsimp only [Nd.av]
  refine AFn_intro Try.func16 rfl Try.ntmps16 rfl (by simp) [_] rfl fun E hE => ?_
  obtain ⟨h1, h2, h3, h4⟩ := h
  dsimp only at h1 h2 h3 h4
  by_cases q0 : l1 = l2
  · have c0 := a_sameEnts es1 es2 (by omega)
    by_cases q1 : es1 = es2
    · rw [decide_eq_true q1] at c0
      have d0 := acall Try.func39 (c0) (by decide +kernel) (by decide +kernel)
      have c1 := a_sameInts ks1 ks2 (by omega)
      by_cases q2 : ks1 = ks2
      · rw [decide_eq_true q2] at c1
        have d1 := acall Try.func40 (c1) (by decide +kernel) (by decide +kernel)
        have c2 := a_sameKeys ps1 ps2 (by omega)
        by_cases q3 : ps1 = ps2
        · rw [decide_eq_true q3] at c2
          have d2 := acall Try.func41 (c2) (by decide +kernel) (by decide +kernel)
          have c3 := a_sameMsgs ms1 ms2 (by omega)
          by_cases q4 : ms1 = ms2
          · rw [decide_eq_true q4] at c3
            have d3 := acall Try.func42 (c3) (by decide +kernel) (by decide +kernel)
            subst q0 q1 q2 q3 q4
            rw [decide_eq_true rfl]
            cases l1
            · refine wI ?_
              exact fin ⟨res_of rfl rfl rfl, trivial⟩
            · refine wI ?_
              exact fin ⟨res_of rfl rfl rfl, trivial⟩
          · rw [decide_eq_false q4] at c3
            have d3 := acall Try.func42 (c3) (by decide +kernel) (by decide +kernel)
            rw [show decide ((⟨l1, es1, ks1, ps1, ms1⟩ : Nd) = ⟨l2, es2, ks2, ps2, ms2⟩) = false from decide_eq_false fun k => q4 (by injection k)]
            subst q0
            cases l1
            · refine wI ?_
              exact fin ⟨res_of rfl rfl rfl, trivial⟩
            · refine wI ?_
              exact fin ⟨res_of rfl rfl rfl, trivial⟩
        · rw [decide_eq_false q3] at c2
          have d2 := acall Try.func41 (c2) (by decide +kernel) (by decide +kernel)
          rw [show decide ((⟨l1, es1, ks1, ps1, ms1⟩ : Nd) = ⟨l2, es2, ks2, ps2, ms2⟩) = false from decide_eq_false fun k => q3 (by injection k)]
          subst q0
          cases l1
          · refine wI ?_
            exact fin ⟨res_of rfl rfl rfl, trivial⟩
          · refine wI ?_
            exact fin ⟨res_of rfl rfl rfl, trivial⟩
      · rw [decide_eq_false q2] at c1
        have d1 := acall Try.func40 (c1) (by decide +kernel) (by decide +kernel)
        rw [show decide ((⟨l1, es1, ks1, ps1, ms1⟩ : Nd) = ⟨l2, es2, ks2, ps2, ms2⟩) = false from decide_eq_false fun k => q2 (by injection k)]
        subst q0
        cases l1
        · refine wI ?_
          exact fin ⟨res_of rfl rfl rfl, trivial⟩
        · refine wI ?_
          exact fin ⟨res_of rfl rfl rfl, trivial⟩
    · rw [decide_eq_false q1] at c0
      have d0 := acall Try.func39 (c0) (by decide +kernel) (by decide +kernel)
      rw [show decide ((⟨l1, es1, ks1, ps1, ms1⟩ : Nd) = ⟨l2, es2, ks2, ps2, ms2⟩) = false from decide_eq_false fun k => q1 (by injection k)]
      subst q0
      cases l1
      · refine wI ?_
        exact fin ⟨res_of rfl rfl rfl, trivial⟩
      · refine wI ?_
        exact fin ⟨res_of rfl rfl rfl, trivial⟩
  · rw [show decide ((⟨l1, es1, ks1, ps1, ms1⟩ : Nd) = ⟨l2, es2, ks2, ps2, ms2⟩) = false from decide_eq_false fun k => q0 (by injection k)]
    cases l1 <;> cases l2 <;> first | exact absurd rfl q0 | skip
    · refine wI ?_
      exact fin ⟨res_of rfl rfl rfl, trivial⟩
    · refine wI ?_
      exact fin ⟨res_of rfl rfl rfl, trivial⟩
end Go.Proofs.Ytcmdhpinelnclaa

namespace Go.Proofs.Ytcmdhpinelnclaa
open Go Go.RowKit
set_option linter.unusedVariables false
set_option linter.unusedSimpArgs false
set_option maxRecDepth 100000

theorem AFn_weak {P : Program} {f : FuncId} {xs ys : List AV} {r : AV} (h : AFn P f ys r) (hw : ∀ H, WkL H xs ys) : AFn P f xs r := fun U w vs hr => h U w vs ((hw H0).rdp hr)
theorem innerN_ok (p : List Int) (v : Int) (l : List Int) : nodeOk keyCmp (innerN p v l) = true := by
  unfold nodeOk innerOk
  rw [if_neg (show ¬ (innerN p v l).leaf = true from by simp [innerN])]
  rw [show fanOkBy keyCmp (innerN p v l).ks (innerN p v l).ps = true from two_ok v p, show msgsOkB keyCmp (innerN p v l).ms = true from msgsOkB_true (msgList_bf l 205).msgs]
  rfl
theorem innerN_sum (p : List Int) (v : Int) (l : List Int) : bSum (innerN p v l).ms ≤ 205 := msgList_sum l 205 (by omega)
theorem innerN_fits (p : List Int) (v : Int) (l : List Int) : nodeFits (innerN p v l) = true := by
  unfold nodeFits
  rw [innerN_ok]
  have := innerN_sum p v l
  rw [if_neg (show ¬ (innerN p v l).leaf = true from by simp [innerN])]
  rw [Bool.true_and, decide_eq_true_eq]
  unfold ndBytes
  rw [if_neg (show ¬ (innerN p v l).leaf = true from by simp [innerN])]
  exact this
theorem leafN_ok (l : List Int) : nodeOk keyCmp (leafN l) = true := by
  unfold nodeOk leafOk
  rw [if_pos (show (leafN l).leaf = true from rfl)]
  rw [show entsOkB keyCmp (leafN l).es = true from entsOkB_true (entList_lf l 248).ents]
  rfl
theorem leafN_fits (l : List Int) : nodeFits (leafN l) = true := by
  unfold nodeFits ndBytes
  rw [leafN_ok, if_pos (show (leafN l).leaf = true from rfl), if_pos (show (leafN l).leaf = true from rfl), Bool.true_and, decide_eq_true_eq]
  exact entsF_sum l 248 (by omega) 80
/-! ### all weights together -/
def wtsN (p : List Int) (v : Int) (l : List Int) : List Int := wtsAt (innerN p v l) (innerN p v l).ks.length
end Go.Proofs.Ytcmdhpinelnclaa

namespace Go.Proofs.Ytcmdhpinelnclaa
open Go Go.RowKit
set_option linter.unusedVariables false
set_option linter.unusedSimpArgs false
set_option maxRecDepth 100000

/-! ### plain law -/
def Nd.zero : Nd := ⟨false, [], [], [], []⟩
def rdS1 (b : List (BitVec 8)) : Rst := ⟨8, false⟩
def byAt (b : List (BitVec 8)) (i : Nat) : BitVec 8 := b.getD i 0#8
def rdNode (b : List (BitVec 8)) : Nd × Rst :=
  if byAt b 0 = 1#8 then
    (⟨true, (rdMany (rdEnt b) (byAt b 1).toNat ⟨8, false⟩).1, [], [], (rdMany (rdMsg b) (byAt b 2).toNat (rdMany (rdEnt b) (byAt b 1).toNat ⟨8, false⟩).2).1⟩, (rdMany (rdMsg b) (byAt b 2).toNat (rdMany (rdEnt b) (byAt b 1).toNat ⟨8, false⟩).2).2)
  else
    (⟨false, [], (rdMany (rdKid b) (byAt b 1).toNat ⟨8, false⟩).1, (rdMany (rdKey b) ((byAt b 1).toNat - 1) (rdMany (rdKid b) (byAt b 1).toNat ⟨8, false⟩).2).1, (rdMany (rdMsg b) (byAt b 2).toNat (rdMany (rdKey b) ((byAt b 1).toNat - 1) (rdMany (rdKid b) (byAt b 1).toNat ⟨8, false⟩).2).2).1⟩,
     (rdMany (rdMsg b) (byAt b 2).toNat (rdMany (rdKey b) ((byAt b 1).toNat - 1) (rdMany (rdKid b) (byAt b 1).toNat ⟨8, false⟩).2).2).2)
/-- with the sum's own bytes 0 -/
def bareB (b : List (BitVec 8)) : List (BitVec 8) := put4 b 4 (List.replicate 4 0#8)
def sumIn (b : List (BitVec 8)) : List (BitVec 8) := (b.take 8).drop 4
noncomputable def decode (b : List (BitVec 8)) : Nd × Int :=
  if b.length = 256 then
    if sum4 (bareB b) = sumIn b then
      if (rdNode b).2.bad = false ∧ (encode (rdNode b).1).2 = 0 ∧ (encode (rdNode b).1).1 = b then ((rdNode b).1, 0) else (Nd.zero, 4)
    else (Nd.zero, 5)
  else (Nd.zero, 4)
theorem rdNode_sm (b : List (BitVec 8)) : (rdNode b).1.Sm := by
  have h1 := (byAt b 1).isLt
  have h2 := (byAt b 2).isLt
  unfold rdNode
  split
  · exact ⟨by show (rdMany _ _ _).1.length ≤ _; rw [rdMany_len]; omega, Nat.zero_le _, Nat.zero_le _, by show (rdMany _ _ _).1.length ≤ _; rw [rdMany_len]; omega⟩
  · exact ⟨Nat.zero_le _, by show (rdMany _ _ _).1.length ≤ _; rw [rdMany_len]; omega, by show (rdMany _ _ _).1.length ≤ _; rw [rdMany_len]; omega, by show (rdMany _ _ _).1.length ≤ _; rw [rdMany_len]; omega⟩
section
variable {E : Env} {nt : Nat} {ops : Array Oper} {T : Nat → Option AV} {H : Hp} {d : Option Nat} {ty : TypeId} {pos : String} {af : Array Edge} {gd : Option (Nat × Bool)}
theorem beq_bytesB {a b : ByteArray} : (a == b) = true ↔ a = b := by
  cases a with | mk x => cases b with | mk y =>
  show ((x == y) = true) ↔ _
  rw [beq_iff_eq, ByteArray.mk.injEq]
theorem beq_bits (a b : List (BitVec 8)) : ((bytesOf a) == (bytesOf b)) = decide (a = b) := by rw [Bool.eq_iff_iff, beq_bytesB, decide_eq_true_eq, bytesOf_inj]
theorem beq_bitsL (a b : List (BitVec 8)) : ((bytesOf a).toList == (bytesOf b).toList) = decide (a = b) := by rw [← beq_toListBytes, beq_bits]
theorem ob_eqs {t t' : TypeId} {x y : Operand} {a b : List (BitVec 8)} (hd : dOk nt d = true) (hx : evalO T x = some (.v (.string (bytesOf a)))) (hy : evalO T y = some (.v (.string (bytesOf b)))) : OpOK Try.prog E nt ops ⟨d, .binOp .eql t x y t', ty, pos, af, gd⟩ T H [] ⟨boolA (decide (a = b)), []⟩ :=
  ok_bin hd hx hy (fun w => by
    simp only [eqGuard, binOp, Op.stringOp, Sem.run_bind, beq_toListBytes, beq_bitsL]
    rfl) rfl
theorem ob_nes {t t' : TypeId} {x y : Operand} {a b : List (BitVec 8)} (hd : dOk nt d = true) (hx : evalO T x = some (.v (.string (bytesOf a)))) (hy : evalO T y = some (.v (.string (bytesOf b)))) : OpOK Try.prog E nt ops ⟨d, .binOp .neq t x y t', ty, pos, af, gd⟩ T H [] ⟨boolA (!decide (a = b)), []⟩ :=
  ok_bin hd hx hy (fun w => by
    simp only [eqGuard, binOp, Op.stringOp, Sem.run_bind, bne, beq_toListBytes, beq_bitsL]
    rfl) rfl
end
theorem zero_reader : ZeroOk Try.prog 55 (.agg 3 [nilA, intA ((0 : Nat) : Int), boolA false]) := zero_of (v := .agg #[.slice none 0 0, .int .i64 0, .bool false]) (n := 3) (by kernel_rfl) fun U w => by
  simp only [nilA, intA, boolA, Rd, Rds, Value.cells]
  exact ⟨rfl, [_], _, rfl, ⟨rfl, rfl⟩, [_], _, rfl, ⟨rfl, rfl⟩, [_], _, rfl, ⟨rfl, rfl⟩, rfl⟩
theorem zero_refreader : ZeroOk Try.prog 103 (.agg 3 [nilA, intA ((0 : Nat) : Int), boolA false]) := zero_of (v := .agg #[.slice none 0 0, .int .i64 0, .bool false]) (n := 3) (by kernel_rfl) fun U w => by
  simp only [nilA, intA, boolA, Rd, Rds, Value.cells]
  exact ⟨rfl, [_], _, rfl, ⟨rfl, rfl⟩, [_], _, rfl, ⟨rfl, rfl⟩, [_], _, rfl, ⟨rfl, rfl⟩, rfl⟩
theorem wX {Q R : Prop} (k : R) (h : Hid R → Q := by intro kHid; (repeat (first | (first | refine Wend _ ?_ | refine AW_seq ?_ | refine AW_reg ?_ | refine AW_drw mixed ?_ | refine AW_block ?_ | refine AW_scope ?_ | refine thenA_n ?_ | refine blockA_n ?_ | refine blockA_h ?_ | refine scopeA_n ?_ | refine thenA_r ?_ | refine blockA_r ?_ | refine scopeA_r ?_ | refine thenA_e ?_ | refine scopeA_e ?_ | refine blockA_e rfl ?_ | refine AW_exit ?_ | refine AW_ret ?_ | refine AW_skip ?_ | refine AW_c rfl ?_ | with_reducible refine cb_t ?_ | with_reducible refine cb_f ?_ | with_reducible refine cb_yes (by first | assumption | omega) ?_ | with_reducible refine cb_no (by first | assumption | omega) ?_ | refine And.intro (by decide +kernel) ?_) | (first | (apply Wv; (focus (first | exact step_ok rfl rfl | exact ok_nilc rfl rfl | exact o_idx rfl rfl rfl rfl (by first | assumption | omega | decide) | exact o_idx3 rfl rfl rfl rfl (by first | assumption | omega | decide) | exact o_idx2 rfl rfl rfl rfl rfl (by first | assumption | omega | decide | exact Nat.lt_of_lt_of_le (m := 256) (by decide) (by omega)) | exact o_idxr rfl rfl rfl rfl rfl rfl | exact o_lenm rfl rfl rfl | exact o_len rfl rfl rfl | exact o_len0 rfl rfl rfl | exact o_lens rfl rfl rfl | exact o_lent rfl rfl | exact ob_len rfl rfl rfl rfl (by first | rfl | assumption | omega | (simp; done) | (simp; omega)) | exact o_add1 rfl rfl rfl (by omega) | exact o_addn rfl rfl rfl (by omega) | exact o_addc rfl rfl rfl (by omega) (by omega) | exact o_add rfl rfl rfl (by omega) | exact o_sub1 rfl rfl rfl (by omega) | exact o_sub rfl rfl rfl (by omega) | exact o_acall rfl rfl rfl rfl (by assumption) | exact o_convb ⟨_, Try.underlying3⟩ Try.underlying5 rfl rfl | exact o_convu ⟨_, Try.underlying3⟩ Try.underlying71 rfl rfl | exact o_cv32 ⟨_, Try.underlying77⟩ Try.underlying71 rfl rfl | exact o_cvk ⟨_, Try.underlying71⟩ Try.underlying3 rfl rfl | exact o_cv8 ⟨_, Try.underlying5⟩ Try.underlying3 rfl rfl | exact o_convs Try.underlying33 Try.underlying5 Try.underlying9 rfl rfl | exact ob_cutr rfl rfl rfl (by simp) (by decide) | exact ob_cutf rfl rfl rfl rfl rfl rfl (by simp) (by decide) | exact ob_cutfh rfl rfl rfl rfl rfl rfl rfl (by first | assumption | omega) (by simp) (by decide) | exact ok_cut_arr tabT rfl rfl rfl bnd_none (Nat.le_refl _) (by decide) | exact o_cutlh rfl rfl rfl rfl rfl (by omega) (by omega) | exact o_cutl rfl rfl rfl rfl (by omega) | exact o_cuth rfl rfl rfl rfl (by omega) | exact o_cutl3 rfl rfl rfl rfl (by omega) | exact o_cuth3 rfl rfl rfl rfl (by omega) | exact o_cutl2 rfl rfl rfl rfl rfl (by omega) | exact o_cuth2 rfl rfl rfl rfl rfl (by omega) | exact o_cutlh2 rfl rfl rfl rfl rfl rfl rfl (by first | omega | decide) (by first | omega | exact Nat.le_trans (m := 256) (by decide) (by omega)) | exact ob_cutl rfl rfl rfl rfl rfl rfl (by first | rfl | assumption | omega | (simp; done) | (simp; omega)) (by first | rfl | assumption | omega | (simp; done) | (simp; omega)) | exact ob_cutlh rfl rfl rfl rfl rfl rfl rfl rfl (by first | rfl | assumption | omega | (simp; done) | (simp; omega)) (by first | rfl | assumption | omega | (simp; done) | (simp; omega)) (by first | rfl | assumption | omega | (simp; done) | (simp; omega)) | exact ob_idx rfl rfl rfl rfl rfl rfl (by first | rfl | assumption | omega | (simp; done) | (simp; omega)) (by first | rfl | assumption | omega | (simp; done) | (simp; omega)) | exact ob_ld rfl rfl rfl (by first | rfl | assumption | omega | (simp; done) | (simp; omega)) (by first | rfl | assumption | omega | (simp; done) | (simp; omega)) rfl rfl | exact ob_eqs rfl rfl rfl | exact ob_nes rfl rfl rfl | exact o_bld zero_reader rfl rfl rfl rfl rfl rfl rfl | exact o_mkfnF rfl rfl rfl | exact o_bld zero_refreader rfl rfl rfl rfl rfl rfl rfl | exact e_bld rfl rfl rfl | exact e_bldk rfl rfl | exact z_bld0 rfl rfl rfl rfl rfl | exact z_bld rfl rfl rfl rfl rfl rfl rfl | exact o_mkfn rfl rfl rfl | exact o_xorb rfl rfl rfl)); (focus (first | exact want_n | exact want_g rfl (by with_reducible rfl)))) | (apply Wb; (focus (first | exact o_box rfl rfl rfl rfl | exact ob_app rfl rfl rfl rfl rfl (by first | exact o_many rfl | exact o_one _ _ rfl | exact o_zero rfl) (by first | rfl | assumption | omega | (simp; done) | (simp; omega)) (by first | omega | (simp; omega) | (simp; done)) (by first | omega | (simp; omega) | (simp; done)) | exact oo_app0 rfl rfl rfl rfl rfl (by first | exact o_many rfl | exact o_one _ _ rfl | exact o_zero rfl) (by first | omega | (simp; omega) | (simp; done)) (by first | omega | (simp; omega) | (simp; done)) | exact o_app rfl rfl rfl rfl rfl (by first | exact o_many rfl | exact o_one _ _ rfl | exact o_zero rfl) (by first | omega | (simp; omega) | (simp; done)) (by first | omega | (simp; omega) | (simp; done)) | exact o_appn rfl rfl rfl rfl rfl (by first | exact o_many rfl | exact o_one _ _ rfl | exact o_zero rfl) (by first | omega | (simp; omega) | (simp; done)) (by first | omega | (simp; omega) | (simp; done)) | exact o_app1 rfl rfl rfl rfl rfl (by first | exact o_many rfl | exact o_one _ _ rfl | exact o_zero rfl) (by exact rfl) (by first | omega | (simp; omega) | (simp; done)) (by first | omega | (simp; omega) | (simp; done)) | exact o_app0 rfl rfl rfl rfl rfl (by first | exact o_many rfl | exact o_one _ _ rfl | exact o_zero rfl) (by first | omega | (simp; omega) | (simp; done)) (by first | omega | (simp; omega) | (simp; done)) | exact o_bsl0O rfl rfl rfl | exact z_bsll rfl rfl rfl rfl rfl rfl rfl rfl rfl | exact z_alloc rfl rfl rfl | exact ob_copy rfl rfl rfl rfl rfl (by first | rfl | assumption | omega | (simp; done) | (simp; omega)) (by first | rfl | assumption | omega | (simp; done) | (simp; omega)) (by first | rfl | assumption | omega | (simp; done) | (simp; omega)) (by first | rfl | assumption | omega | (simp; done) | (simp; omega)) | exact ob_zeros (f := byteA) (z := 0#8) Try.underlying3 rfl rfl rfl rfl rfl rfl (by omega) (by first | rfl | assumption | omega | (simp; done) | (simp; omega)) (by first | omega | (simp; omega) | (simp; done)) (by first | omega | (simp; omega) | (simp; done)) | exact ob_make (f := byteA) (z := 0#8) rfl rfl rfl rfl rfl rfl rfl rfl (by decide) (by decide))); (focus (first | exact want_n | exact want_g rfl (by with_reducible rfl)))) | (apply Ws; (focus (first | exact ob_st rfl rfl rfl (by first | rfl | assumption | omega | (simp; done) | (simp; omega)) (by first | rfl | assumption | omega | (simp; done) | (simp; omega)) rfl (fun _ => rfl) rfl rfl | exact ob_st0 rfl rfl rfl (by first | rfl | assumption | omega | (simp; done) | (simp; omega)) (by first | rfl | assumption | omega | (simp; done) | (simp; omega)) rfl | exact ok_store tabT (d := none) rfl rfl rfl rfl rfl rfl rfl rfl rfl rfl | exact ob_clear (f := byteA) (z := 0#8) rfl rfl rfl rfl (by first | rfl | assumption | omega | (simp; done) | (simp; omega)) (by first | rfl | assumption | omega | (simp; done) | (simp; omega)) (by first | rfl | assumption | omega | (simp; done) | (simp; omega)))); (focus (first | exact want_n | exact want_g rfl (by with_reducible rfl)))) | (refine Wskip (by first | exact want_f rfl (by with_reducible exact b_nt) | exact want_f rfl (by with_reducible exact b_nf) | exact want_t rfl) rfl ?_) | refine Wgt rfl rfl (by first | assumption | omega | exact rfl) ?_ | refine Wgf rfl rfl (by first | assumption | omega | exact rfl) ?_ | (refine Wgb rfl rfl (by with_reducible assumption) ?_) | (refine cb_is _ (by assumption) ?_)))); exact kHid.out) : Q := h ⟨k⟩
theorem byAt_get {b : List (BitVec 8)} {i : Nat} (h : i < b.length) : b[i] = byAt b i := by unfold byAt; rw [List.getD_eq_getElem?_getD, List.getElem?_eq_getElem h]; rfl
theorem B8_one {x : BitVec 8} : (B8 x = 1) ↔ x = 1#8 := by
  rw [B8_def]
  constructor
  · intro h
    apply BitVec.eq_of_toNat_eq
    have : x.toNat = 1 := by omega
    simpa using this
  · intro h; subst h; rfl
attribute [local irreducible] OpOK AWops AW CondB Go2 AFn thenA inBlockA noGotoA orderOk wantedA
set_option maxRecDepth 100000 in
set_option maxHeartbeats 4000000 in
theorem a_bequal (x y : List (BitVec 8)) : AFn Try.prog 26 [bytesA x, bytesA y] (boolA (decide (x = y))) := by
  refine AFn_intro Try.func26 rfl Try.ntmps26 rfl (by simp) [_] rfl fun E hE => ?_; have hnt : (!true) = false := rfl; have hnf : (!false) = true := rfl
  refine wY ?_
  (apply Wv; (focus (exact ob_eqs rfl rfl rfl)); (focus (first | exact want_n | exact want_g rfl (by with_reducible rfl))))
  refine wY ?_
  exact fin ⟨res_of rfl rfl rfl, trivial⟩
set_option maxRecDepth 100000 in
set_option maxHeartbeats 4000000 in
theorem c_clone (x : List (BitVec 8)) (h0 : 0 < x.length) (hl : x.length ≤ 1000000) : CFn Try.prog 25 [bytesA x] [] (.own 5 1 x.length .row) [(5, .own 5 1 (x.map byteA))] := by
  refine CFn_intro Try.func25 rfl Try.ntmps25 rfl (by simp) [_] rfl fun E hE => ?_; have hnt : (!true) = false := rfl; have hnf : (!false) = true := rfl
  refine wY ?_
  (apply Wv; (focus (exact ok_eqnil rfl rfl rfl rfl (by rw [List.length_map]; exact h0))); (focus (first | exact want_n | exact want_g rfl (by with_reducible rfl))))
  refine wY ?_
  exact finc ⟨⟨(by repeat' (first | exact True.intro | rfl | apply And.intro)), rfl⟩, rc_of rfl rfl rfl, trivial⟩
set_option maxRecDepth 100000 in
set_option maxHeartbeats 16000000 in
theorem a_cdecode (b : List (BitVec 8)) (hb : b.length ≤ 1000000) : AFn Try.prog 14 [bytesA b] (.tup [(decode b).1.av, intA (decode b).2]) := by
  by_cases h256 : b.length = 256
  · have h256' : (b.length : Int) = 256 := by omega
    have eb : (bareB b).length = 256 := by unfold bareB; rw [put4_len _ _ _ (by simp; omega)]; exact h256
    have c0 := c_clone b (by omega) hb
    have c1 := c_csum (bareB b)
    have c2 := a_bequal (sum4 (bareB b)) (sumIn b)
    have f0 : b[0]'(by omega) = byAt b 0 := byAt_get (by omega)
    have f1 : b[1]'(by omega) = byAt b 1 := byAt_get (by omega)
    have f2 : b[2]'(by omega) = byAt b 2 := byAt_get (by omega)
    have el : (bareB b).length = b.length := by omega
    unfold rwO at c1
    rw [el] at c1
    by_cases hs : sum4 (bareB b) = sumIn b
    · rw [decide_eq_true hs] at c2
      unfold sum4 sumIn at c2
      have hsm := rdNode_sm b
      have ce := a_cencode (rdNode b).1 hsm
      have cq := a_bequal (encode (rdNode b).1).1 b
      have hd0 : decode b = if (rdNode b).2.bad = false ∧ (encode (rdNode b).1).2 = 0 ∧ (encode (rdNode b).1).1 = b then ((rdNode b).1, 0) else (Nd.zero, 4) := by
        unfold decode; rw [if_pos h256, if_pos hs]
      rw [hd0]
      clear hd0 hsm
      by_cases hl : byAt b 0 = 1#8
      · have hl' : B8 (b[0]'(by omega)) = 1 := by rw [f0]; exact B8_one.2 hl
        have en : rdNode b = (⟨true, (rdMany (rdEnt b) (byAt b 1).toNat ⟨8, false⟩).1, [], [], (rdMany (rdMsg b) (byAt b 2).toNat (rdMany (rdEnt b) (byAt b 1).toNat ⟨8, false⟩).2).1⟩, (rdMany (rdMsg b) (byAt b 2).toNat (rdMany (rdEnt b) (byAt b 1).toNat ⟨8, false⟩).2).2) := by unfold rdNode; rw [if_pos hl]
        have hp1 := rdMany_pos (rdEnt b) (rdEnt_pos b) ⟨8, false⟩ (byAt b 1).toNat
        have hq1 := (byAt b 1).isLt
        have hq2 := (byAt b 2).isLt
        dsimp only at hp1
        have ca := c_some_ent b ⟨8, false⟩ ((byAt b 1).toNat : Nat) hb (by dsimp only; omega) (by omega)
        rw [Int.toNat_natCast] at ca
        have cm := c_some_msg b (rdMany (rdEnt b) (byAt b 1).toNat ⟨8, false⟩).2 ((byAt b 2).toNat : Nat) hb (by omega) (by omega)
        rw [Int.toNat_natCast] at cm
        rw [en] at ce cq ⊢
        generalize rdMany (rdEnt b) (byAt b 1).toNat ⟨8, false⟩ = RE at *
        obtain ⟨es, s1⟩ := RE
        dsimp only at cm ca ce cq hp1 ⊢
        generalize rdMany (rdMsg b) (byAt b 2).toNat s1 = RM at *
        obtain ⟨ms, ⟨p2, bad2⟩⟩ := RM
        dsimp only at cm ca ce cq ⊢
        clear en
        have ce := AFn_weak ce (xs := [nodeA true (entsA es) nilA nilA (msgsA ms)]) (fun H => .cons (Wk.agg (.cons (Wk.data rfl) (.cons (Wk.data rfl) (.cons Wk.nil (.cons Wk.nil (.cons (Wk.data rfl) .nil)))))) .nil)
        generalize encode ⟨true, es, [], [], ms⟩ = EN at *
        obtain ⟨enb, ene⟩ := EN
        dsimp only at ce cq ⊢
        rw [← f1] at ca
        rw [← f2] at cm
        try unfold bxR at cm
        try dsimp only at cm
        clear hp1 hq1 hq2
        cases bad2 with
        | true =>
          rw [if_neg (by simp)]
          refine AFn_intro Try.func14 rfl Try.ntmps14 rfl (by simp) [_, _] rfl fun E hE => ?_; have hnt : (!true) = false := rfl; have hnf : (!false) = true := rfl
          have d0 := ccall Try.func25 (c0) (by decide +kernel) (by decide +kernel)
          have d1 := ccall Try.func27 (c1) (by decide +kernel) (by decide +kernel)
          have d2 := acall Try.func26 (c2) (by decide +kernel) (by decide +kernel)
          have d3 := ccall Try.func28 (ca) (by decide +kernel) (by decide +kernel)
          have d4 := ccall Try.func34 (cm) (by decide +kernel) (by decide +kernel)
          have d5 := acall Try.func18 (ce) (by decide +kernel) (by decide +kernel)
          have d7 := acall Try.func26 (cq) (by decide +kernel) (by decide +kernel)
          refine wX ?_
          (apply WcN [] [16]; (focus (exact o_ccall [(5, 16)] d0 rfl rfl rfl rfl (by repeat (first | exact .nil | refine .cons (.inl ⟨rfl, rfl⟩) ?_ | refine .cons (.inr ⟨rfl, fun _ => Wk.tok⟩) ?_)) (by repeat' (first | exact True.intro | rfl | apply And.intro)) (by repeat' (first | exact True.intro | rfl | apply And.intro)) rfl rfl rfl)); (focus (exact rfl)); (focus (exact rfl)); (focus (first | exact want_n | exact want_g rfl (by with_reducible rfl))))
          refine wX ?_
          (apply WvN [16]; (focus (exact o_rcall [(1000, 16)] d1 rfl rfl rfl rfl rfl (by repeat (first | exact .nil | refine .cons (.inl ⟨rfl, rfl⟩) ?_ | refine .cons (.inr ⟨rfl, fun _ => Wk.tok⟩) ?_)) (by repeat' (first | exact True.intro | rfl | apply And.intro)) (by repeat' (first | exact True.intro | rfl | apply And.intro)) rfl rfl)); (focus (exact rfl)); (focus (first | exact want_n | exact want_g rfl (by with_reducible rfl))))
          refine wX ?_
          (apply WcN [28] [28]; (focus (exact o_ccalld [(1000, 28)] d3 rfl rfl rfl rfl rfl (by repeat (first | exact .nil | refine .cons (.inl ⟨rfl, rfl⟩) ?_ | refine .cons (.inr ⟨rfl, fun _ => Wk.tok⟩) ?_)) (by repeat' (first | exact True.intro | rfl | apply And.intro)) (by repeat' (first | exact True.intro | rfl | apply And.intro)) rfl rfl)); (focus (exact rfl)); (focus (exact rfl)); (focus (first | exact want_n | exact want_g rfl (by with_reducible rfl))))
          refine wX ?_
          (apply WcN [28] [28]; (focus (exact o_ccalld [(1000, 28)] d4 rfl rfl rfl rfl rfl (by repeat (first | exact .nil | refine .cons (.inl ⟨rfl, rfl⟩) ?_ | refine .cons (.inr ⟨rfl, fun _ => Wk.tok⟩) ?_)) (by repeat' (first | exact True.intro | rfl | apply And.intro)) (by repeat' (first | exact True.intro | rfl | apply And.intro)) rfl rfl)); (focus (exact rfl)); (focus (exact rfl)); (focus (first | exact want_n | exact want_g rfl (by with_reducible rfl))))
          refine wX ?_
          rw [decide_eq_true hl']
          refine Was 66 (nodeA true (entsA es) nilA nilA (msgsA ms)) rfl ?_
          refine wX ?_
          exact fin ⟨res_varl rfl rfl rfl (fun _ => by (repeat (first | exact wkl0 | refine wkd rfl ?_ | refine wkt ?_ | refine wkn ?_))), res_of rfl rfl rfl, trivial⟩
        | false =>
          by_cases he : ene = 0
          · by_cases hq : enb = b
            · rw [if_pos ⟨rfl, he, hq⟩]
              rw [decide_eq_true hq] at cq
              refine AFn_intro Try.func14 rfl Try.ntmps14 rfl (by simp) [_, _] rfl fun E hE => ?_; have hnt : (!true) = false := rfl; have hnf : (!false) = true := rfl
              have d0 := ccall Try.func25 (c0) (by decide +kernel) (by decide +kernel)
              have d1 := ccall Try.func27 (c1) (by decide +kernel) (by decide +kernel)
              have d2 := acall Try.func26 (c2) (by decide +kernel) (by decide +kernel)
              have d3 := ccall Try.func28 (ca) (by decide +kernel) (by decide +kernel)
              have d4 := ccall Try.func34 (cm) (by decide +kernel) (by decide +kernel)
              have d5 := acall Try.func18 (ce) (by decide +kernel) (by decide +kernel)
              have d7 := acall Try.func26 (cq) (by decide +kernel) (by decide +kernel)
              refine wX ?_
              (apply WcN [] [16]; (focus (exact o_ccall [(5, 16)] d0 rfl rfl rfl rfl (by repeat (first | exact .nil | refine .cons (.inl ⟨rfl, rfl⟩) ?_ | refine .cons (.inr ⟨rfl, fun _ => Wk.tok⟩) ?_)) (by repeat' (first | exact True.intro | rfl | apply And.intro)) (by repeat' (first | exact True.intro | rfl | apply And.intro)) rfl rfl rfl)); (focus (exact rfl)); (focus (exact rfl)); (focus (first | exact want_n | exact want_g rfl (by with_reducible rfl))))
              refine wX ?_
              (apply WvN [16]; (focus (exact o_rcall [(1000, 16)] d1 rfl rfl rfl rfl rfl (by repeat (first | exact .nil | refine .cons (.inl ⟨rfl, rfl⟩) ?_ | refine .cons (.inr ⟨rfl, fun _ => Wk.tok⟩) ?_)) (by repeat' (first | exact True.intro | rfl | apply And.intro)) (by repeat' (first | exact True.intro | rfl | apply And.intro)) rfl rfl)); (focus (exact rfl)); (focus (first | exact want_n | exact want_g rfl (by with_reducible rfl))))
              refine wX ?_
              (apply WcN [28] [28]; (focus (exact o_ccalld [(1000, 28)] d3 rfl rfl rfl rfl rfl (by repeat (first | exact .nil | refine .cons (.inl ⟨rfl, rfl⟩) ?_ | refine .cons (.inr ⟨rfl, fun _ => Wk.tok⟩) ?_)) (by repeat' (first | exact True.intro | rfl | apply And.intro)) (by repeat' (first | exact True.intro | rfl | apply And.intro)) rfl rfl)); (focus (exact rfl)); (focus (exact rfl)); (focus (first | exact want_n | exact want_g rfl (by with_reducible rfl))))
              refine wX ?_
              (apply WcN [28] [28]; (focus (exact o_ccalld [(1000, 28)] d4 rfl rfl rfl rfl rfl (by repeat (first | exact .nil | refine .cons (.inl ⟨rfl, rfl⟩) ?_ | refine .cons (.inr ⟨rfl, fun _ => Wk.tok⟩) ?_)) (by repeat' (first | exact True.intro | rfl | apply And.intro)) (by repeat' (first | exact True.intro | rfl | apply And.intro)) rfl rfl)); (focus (exact rfl)); (focus (exact rfl)); (focus (first | exact want_n | exact want_g rfl (by with_reducible rfl))))
              refine wX ?_
              rw [decide_eq_true hl']
              refine Was 66 (nodeA true (entsA es) nilA nilA (msgsA ms)) rfl ?_
              refine wX ?_
              exact fin ⟨res_varl rfl rfl rfl (fun _ => by (repeat (first | exact wkl0 | refine wkd rfl ?_ | refine wkt ?_ | refine wkn ?_))), res_of rfl rfl rfl, trivial⟩
            · rw [if_neg (fun h => hq h.2.2)]
              rw [decide_eq_false hq] at cq
              refine AFn_intro Try.func14 rfl Try.ntmps14 rfl (by simp) [_, _] rfl fun E hE => ?_; have hnt : (!true) = false := rfl; have hnf : (!false) = true := rfl
              have d0 := ccall Try.func25 (c0) (by decide +kernel) (by decide +kernel)
              have d1 := ccall Try.func27 (c1) (by decide +kernel) (by decide +kernel)
              have d2 := acall Try.func26 (c2) (by decide +kernel) (by decide +kernel)
              have d3 := ccall Try.func28 (ca) (by decide +kernel) (by decide +kernel)
              have d4 := ccall Try.func34 (cm) (by decide +kernel) (by decide +kernel)
              have d5 := acall Try.func18 (ce) (by decide +kernel) (by decide +kernel)
              have d7 := acall Try.func26 (cq) (by decide +kernel) (by decide +kernel)
              refine wX ?_
              (apply WcN [] [16]; (focus (exact o_ccall [(5, 16)] d0 rfl rfl rfl rfl (by repeat (first | exact .nil | refine .cons (.inl ⟨rfl, rfl⟩) ?_ | refine .cons (.inr ⟨rfl, fun _ => Wk.tok⟩) ?_)) (by repeat' (first | exact True.intro | rfl | apply And.intro)) (by repeat' (first | exact True.intro | rfl | apply And.intro)) rfl rfl rfl)); (focus (exact rfl)); (focus (exact rfl)); (focus (first | exact want_n | exact want_g rfl (by with_reducible rfl))))
              refine wX ?_
              (apply WvN [16]; (focus (exact o_rcall [(1000, 16)] d1 rfl rfl rfl rfl rfl (by repeat (first | exact .nil | refine .cons (.inl ⟨rfl, rfl⟩) ?_ | refine .cons (.inr ⟨rfl, fun _ => Wk.tok⟩) ?_)) (by repeat' (first | exact True.intro | rfl | apply And.intro)) (by repeat' (first | exact True.intro | rfl | apply And.intro)) rfl rfl)); (focus (exact rfl)); (focus (first | exact want_n | exact want_g rfl (by with_reducible rfl))))
              refine wX ?_
              (apply WcN [28] [28]; (focus (exact o_ccalld [(1000, 28)] d3 rfl rfl rfl rfl rfl (by repeat (first | exact .nil | refine .cons (.inl ⟨rfl, rfl⟩) ?_ | refine .cons (.inr ⟨rfl, fun _ => Wk.tok⟩) ?_)) (by repeat' (first | exact True.intro | rfl | apply And.intro)) (by repeat' (first | exact True.intro | rfl | apply And.intro)) rfl rfl)); (focus (exact rfl)); (focus (exact rfl)); (focus (first | exact want_n | exact want_g rfl (by with_reducible rfl))))
              refine wX ?_
              (apply WcN [28] [28]; (focus (exact o_ccalld [(1000, 28)] d4 rfl rfl rfl rfl rfl (by repeat (first | exact .nil | refine .cons (.inl ⟨rfl, rfl⟩) ?_ | refine .cons (.inr ⟨rfl, fun _ => Wk.tok⟩) ?_)) (by repeat' (first | exact True.intro | rfl | apply And.intro)) (by repeat' (first | exact True.intro | rfl | apply And.intro)) rfl rfl)); (focus (exact rfl)); (focus (exact rfl)); (focus (first | exact want_n | exact want_g rfl (by with_reducible rfl))))
              refine wX ?_
              rw [decide_eq_true hl']
              refine Was 66 (nodeA true (entsA es) nilA nilA (msgsA ms)) rfl ?_
              refine wX ?_
              exact fin ⟨res_varl rfl rfl rfl (fun _ => by (repeat (first | exact wkl0 | refine wkd rfl ?_ | refine wkt ?_ | refine wkn ?_))), res_of rfl rfl rfl, trivial⟩
          · rw [if_neg (fun h => he h.2.1)]
            refine AFn_intro Try.func14 rfl Try.ntmps14 rfl (by simp) [_, _] rfl fun E hE => ?_; have hnt : (!true) = false := rfl; have hnf : (!false) = true := rfl
            have d0 := ccall Try.func25 (c0) (by decide +kernel) (by decide +kernel)
            have d1 := ccall Try.func27 (c1) (by decide +kernel) (by decide +kernel)
            have d2 := acall Try.func26 (c2) (by decide +kernel) (by decide +kernel)
            have d3 := ccall Try.func28 (ca) (by decide +kernel) (by decide +kernel)
            have d4 := ccall Try.func34 (cm) (by decide +kernel) (by decide +kernel)
            have d5 := acall Try.func18 (ce) (by decide +kernel) (by decide +kernel)
            have d7 := acall Try.func26 (cq) (by decide +kernel) (by decide +kernel)
            refine wX ?_
            (apply WcN [] [16]; (focus (exact o_ccall [(5, 16)] d0 rfl rfl rfl rfl (by repeat (first | exact .nil | refine .cons (.inl ⟨rfl, rfl⟩) ?_ | refine .cons (.inr ⟨rfl, fun _ => Wk.tok⟩) ?_)) (by repeat' (first | exact True.intro | rfl | apply And.intro)) (by repeat' (first | exact True.intro | rfl | apply And.intro)) rfl rfl rfl)); (focus (exact rfl)); (focus (exact rfl)); (focus (first | exact want_n | exact want_g rfl (by with_reducible rfl))))
            refine wX ?_
            (apply WvN [16]; (focus (exact o_rcall [(1000, 16)] d1 rfl rfl rfl rfl rfl (by repeat (first | exact .nil | refine .cons (.inl ⟨rfl, rfl⟩) ?_ | refine .cons (.inr ⟨rfl, fun _ => Wk.tok⟩) ?_)) (by repeat' (first | exact True.intro | rfl | apply And.intro)) (by repeat' (first | exact True.intro | rfl | apply And.intro)) rfl rfl)); (focus (exact rfl)); (focus (first | exact want_n | exact want_g rfl (by with_reducible rfl))))
            refine wX ?_
            (apply WcN [28] [28]; (focus (exact o_ccalld [(1000, 28)] d3 rfl rfl rfl rfl rfl (by repeat (first | exact .nil | refine .cons (.inl ⟨rfl, rfl⟩) ?_ | refine .cons (.inr ⟨rfl, fun _ => Wk.tok⟩) ?_)) (by repeat' (first | exact True.intro | rfl | apply And.intro)) (by repeat' (first | exact True.intro | rfl | apply And.intro)) rfl rfl)); (focus (exact rfl)); (focus (exact rfl)); (focus (first | exact want_n | exact want_g rfl (by with_reducible rfl))))
            refine wX ?_
            (apply WcN [28] [28]; (focus (exact o_ccalld [(1000, 28)] d4 rfl rfl rfl rfl rfl (by repeat (first | exact .nil | refine .cons (.inl ⟨rfl, rfl⟩) ?_ | refine .cons (.inr ⟨rfl, fun _ => Wk.tok⟩) ?_)) (by repeat' (first | exact True.intro | rfl | apply And.intro)) (by repeat' (first | exact True.intro | rfl | apply And.intro)) rfl rfl)); (focus (exact rfl)); (focus (exact rfl)); (focus (first | exact want_n | exact want_g rfl (by with_reducible rfl))))
            refine wX ?_
            rw [decide_eq_true hl']
            refine Was 66 (nodeA true (entsA es) nilA nilA (msgsA ms)) rfl ?_
            refine wX ?_
            exact fin ⟨res_varl rfl rfl rfl (fun _ => by (repeat (first | exact wkl0 | refine wkd rfl ?_ | refine wkt ?_ | refine wkn ?_))), res_of rfl rfl rfl, trivial⟩
      · have hl' : ¬ B8 (b[0]'(by omega)) = 1 := by rw [f0]; exact fun h => hl (B8_one.1 h)
        have en : rdNode b = (⟨false, [], (rdMany (rdKid b) (byAt b 1).toNat ⟨8, false⟩).1, (rdMany (rdKey b) ((byAt b 1).toNat - 1) (rdMany (rdKid b) (byAt b 1).toNat ⟨8, false⟩).2).1, (rdMany (rdMsg b) (byAt b 2).toNat (rdMany (rdKey b) ((byAt b 1).toNat - 1) (rdMany (rdKid b) (byAt b 1).toNat ⟨8, false⟩).2).2).1⟩,
          (rdMany (rdMsg b) (byAt b 2).toNat (rdMany (rdKey b) ((byAt b 1).toNat - 1) (rdMany (rdKid b) (byAt b 1).toNat ⟨8, false⟩).2).2).2) := by unfold rdNode; rw [if_neg hl]
        have hp1 := rdMany_pos (rdKid b) (rdKid_pos b) ⟨8, false⟩ (byAt b 1).toNat
        have hp2 := rdMany_pos (rdKey b) (fun s => by have := rdKey_pos b s; omega) (rdMany (rdKid b) (byAt b 1).toNat ⟨8, false⟩).2 ((byAt b 1).toNat - 1)
        have hq1 := (byAt b 1).isLt
        have hq2 := (byAt b 2).isLt
        dsimp only at hp1
        have ca := c_some_kid b ⟨8, false⟩ ((byAt b 1).toNat : Nat) hb (by dsimp only; omega) (by omega)
        rw [Int.toNat_natCast] at ca
        have ck := c_some_key b (rdMany (rdKid b) (byAt b 1).toNat ⟨8, false⟩).2 (((byAt b 1).toNat : Nat) - 1) hb (by omega) (by omega)
        rw [show ((((byAt b 1).toNat : Nat) : Int) - 1).toNat = (byAt b 1).toNat - 1 by omega] at ck
        have cm := c_some_msg b (rdMany (rdKey b) ((byAt b 1).toNat - 1) (rdMany (rdKid b) (byAt b 1).toNat ⟨8, false⟩).2).2 ((byAt b 2).toNat : Nat) hb (by omega) (by omega)
        rw [Int.toNat_natCast] at cm
        rw [en] at ce cq ⊢
        generalize rdMany (rdKid b) (byAt b 1).toNat ⟨8, false⟩ = RE at *
        obtain ⟨ks, s1⟩ := RE
        dsimp only at cm ck ca ce cq hp1 hp2 ⊢
        generalize rdMany (rdKey b) ((byAt b 1).toNat - 1) s1 = RK at *
        obtain ⟨ps, s3⟩ := RK
        dsimp only at cm ck ca ce cq hp2 ⊢
        generalize rdMany (rdMsg b) (byAt b 2).toNat s3 = RM at *
        obtain ⟨ms, ⟨p2, bad2⟩⟩ := RM
        dsimp only at cm ck ca ce cq ⊢
        clear en
        have ce := AFn_weak ce (xs := [nodeA false nilA (intsA ks) (keysA ps) (msgsA ms)]) (fun H => .cons (Wk.agg (.cons (Wk.data rfl) (.cons Wk.nil (.cons (Wk.data rfl) (.cons (Wk.data rfl) (.cons (Wk.data rfl) .nil)))))) .nil)
        generalize encode ⟨false, [], ks, ps, ms⟩ = EN at *
        obtain ⟨enb, ene⟩ := EN
        dsimp only at ce cq ⊢
        rw [← f1] at ca ck
        rw [← f2] at cm
        have hq3 := (b[1]'(by omega)).isLt
        try unfold bxR at cm
        try dsimp only at cm
        clear hp1 hp2 hq1 hq2
        cases bad2 with
        | true =>
          rw [if_neg (by simp)]
          refine AFn_intro Try.func14 rfl Try.ntmps14 rfl (by simp) [_, _] rfl fun E hE => ?_; have hnt : (!true) = false := rfl; have hnf : (!false) = true := rfl
          have d0 := ccall Try.func25 (c0) (by decide +kernel) (by decide +kernel)
          have d1 := ccall Try.func27 (c1) (by decide +kernel) (by decide +kernel)
          have d2 := acall Try.func26 (c2) (by decide +kernel) (by decide +kernel)
          have d3 := ccall Try.func30 (ca) (by decide +kernel) (by decide +kernel)
          have d6 := ccall Try.func32 (ck) (by decide +kernel) (by decide +kernel)
          have d4 := ccall Try.func34 (cm) (by decide +kernel) (by decide +kernel)
          have d5 := acall Try.func18 (ce) (by decide +kernel) (by decide +kernel)
          have d7 := acall Try.func26 (cq) (by decide +kernel) (by decide +kernel)
          refine wX ?_
          (apply WcN [] [16]; (focus (exact o_ccall [(5, 16)] d0 rfl rfl rfl rfl (by repeat (first | exact .nil | refine .cons (.inl ⟨rfl, rfl⟩) ?_ | refine .cons (.inr ⟨rfl, fun _ => Wk.tok⟩) ?_)) (by repeat' (first | exact True.intro | rfl | apply And.intro)) (by repeat' (first | exact True.intro | rfl | apply And.intro)) rfl rfl rfl)); (focus (exact rfl)); (focus (exact rfl)); (focus (first | exact want_n | exact want_g rfl (by with_reducible rfl))))
          refine wX ?_
          (apply WvN [16]; (focus (exact o_rcall [(1000, 16)] d1 rfl rfl rfl rfl rfl (by repeat (first | exact .nil | refine .cons (.inl ⟨rfl, rfl⟩) ?_ | refine .cons (.inr ⟨rfl, fun _ => Wk.tok⟩) ?_)) (by repeat' (first | exact True.intro | rfl | apply And.intro)) (by repeat' (first | exact True.intro | rfl | apply And.intro)) rfl rfl)); (focus (exact rfl)); (focus (first | exact want_n | exact want_g rfl (by with_reducible rfl))))
          refine wX ?_
          (apply WcN [28] [28]; (focus (exact o_ccalld [(1000, 28)] d3 rfl rfl rfl rfl rfl (by repeat (first | exact .nil | refine .cons (.inl ⟨rfl, rfl⟩) ?_ | refine .cons (.inr ⟨rfl, fun _ => Wk.tok⟩) ?_)) (by repeat' (first | exact True.intro | rfl | apply And.intro)) (by repeat' (first | exact True.intro | rfl | apply And.intro)) rfl rfl)); (focus (exact rfl)); (focus (exact rfl)); (focus (first | exact want_n | exact want_g rfl (by with_reducible rfl))))
          refine wX ?_
          (apply WcN [28] [28]; (focus (exact o_ccalld [(1000, 28)] d6 rfl rfl rfl rfl rfl (by repeat (first | exact .nil | refine .cons (.inl ⟨rfl, rfl⟩) ?_ | refine .cons (.inr ⟨rfl, fun _ => Wk.tok⟩) ?_)) (by repeat' (first | exact True.intro | rfl | apply And.intro)) (by repeat' (first | exact True.intro | rfl | apply And.intro)) rfl rfl)); (focus (exact rfl)); (focus (exact rfl)); (focus (first | exact want_n | exact want_g rfl (by with_reducible rfl))))
          refine wX ?_
          (apply WcN [28] [28]; (focus (exact o_ccalld [(1000, 28)] d4 rfl rfl rfl rfl rfl (by repeat (first | exact .nil | refine .cons (.inl ⟨rfl, rfl⟩) ?_ | refine .cons (.inr ⟨rfl, fun _ => Wk.tok⟩) ?_)) (by repeat' (first | exact True.intro | rfl | apply And.intro)) (by repeat' (first | exact True.intro | rfl | apply And.intro)) rfl rfl)); (focus (exact rfl)); (focus (exact rfl)); (focus (first | exact want_n | exact want_g rfl (by with_reducible rfl))))
          refine wX ?_
          rw [decide_eq_false hl']
          refine Was 66 (nodeA false nilA (intsA ks) (keysA ps) (msgsA ms)) rfl ?_
          refine wX ?_
          exact fin ⟨res_varl rfl rfl rfl (fun _ => by (repeat (first | exact wkl0 | refine wkd rfl ?_ | refine wkt ?_ | refine wkn ?_))), res_of rfl rfl rfl, trivial⟩
        | false =>
          by_cases he : ene = 0
          · by_cases hq : enb = b
            · rw [if_pos ⟨rfl, he, hq⟩]
              rw [decide_eq_true hq] at cq
              refine AFn_intro Try.func14 rfl Try.ntmps14 rfl (by simp) [_, _] rfl fun E hE => ?_; have hnt : (!true) = false := rfl; have hnf : (!false) = true := rfl
              have d0 := ccall Try.func25 (c0) (by decide +kernel) (by decide +kernel)
              have d1 := ccall Try.func27 (c1) (by decide +kernel) (by decide +kernel)
              have d2 := acall Try.func26 (c2) (by decide +kernel) (by decide +kernel)
              have d3 := ccall Try.func30 (ca) (by decide +kernel) (by decide +kernel)
              have d6 := ccall Try.func32 (ck) (by decide +kernel) (by decide +kernel)
              have d4 := ccall Try.func34 (cm) (by decide +kernel) (by decide +kernel)
              have d5 := acall Try.func18 (ce) (by decide +kernel) (by decide +kernel)
              have d7 := acall Try.func26 (cq) (by decide +kernel) (by decide +kernel)
              refine wX ?_
              (apply WcN [] [16]; (focus (exact o_ccall [(5, 16)] d0 rfl rfl rfl rfl (by repeat (first | exact .nil | refine .cons (.inl ⟨rfl, rfl⟩) ?_ | refine .cons (.inr ⟨rfl, fun _ => Wk.tok⟩) ?_)) (by repeat' (first | exact True.intro | rfl | apply And.intro)) (by repeat' (first | exact True.intro | rfl | apply And.intro)) rfl rfl rfl)); (focus (exact rfl)); (focus (exact rfl)); (focus (first | exact want_n | exact want_g rfl (by with_reducible rfl))))
              refine wX ?_
              (apply WvN [16]; (focus (exact o_rcall [(1000, 16)] d1 rfl rfl rfl rfl rfl (by repeat (first | exact .nil | refine .cons (.inl ⟨rfl, rfl⟩) ?_ | refine .cons (.inr ⟨rfl, fun _ => Wk.tok⟩) ?_)) (by repeat' (first | exact True.intro | rfl | apply And.intro)) (by repeat' (first | exact True.intro | rfl | apply And.intro)) rfl rfl)); (focus (exact rfl)); (focus (first | exact want_n | exact want_g rfl (by with_reducible rfl))))
              refine wX ?_
              (apply WcN [28] [28]; (focus (exact o_ccalld [(1000, 28)] d3 rfl rfl rfl rfl rfl (by repeat (first | exact .nil | refine .cons (.inl ⟨rfl, rfl⟩) ?_ | refine .cons (.inr ⟨rfl, fun _ => Wk.tok⟩) ?_)) (by repeat' (first | exact True.intro | rfl | apply And.intro)) (by repeat' (first | exact True.intro | rfl | apply And.intro)) rfl rfl)); (focus (exact rfl)); (focus (exact rfl)); (focus (first | exact want_n | exact want_g rfl (by with_reducible rfl))))
              refine wX ?_
              (apply WcN [28] [28]; (focus (exact o_ccalld [(1000, 28)] d6 rfl rfl rfl rfl rfl (by repeat (first | exact .nil | refine .cons (.inl ⟨rfl, rfl⟩) ?_ | refine .cons (.inr ⟨rfl, fun _ => Wk.tok⟩) ?_)) (by repeat' (first | exact True.intro | rfl | apply And.intro)) (by repeat' (first | exact True.intro | rfl | apply And.intro)) rfl rfl)); (focus (exact rfl)); (focus (exact rfl)); (focus (first | exact want_n | exact want_g rfl (by with_reducible rfl))))
              refine wX ?_
              (apply WcN [28] [28]; (focus (exact o_ccalld [(1000, 28)] d4 rfl rfl rfl rfl rfl (by repeat (first | exact .nil | refine .cons (.inl ⟨rfl, rfl⟩) ?_ | refine .cons (.inr ⟨rfl, fun _ => Wk.tok⟩) ?_)) (by repeat' (first | exact True.intro | rfl | apply And.intro)) (by repeat' (first | exact True.intro | rfl | apply And.intro)) rfl rfl)); (focus (exact rfl)); (focus (exact rfl)); (focus (first | exact want_n | exact want_g rfl (by with_reducible rfl))))
              refine wX ?_
              rw [decide_eq_false hl']
              refine Was 66 (nodeA false nilA (intsA ks) (keysA ps) (msgsA ms)) rfl ?_
              refine wX ?_
              exact fin ⟨res_varl rfl rfl rfl (fun _ => by (repeat (first | exact wkl0 | refine wkd rfl ?_ | refine wkt ?_ | refine wkn ?_))), res_of rfl rfl rfl, trivial⟩
            · rw [if_neg (fun h => hq h.2.2)]
              rw [decide_eq_false hq] at cq
              refine AFn_intro Try.func14 rfl Try.ntmps14 rfl (by simp) [_, _] rfl fun E hE => ?_; have hnt : (!true) = false := rfl; have hnf : (!false) = true := rfl
              have d0 := ccall Try.func25 (c0) (by decide +kernel) (by decide +kernel)
              have d1 := ccall Try.func27 (c1) (by decide +kernel) (by decide +kernel)
              have d2 := acall Try.func26 (c2) (by decide +kernel) (by decide +kernel)
              have d3 := ccall Try.func30 (ca) (by decide +kernel) (by decide +kernel)
              have d6 := ccall Try.func32 (ck) (by decide +kernel) (by decide +kernel)
              have d4 := ccall Try.func34 (cm) (by decide +kernel) (by decide +kernel)
              have d5 := acall Try.func18 (ce) (by decide +kernel) (by decide +kernel)
              have d7 := acall Try.func26 (cq) (by decide +kernel) (by decide +kernel)
              refine wX ?_
              (apply WcN [] [16]; (focus (exact o_ccall [(5, 16)] d0 rfl rfl rfl rfl (by repeat (first | exact .nil | refine .cons (.inl ⟨rfl, rfl⟩) ?_ | refine .cons (.inr ⟨rfl, fun _ => Wk.tok⟩) ?_)) (by repeat' (first | exact True.intro | rfl | apply And.intro)) (by repeat' (first | exact True.intro | rfl | apply And.intro)) rfl rfl rfl)); (focus (exact rfl)); (focus (exact rfl)); (focus (first | exact want_n | exact want_g rfl (by with_reducible rfl))))
              refine wX ?_
              (apply WvN [16]; (focus (exact o_rcall [(1000, 16)] d1 rfl rfl rfl rfl rfl (by repeat (first | exact .nil | refine .cons (.inl ⟨rfl, rfl⟩) ?_ | refine .cons (.inr ⟨rfl, fun _ => Wk.tok⟩) ?_)) (by repeat' (first | exact True.intro | rfl | apply And.intro)) (by repeat' (first | exact True.intro | rfl | apply And.intro)) rfl rfl)); (focus (exact rfl)); (focus (first | exact want_n | exact want_g rfl (by with_reducible rfl))))
              refine wX ?_
              (apply WcN [28] [28]; (focus (exact o_ccalld [(1000, 28)] d3 rfl rfl rfl rfl rfl (by repeat (first | exact .nil | refine .cons (.inl ⟨rfl, rfl⟩) ?_ | refine .cons (.inr ⟨rfl, fun _ => Wk.tok⟩) ?_)) (by repeat' (first | exact True.intro | rfl | apply And.intro)) (by repeat' (first | exact True.intro | rfl | apply And.intro)) rfl rfl)); (focus (exact rfl)); (focus (exact rfl)); (focus (first | exact want_n | exact want_g rfl (by with_reducible rfl))))
              refine wX ?_
              (apply WcN [28] [28]; (focus (exact o_ccalld [(1000, 28)] d6 rfl rfl rfl rfl rfl (by repeat (first | exact .nil | refine .cons (.inl ⟨rfl, rfl⟩) ?_ | refine .cons (.inr ⟨rfl, fun _ => Wk.tok⟩) ?_)) (by repeat' (first | exact True.intro | rfl | apply And.intro)) (by repeat' (first | exact True.intro | rfl | apply And.intro)) rfl rfl)); (focus (exact rfl)); (focus (exact rfl)); (focus (first | exact want_n | exact want_g rfl (by with_reducible rfl))))
              refine wX ?_
              (apply WcN [28] [28]; (focus (exact o_ccalld [(1000, 28)] d4 rfl rfl rfl rfl rfl (by repeat (first | exact .nil | refine .cons (.inl ⟨rfl, rfl⟩) ?_ | refine .cons (.inr ⟨rfl, fun _ => Wk.tok⟩) ?_)) (by repeat' (first | exact True.intro | rfl | apply And.intro)) (by repeat' (first | exact True.intro | rfl | apply And.intro)) rfl rfl)); (focus (exact rfl)); (focus (exact rfl)); (focus (first | exact want_n | exact want_g rfl (by with_reducible rfl))))
              refine wX ?_
              rw [decide_eq_false hl']
              refine Was 66 (nodeA false nilA (intsA ks) (keysA ps) (msgsA ms)) rfl ?_
              refine wX ?_
              exact fin ⟨res_varl rfl rfl rfl (fun _ => by (repeat (first | exact wkl0 | refine wkd rfl ?_ | refine wkt ?_ | refine wkn ?_))), res_of rfl rfl rfl, trivial⟩
          · rw [if_neg (fun h => he h.2.1)]
            refine AFn_intro Try.func14 rfl Try.ntmps14 rfl (by simp) [_, _] rfl fun E hE => ?_; have hnt : (!true) = false := rfl; have hnf : (!false) = true := rfl
            have d0 := ccall Try.func25 (c0) (by decide +kernel) (by decide +kernel)
            have d1 := ccall Try.func27 (c1) (by decide +kernel) (by decide +kernel)
            have d2 := acall Try.func26 (c2) (by decide +kernel) (by decide +kernel)
            have d3 := ccall Try.func30 (ca) (by decide +kernel) (by decide +kernel)
            have d6 := ccall Try.func32 (ck) (by decide +kernel) (by decide +kernel)
            have d4 := ccall Try.func34 (cm) (by decide +kernel) (by decide +kernel)
            have d5 := acall Try.func18 (ce) (by decide +kernel) (by decide +kernel)
            have d7 := acall Try.func26 (cq) (by decide +kernel) (by decide +kernel)
            refine wX ?_
            (apply WcN [] [16]; (focus (exact o_ccall [(5, 16)] d0 rfl rfl rfl rfl (by repeat (first | exact .nil | refine .cons (.inl ⟨rfl, rfl⟩) ?_ | refine .cons (.inr ⟨rfl, fun _ => Wk.tok⟩) ?_)) (by repeat' (first | exact True.intro | rfl | apply And.intro)) (by repeat' (first | exact True.intro | rfl | apply And.intro)) rfl rfl rfl)); (focus (exact rfl)); (focus (exact rfl)); (focus (first | exact want_n | exact want_g rfl (by with_reducible rfl))))
            refine wX ?_
            (apply WvN [16]; (focus (exact o_rcall [(1000, 16)] d1 rfl rfl rfl rfl rfl (by repeat (first | exact .nil | refine .cons (.inl ⟨rfl, rfl⟩) ?_ | refine .cons (.inr ⟨rfl, fun _ => Wk.tok⟩) ?_)) (by repeat' (first | exact True.intro | rfl | apply And.intro)) (by repeat' (first | exact True.intro | rfl | apply And.intro)) rfl rfl)); (focus (exact rfl)); (focus (first | exact want_n | exact want_g rfl (by with_reducible rfl))))
            refine wX ?_
            (apply WcN [28] [28]; (focus (exact o_ccalld [(1000, 28)] d3 rfl rfl rfl rfl rfl (by repeat (first | exact .nil | refine .cons (.inl ⟨rfl, rfl⟩) ?_ | refine .cons (.inr ⟨rfl, fun _ => Wk.tok⟩) ?_)) (by repeat' (first | exact True.intro | rfl | apply And.intro)) (by repeat' (first | exact True.intro | rfl | apply And.intro)) rfl rfl)); (focus (exact rfl)); (focus (exact rfl)); (focus (first | exact want_n | exact want_g rfl (by with_reducible rfl))))
            refine wX ?_
            (apply WcN [28] [28]; (focus (exact o_ccalld [(1000, 28)] d6 rfl rfl rfl rfl rfl (by repeat (first | exact .nil | refine .cons (.inl ⟨rfl, rfl⟩) ?_ | refine .cons (.inr ⟨rfl, fun _ => Wk.tok⟩) ?_)) (by repeat' (first | exact True.intro | rfl | apply And.intro)) (by repeat' (first | exact True.intro | rfl | apply And.intro)) rfl rfl)); (focus (exact rfl)); (focus (exact rfl)); (focus (first | exact want_n | exact want_g rfl (by with_reducible rfl))))
            refine wX ?_
            (apply WcN [28] [28]; (focus (exact o_ccalld [(1000, 28)] d4 rfl rfl rfl rfl rfl (by repeat (first | exact .nil | refine .cons (.inl ⟨rfl, rfl⟩) ?_ | refine .cons (.inr ⟨rfl, fun _ => Wk.tok⟩) ?_)) (by repeat' (first | exact True.intro | rfl | apply And.intro)) (by repeat' (first | exact True.intro | rfl | apply And.intro)) rfl rfl)); (focus (exact rfl)); (focus (exact rfl)); (focus (first | exact want_n | exact want_g rfl (by with_reducible rfl))))
            refine wX ?_
            rw [decide_eq_false hl']
            refine Was 66 (nodeA false nilA (intsA ks) (keysA ps) (msgsA ms)) rfl ?_
            refine wX ?_
            exact fin ⟨res_varl rfl rfl rfl (fun _ => by (repeat (first | exact wkl0 | refine wkd rfl ?_ | refine wkt ?_ | refine wkn ?_))), res_of rfl rfl rfl, trivial⟩
    · rw [decide_eq_false hs] at c2
      unfold sum4 sumIn at c2
      have hd0 : decode b = (Nd.zero, 5) := by unfold decode; rw [if_pos h256, if_neg hs]
      rw [hd0]
      refine AFn_intro Try.func14 rfl Try.ntmps14 rfl (by simp) [_, _] rfl fun E hE => ?_; have hnt : (!true) = false := rfl; have hnf : (!false) = true := rfl
      have d0 := ccall Try.func25 (c0) (by decide +kernel) (by decide +kernel)
      have d1 := ccall Try.func27 (c1) (by decide +kernel) (by decide +kernel)
      have d2 := acall Try.func26 (c2) (by decide +kernel) (by decide +kernel)
      refine wX ?_
      (apply WcN [] [16]; (focus (exact o_ccall [(5, 16)] d0 rfl rfl rfl rfl (by repeat (first | exact .nil | refine .cons (.inl ⟨rfl, rfl⟩) ?_ | refine .cons (.inr ⟨rfl, fun _ => Wk.tok⟩) ?_)) (by repeat' (first | exact True.intro | rfl | apply And.intro)) (by repeat' (first | exact True.intro | rfl | apply And.intro)) rfl rfl rfl)); (focus (exact rfl)); (focus (exact rfl)); (focus (first | exact want_n | exact want_g rfl (by with_reducible rfl))))
      refine wX ?_
      (apply WvN [16]; (focus (exact o_rcall [(1000, 16)] d1 rfl rfl rfl rfl rfl (by repeat (first | exact .nil | refine .cons (.inl ⟨rfl, rfl⟩) ?_ | refine .cons (.inr ⟨rfl, fun _ => Wk.tok⟩) ?_)) (by repeat' (first | exact True.intro | rfl | apply And.intro)) (by repeat' (first | exact True.intro | rfl | apply And.intro)) rfl rfl)); (focus (exact rfl)); (focus (first | exact want_n | exact want_g rfl (by with_reducible rfl))))
      refine wX ?_
      exact fin ⟨res_varl rfl rfl rfl (fun _ => by (repeat (first | exact wkl0 | refine wkd rfl ?_ | refine wkt ?_ | refine wkn ?_))), res_of rfl rfl rfl, trivial⟩
  · have h256' : ¬ (b.length : Int) = 256 := by omega
    have e1 : decode b = (Nd.zero, 4) := by unfold decode; rw [if_neg h256]
    rw [e1]
    refine AFn_intro Try.func14 rfl Try.ntmps14 rfl (by simp) [_, _] rfl fun E hE => ?_; have hnt : (!true) = false := rfl; have hnf : (!false) = true := rfl
    refine wX ?_
    exact fin ⟨res_varl rfl rfl rfl (fun _ => by (repeat (first | exact wkl0 | refine wkd rfl ?_ | refine wkt ?_ | refine wkn ?_))), res_of rfl rfl rfl, trivial⟩
end Go.Proofs.Ytcmdhpinelnclaa

namespace Go.Proofs.Ytcmdhpinelnclaa
open Go Go.RowKit
set_option linter.unusedVariables false
set_option linter.unusedSimpArgs false
set_option maxRecDepth 100000

/-! ### plain law -/
def fN (b : List (BitVec 8)) (s : Rst) (w : Nat) : BitVec 64 × Rst := if s.bad = false ∧ s.pos + w ≤ b.length then (numAt b s.pos w, ⟨s.pos + w, false⟩) else (0#64, ⟨s.pos, true⟩)
def fT (b : List (BitVec 8)) (s : Rst) (m : Nat) : List (BitVec 8) × Rst :=
  if s.bad = false ∧ s.pos + 1 ≤ b.length ∧ cnt b s.pos ≤ m ∧ s.pos + 1 + cnt b s.pos ≤ b.length then (seg b (s.pos + 1) (cnt b s.pos), ⟨s.pos + 1 + cnt b s.pos, false⟩) else ([], ⟨(fN b s 1).2.pos, true⟩)
def fKey (b : List (BitVec 8)) (s : Rst) : Key × Rst := (mkKey (fT b s 8).1, (fT b s 8).2)
def fVl (b : List (BitVec 8)) (s : Rst) : Vl × Rst := (mkVl (fT b s 16).1, (fT b s 16).2)
def fKid (b : List (BitVec 8)) (s : Rst) : Int × Rst := ((fN b s 4).1.toInt, (fN b s 4).2)
def fEnt (b : List (BitVec 8)) (s : Rst) : Ent × Rst := (⟨(fKey b s).1, (fVl b (fKey b s).2).1⟩, (fVl b (fKey b s).2).2)
def fRest (b : List (BitVec 8)) (k : Int) (s : Rst) : (Vl × BitVec 64) × Rst := if k = 1 then (((fVl b s).1, 0#64), (fVl b s).2) else if k = 3 then ((Vl.zero, (fN b s 8).1), (fN b s 8).2) else ((Vl.zero, 0#64), s)
def fmK (b : List (BitVec 8)) (s : Rst) : Int := (fN b s 1).1.toInt
def fmS1 (b : List (BitVec 8)) (s : Rst) : Rst := (fN b s 1).2
def fmS2 (b : List (BitVec 8)) (s : Rst) : Rst := (fN b (fmS1 b s) 8).2
def fmS3 (b : List (BitVec 8)) (s : Rst) : Rst := (fKey b (fmS2 b s)).2
def fMsg (b : List (BitVec 8)) (s : Rst) : Msg × Rst := (⟨fmK b s, (fN b (fmS1 b s) 8).1, (fKey b (fmS2 b s)).1, (fRest b (fmK b s) (fmS3 b s)).1.1, (fRest b (fmK b s) (fmS3 b s)).1.2⟩, (fRest b (fmK b s) (fmS3 b s)).2)
/-! ### walks -/
section
variable {E : Env} {nt : Nat} {ops : Array Oper} {T : Nat → Option AV} {H : Hp} {d : Option Nat} {ty : TypeId} {pos : String} {af : Array Edge} {gd : Option (Nat × Bool)}
end
attribute [local irreducible] OpOK AWops AW CondB Go2 AFn thenA inBlockA noGotoA orderOk wantedA
end Go.Proofs.Ytcmdhpinelnclaa

namespace Go.Proofs.Ytcmdhpinelnclaa
open Go Go.RowKit
set_option linter.unusedVariables false
set_option linter.unusedSimpArgs false
set_option maxRecDepth 100000

/-- x' is x, nil being a row to be appended to -/
def TokW (g n : Nat) (e : TypeId) (x x' : AV) : Prop := ∀ (U : Uns) (w : World) (B : Blk) (H : Hp) (c : List Value), H g = some (.tail e n 0) → B g = none → Rd U w x B H c → Rd U w x' B H c
inductive TokL (g n : Nat) : List AV → List AV → Prop
  | nil : TokL g n [] []
  | same {x : AV} {xs ys : List AV} (t : TokL g n xs ys) : TokL g n (x :: xs) (x :: ys)
  | tok {xs ys : List AV} (t : TokL g n xs ys) : TokL g n (.v (.slice none 0 0) :: xs) (.sl (some g) n [] :: ys)
theorem TokL.rds {g n : Nat} {e : TypeId} {U : Uns} {w : World} {B : Blk} {H : Hp} (hg : H g = some (.tail e n 0)) (hb : B g = none) {xs ys : List AV} (h : TokL g n xs ys) : ∀ {c : List Value}, Rds U w xs B H c → Rds U w ys B H c := by
  induction h with
  | nil => exact fun h => h
  | same t ih =>
    intro c hr
    simp only [Rds] at hr ⊢
    obtain ⟨c1, c2, rfl, h1, h2⟩ := hr
    exact ⟨c1, c2, rfl, h1, ih h2⟩
  | tok t ih =>
    intro c hr
    simp only [Rds] at hr ⊢
    obtain ⟨c1, c2, rfl, h1, h2⟩ := hr
    refine ⟨c1, c2, rfl, ?_, ih h2⟩
    simp only [Rd] at h1
    obtain ⟨_, rfl⟩ := h1
    exact nil_token hg hb
theorem TokL.agg {g n m : Nat} {e : TypeId} {xs ys : List AV} (h : TokL g n xs ys) : TokW g n e (.agg m xs) (.agg m ys) := fun U w B H c hg hb hr => by
  simp only [Rd] at hr ⊢
  exact ⟨hr.1, h.rds hg hb hr.2⟩
attribute [local irreducible] OpOK AWops AW CondB Go2 AFn thenA inBlockA noGotoA orderOk wantedA
end Go.Proofs.Ytcmdhpinelnclaa

namespace Go.Proofs.Ytcmdhpinelnclaa
open Go Go.RowKit
set_option linter.unusedVariables false
set_option linter.unusedSimpArgs false
set_option maxRecDepth 100000

section
variable {P : Program} {E : Env} {nt : Nat} {c : Code} {S : St} {Q : Exit → St → Prop}
end
def fNode (b : List (BitVec 8)) : Nd × Rst :=
  if byAt b 0 = 1#8 then
    (⟨true, (rdMany (fEnt b) (byAt b 1).toNat ⟨8, false⟩).1, [], [], (rdMany (fMsg b) (byAt b 2).toNat (rdMany (fEnt b) (byAt b 1).toNat ⟨8, false⟩).2).1⟩, (rdMany (fMsg b) (byAt b 2).toNat (rdMany (fEnt b) (byAt b 1).toNat ⟨8, false⟩).2).2)
  else
    (⟨false, [], (rdMany (fKid b) (byAt b 1).toNat ⟨8, false⟩).1, (rdMany (fKey b) ((byAt b 1).toNat - 1) (rdMany (fKid b) (byAt b 1).toNat ⟨8, false⟩).2).1, (rdMany (fMsg b) (byAt b 2).toNat (rdMany (fKey b) ((byAt b 1).toNat - 1) (rdMany (fKid b) (byAt b 1).toNat ⟨8, false⟩).2).2).1⟩,
     (rdMany (fMsg b) (byAt b 2).toNat (rdMany (fKey b) ((byAt b 1).toNat - 1) (rdMany (fKid b) (byAt b 1).toNat ⟨8, false⟩).2).2).2)
def fRead (b : List (BitVec 8)) : Nd := if (fNode b).2.bad = true then Nd.zero else (fNode b).1
attribute [local irreducible] OpOK AWops AW CondB Go2 AFn thenA inBlockA noGotoA orderOk wantedA
end Go.Proofs.Ytcmdhpinelnclaa

namespace Go.Proofs.Ytcmdhpinelnclaa
open Go Go.RowKit
set_option linter.unusedVariables false
set_option linter.unusedSimpArgs false
set_option maxRecDepth 100000

/-! ### both readers -/
def Sim {α : Type} (p r : α × Rst) : Prop := p.2.bad = r.2.bad ∧ (p.2.bad = false → p = r)
theorem Sim.map {α β : Type} {p r : α × Rst} (g : α → β) (h : Sim p r) : Sim (g p.1, p.2) (g r.1, r.2) := ⟨h.1, fun k => by rw [h.2 k]⟩
/-- one behind the other -/
theorem Sim.bind {α β γ : Type} {p r : α × Rst} (h : Sim p r) (f g : α → Rst → β × Rst) (hf : ∀ a s, s.bad = true → (f a s).2.bad = true) (hg : ∀ a s, s.bad = true → (g a s).2.bad = true) (hs : ∀ a s, s.bad = false → Sim (f a s) (g a s)) (k : α → β → γ) :
    Sim (k p.1 (f p.1 p.2).1, (f p.1 p.2).2) (k r.1 (g r.1 r.2).1, (g r.1 r.2).2) := by
  obtain ⟨h1, h2⟩ := h
  cases hb : p.2.bad with
  | true =>
    have hb' : r.2.bad = true := by rw [← h1]; exact hb
    have e1 := hf p.1 p.2 hb
    have e2 := hg r.1 r.2 hb'
    exact ⟨by show (f p.1 p.2).2.bad = (g r.1 r.2).2.bad; rw [e1, e2], fun k => by have k' : (f p.1 p.2).2.bad = false := k; rw [e1] at k'; cases k'⟩
  | false =>
    have e := h2 hb
    rw [← e]
    have hs' := hs p.1 p.2 hb
    exact ⟨hs'.1, fun k => by have k' : (f p.1 p.2).2.bad = false := k; rw [hs'.2 k']⟩
theorem zero_nofit : nodeFits Nd.zero = false := by unfold nodeFits nodeOk innerOk fanOkBy Nd.zero; simp
theorem zero_sm : Nd.zero.Sm := ⟨Nat.zero_le _, Nat.zero_le _, Nat.zero_le _, Nat.zero_le _⟩
/-! ### sums -/
theorem leNum_four (x : BitVec 32) : leNum (leBytes (x.setWidth 64) 4) = x.setWidth 64 := by
  apply BitVec.eq_of_getLsbD_eq
  intro i hi
  rw [leNum_leBytes _ _ _ hi, BitVec.getLsbD_setWidth]
  by_cases c : i < 32
  · simp [show i < 8 * 4 by omega]
  · rw [BitVec.getLsbD_of_ge x i (by omega)]; simp
theorem bare_sets {b : List (BitVec 8)} (h : b.length = 256) : (((b.set 4 0#8).set 5 0#8).set 6 0#8).set 7 0#8 = bareB b := by
  have s0 := put4_set b 4 (List.replicate 4 0#8) 0 (by simp) (by simp; omega)
  have s1 := put4_set b 4 (List.replicate 4 0#8) 1 (by simp) (by simp; omega)
  have s2 := put4_set b 4 (List.replicate 4 0#8) 2 (by simp) (by simp; omega)
  have s3 := put4_set b 4 (List.replicate 4 0#8) 3 (by simp) (by simp; omega)
  rw [List.take_zero, put4_nil] at s0
  unfold bareB
  have e : (List.replicate 4 0#8).take (3 + 1) = List.replicate 4 0#8 := rfl
  rw [e] at s3
  rw [s3, s2, s1, s0]
  rfl
attribute [local irreducible] OpOK AWops AW CondB Go2 AFn thenA inBlockA noGotoA orderOk wantedA
end Go.Proofs.Ytcmdhpinelnclaa

namespace Go.Proofs.Ytcmdhpinelnclaa
open Go Go.RowKit
set_option linter.unusedVariables false
set_option linter.unusedSimpArgs false
set_option maxRecDepth 100000

/-- l stands at i -/
def At (b : List (BitVec 8)) (i : Nat) (l : List (BitVec 8)) : Prop := ∃ post, b.drop i = l ++ post
theorem At.left {b : List (BitVec 8)} {i : Nat} {l m : List (BitVec 8)} (h : At b i (l ++ m)) : At b i l := by
  obtain ⟨p, h⟩ := h
  exact ⟨m ++ p, by rw [h, List.append_assoc]⟩
theorem At.right {b : List (BitVec 8)} {i : Nat} {l m : List (BitVec 8)} (h : At b i (l ++ m)) : At b (i + l.length) m := by
  obtain ⟨p, h⟩ := h
  exact ⟨p, by rw [← List.drop_drop, h, List.append_assoc, List.drop_left]⟩
theorem At.le {b : List (BitVec 8)} {i : Nat} {l : List (BitVec 8)} (h : At b i l) (h0 : 0 < l.length) : i + l.length ≤ b.length := by
  obtain ⟨p, h⟩ := h
  have := congrArg List.length h
  rw [List.length_drop, List.length_append] at this
  omega
theorem At.seg {b : List (BitVec 8)} {i : Nat} {l : List (BitVec 8)} (h : At b i l) : seg b i l.length = l := by
  obtain ⟨p, h⟩ := h
  unfold Proofs.Ytcmdhpinelnclaa.seg
  rw [h, List.take_left]
theorem At.one {b : List (BitVec 8)} {i : Nat} {x : BitVec 8} (h : At b i [x]) : b.getD i 0#8 = x := by
  obtain ⟨p, h⟩ := h
  have : (b.drop i)[0]? = some x := by rw [h]; rfl
  rw [List.getElem?_drop, Nat.add_zero] at this
  rw [List.getD_eq_getElem?_getD, this]; rfl
theorem ofInt8 {n : Nat} (h : n < 256) : (BitVec.ofInt 8 (n : Nat)).toNat = n := by
  rw [BitVec.toNat_ofInt]; omega
theorem at_num {b : List (BitVec 8)} {i : Nat} {l : List (BitVec 8)} (h : At b i l) (h0 : 0 < l.length) : numAt b i l.length = leNum l ∧ stN b ⟨i, false⟩ l.length = ⟨i + l.length, false⟩ := by
  have hl := h.le h0
  refine ⟨by rw [numAt_yes hl, h.seg], ?_⟩
  unfold stN
  dsimp only
  rw [decide_eq_true hl]; rfl
theorem at_take {b : List (BitVec 8)} {i m : Nat} {s : List (BitVec 8)} (h : At b i (tx s)) (hm : s.length ≤ m) (h8 : m ≤ 255) : takeS b ⟨i, false⟩ m = s ∧ stT b ⟨i, false⟩ m = ⟨i + (tx s).length, false⟩ := by
  have h1 : At b i [BitVec.ofInt 8 (s.length : Nat)] := At.left h
  have h2 : At b (i + 1) s := At.right h
  have hc : cnt b i = s.length := by unfold cnt; rw [h1.one, ofInt8 (by omega)]
  have hle := h.le (by rw [tx_len]; omega)
  rw [tx_len] at hle
  unfold takeS stT takeOk
  dsimp only
  rw [hc, decide_eq_true hm, decide_eq_true (by omega)]
  exact ⟨h2.seg, by rw [tx_len, Nat.add_assoc]; rfl⟩
theorem mkKey_ky {k : Key} (h : k.ok = true) : mkKey (kyS k) = k := by
  obtain ⟨h1, h2, h3⟩ := (Key.ok_iff k).1 h
  have hl := (kyS_len ⟨h1, h2⟩).1
  unfold mkKey
  have e : padded 8 (kyS k) = k.b := padded_cut k.b _ h3
  rw [e, hl]
  obtain ⟨n, v⟩ := k
  dsimp only at h1 ⊢
  congr 1 <;> omega
theorem mkVl_vl {k : Vl} (h : k.ok = true) : mkVl (vlS k) = k := by
  obtain ⟨h1, h2, h3⟩ := (Vl.ok_iff k).1 h
  have hl := (vlS_len ⟨h1, h2⟩).1
  unfold mkVl
  have e : padded 16 (vlS k) = k.b := padded_cut k.b _ h3
  rw [e, hl]
  obtain ⟨n, v⟩ := k
  dsimp only at h1 ⊢
  congr 1 <;> omega
theorem at_key {b : List (BitVec 8)} {i : Nat} {k : Key} (hk : k.ok = true) (h : At b i (tx (kyS k))) : rdKey b ⟨i, false⟩ = (k, ⟨i + (tx (kyS k)).length, false⟩) := by
  obtain ⟨h1, h2⟩ := at_take (m := 8) h (kyS_len (KyR.of hk)).2 (by omega)
  unfold rdKey
  rw [h1, h2, mkKey_ky hk]
theorem at_vl {b : List (BitVec 8)} {i : Nat} {k : Vl} (hk : k.ok = true) (h : At b i (tx (vlS k))) : rdVl b ⟨i, false⟩ = (k, ⟨i + (tx (vlS k)).length, false⟩) := by
  obtain ⟨h1, h2⟩ := at_take (m := 16) h (vlS_len (VlR.of hk)).2 (by omega)
  unfold rdVl
  rw [h1, h2, mkVl_vl hk]
theorem at_ent {b : List (BitVec 8)} {i : Nat} {e : Ent} (he : e.key.ok = true ∧ e.val.ok = true) (h : At b i (entB e)) : rdEnt b ⟨i, false⟩ = (e, ⟨i + (entB e).length, false⟩) := by
  have h1 := at_key he.1 (At.left h)
  have h2 := at_vl he.2 (At.right h)
  unfold rdEnt
  rw [h1]
  dsimp only
  rw [h2]
  unfold entB
  rw [List.length_append, Nat.add_assoc]
theorem at_kid {b : List (BitVec 8)} {i : Nat} {k : Int} (hk : 1 ≤ k ∧ k < 256) (h : At b i (kidB k)) : rdKid b ⟨i, false⟩ = (k, ⟨i + (kidB k).length, false⟩) := by
  have hl := kidB_len k
  obtain ⟨h1, h2⟩ := at_num h (by omega)
  rw [hl] at h1 h2
  unfold rdKid
  dsimp only
  rw [h1, h2, hl]
  have e : leNum (kidB k) = BitVec.ofInt 64 k := by
    have := leNum_four (BitVec.ofInt 32 k)
    have e2 : (BitVec.ofInt 32 k).setWidth 64 = BitVec.ofInt 64 k := by
      apply BitVec.eq_of_toNat_eq
      rw [BitVec.toNat_setWidth, BitVec.toNat_ofInt, BitVec.toNat_ofInt]
      omega
    rw [e2] at this
    exact this
  rw [e]
  have e3 : (BitVec.ofInt 64 k).toInt = k := by
    rw [BitVec.toInt_ofInt]
    rw [Int.bmod_def]
    split <;> omega
  rw [e3]
theorem at_piv {b : List (BitVec 8)} {i : Nat} {k : Key} (hk : k.ok = true) (h : At b i (pivB k)) : rdKey b ⟨i, false⟩ = (k, ⟨i + (pivB k).length, false⟩) := at_key hk h
theorem at_msg {b : List (BitVec 8)} {i : Nat} {m : Msg} (hm : m.ok = true) (h : At b i (msgB m)) : rdMsg b ⟨i, false⟩ = (m, ⟨i + (msgB m).length, false⟩) := by
  obtain ⟨a1, a2, a3, a4, a5, a6⟩ := Msg.spec hm
  unfold msgB at h
  have h1 : At b i [BitVec.ofInt 8 m.kind] := h.left.left.left
  have h2 : At b (i + 1) (leBytes m.seq 8) := h.left.left.right
  have h3 : At b (i + 9) (tx (kyS m.key)) := by
    have := h.left.right
    rw [List.length_append, leBytes_length] at this
    exact this
  have h4 : At b (i + 9 + (tx (kyS m.key)).length) (restB m) := by
    have := h.right
    rw [List.length_append, List.length_append, leBytes_length, ← Nat.add_assoc] at this
    exact this
  obtain ⟨n1, s1⟩ := at_num h1 (by simp)
  obtain ⟨n2, s2⟩ := at_num h2 (by rw [leBytes_length]; omega)
  rw [leBytes_length, leNum_bytes] at n2
  rw [leBytes_length] at s2
  have hk := at_key a3 h3
  have ek : msK b ⟨i, false⟩ = m.kind := by
    unfold msK
    dsimp only
    rw [numAt_one]
    unfold cnt
    rw [h1.one, BitVec.toNat_ofInt]
    omega
  have e1 : msS1 b ⟨i, false⟩ = ⟨i + 1, false⟩ := s1
  have e2 : msS2 b ⟨i, false⟩ = ⟨i + 9, false⟩ := by unfold msS2; rw [e1]; exact s2
  have e3 : msS3 b ⟨i, false⟩ = ⟨i + 9 + (tx (kyS m.key)).length, false⟩ := by unfold msS3; rw [e2, hk]
  unfold rdMsg
  rw [ek, e1, e2, e3, hk]
  dsimp only
  rw [n2]
  have hlen : (msgB m).length = 9 + (tx (kyS m.key)).length + (restB m).length := by unfold msgB; simp only [List.length_append, List.length_singleton, leBytes_length]
  rw [hlen]
  obtain ⟨kind, seq, key, val, add⟩ := m
  dsimp only at a1 a2 a3 a4 a5 a6 h4 ⊢
  unfold rdRest
  unfold restB at h4 ⊢
  dsimp only at h4 ⊢
  by_cases k1 : kind = 1
  · rw [if_pos k1] at h4 ⊢
    rw [if_pos k1]
    have hv := at_vl a4 h4
    rw [hv, a6 (by omega)]
    dsimp only
    simp only [Nat.add_assoc]
  · rw [if_neg k1] at h4 ⊢
    rw [if_neg k1]
    by_cases k3 : kind = 3
    · rw [if_pos k3] at h4 ⊢
      rw [if_pos k3]
      obtain ⟨n4, s4⟩ := at_num h4 (by rw [leBytes_length]; omega)
      rw [leBytes_length, leNum_bytes] at n4
      rw [leBytes_length] at s4
      rw [n4, s4, a5 k1, leBytes_length]
      simp only [Nat.add_assoc]
    · rw [if_neg k3]
      rw [if_neg k3, a5 k1, a6 k3]
      simp only [List.length_nil, Nat.add_zero, Nat.add_assoc]
/-- many, one behind the other -/
theorem at_many {α : Type} (f : Rst → α × Rst) (enc : α → List (BitVec 8)) {b : List (BitVec 8)} {i : Nat} (l : List α) (hf : ∀ a ∈ l, ∀ i, At b i (enc a) → f ⟨i, false⟩ = (a, ⟨i + (enc a).length, false⟩)) (h : At b i (l.flatMap enc)) :
    ∀ j, j ≤ l.length → rdMany f j ⟨i, false⟩ = (l.take j, ⟨i + ((l.take j).flatMap enc).length, false⟩)
  | 0, _ => by simp [rdMany]
  | j + 1, hj => by
    have ih := at_many f enc l hf h j (by omega)
    have hlt : j < l.length := hj
    have e : l.flatMap enc = (l.take j).flatMap enc ++ (enc l[j] ++ (l.drop (j + 1)).flatMap enc) := by
      rw [← List.flatMap_cons, ← List.flatMap_append, ← List.drop_eq_getElem_cons hlt, List.take_append_drop]
    rw [e] at h
    have h1 := At.left (At.right h)
    have h2 := hf l[j] (List.getElem_mem hlt) _ h1
    show ((rdMany f j ⟨i, false⟩).1 ++ [(f (rdMany f j ⟨i, false⟩).2).1], (f (rdMany f j ⟨i, false⟩).2).2) = _
    rw [ih]
    dsimp only
    rw [h2, ← List.take_append_getElem hlt, List.flatMap_append]
    simp [Nat.add_assoc]
theorem at_all {α : Type} (f : Rst → α × Rst) (enc : α → List (BitVec 8)) {b : List (BitVec 8)} {i : Nat} (l : List α) (hf : ∀ a ∈ l, ∀ i, At b i (enc a) → f ⟨i, false⟩ = (a, ⟨i + (enc a).length, false⟩)) (h : At b i (l.flatMap enc)) :
    rdMany f l.length ⟨i, false⟩ = (l, ⟨i + (l.flatMap enc).length, false⟩) := by
  have := at_many f enc l hf h l.length (Nat.le_refl _)
  rwa [List.take_length] at this
/-! ### a block -/
theorem put4_lo {α : Type} (xs : List α) (off : Nat) (ys : List α) (h : off ≤ xs.length) {i : Nat} (hi : i < off) : (put4 xs off ys)[i]? = xs[i]? := by
  unfold put4
  rw [List.getElem?_append_left (by rw [List.length_take]; omega), List.getElem?_take, if_pos hi]
theorem put4_hi {α : Type} (xs : List α) (off : Nat) (ys : List α) (h : off ≤ xs.length) {i : Nat} (hi : off + ys.length ≤ i) : (put4 xs off ys)[i]? = xs[i]? := by
  unfold put4
  have e : (xs.take off).length = off := by rw [List.length_take]; omega
  rw [List.getElem?_append_right (by omega), e, List.getElem?_append_right (by omega), List.getElem?_drop]
  congr 1 <;> omega
theorem put4_in {α : Type} (xs : List α) (off : Nat) (ys : List α) (h : off ≤ xs.length) {i : Nat} (hi : off ≤ i) (hj : i < off + ys.length) : (put4 xs off ys)[i]? = ys[i - off]? := by
  unfold put4
  have e : (xs.take off).length = off := by rw [List.length_take]; omega
  rw [List.getElem?_append_right (by omega), e, List.getElem?_append_left (by omega)]
theorem put4_put4 {α : Type} (xs : List α) (off : Nat) (ys zs : List α) (hl : ys.length = zs.length) (h : off + ys.length ≤ xs.length) : put4 (put4 xs off ys) off zs = put4 xs off zs := by
  have hp := put4_len xs off ys h
  apply List.ext_getElem?
  intro i
  by_cases h1 : i < off
  · rw [put4_lo _ _ _ (by omega) h1, put4_lo _ _ _ (by omega) h1, put4_lo _ _ _ (by omega) h1]
  · by_cases h2 : i < off + ys.length
    · rw [put4_in _ _ _ (by omega) (by omega) (by omega), put4_in _ _ _ (by omega) (by omega) (by omega)]
    · rw [put4_hi _ _ _ (by omega) (by omega), put4_hi _ _ _ (by omega) (by omega), put4_hi _ _ _ (by omega) (by omega)]
theorem sumIn_put {b s : List (BitVec 8)} (hb : b.length = 256) (hs : s.length = 4) : sumIn (put4 b 4 s) = s := by
  unfold sumIn put4
  have e : (b.take 4).length = 4 := by rw [List.length_take]; omega
  apply List.ext_getElem?
  intro i
  rw [List.getElem?_drop, List.getElem?_take]
  by_cases h : i < 4
  · rw [if_pos (by omega), List.getElem?_append_right (by omega), e, List.getElem?_append_left (by omega)]
    congr 1 <;> omega
  · rw [if_neg (by omega), List.getElem?_eq_none (by omega)]
theorem raw_bare {n : Nd} (h : nodeFits n = true) : bareB (encB n) = rawB n := by
  have hl := rawB_len h
  unfold bareB encB
  rw [put4_put4 _ _ _ _ (by rw [sum4_len]; rfl) (by rw [sum4_len]; omega)]
  unfold rawB put4
  have e : (headB n).length = 4 := rfl
  simp only [List.append_assoc]
  rw [List.take_left' e]
  congr 1
theorem enc_sum {n : Nd} (h : nodeFits n = true) : sum4 (bareB (encB n)) = sumIn (encB n) := by
  rw [raw_bare h]
  exact (sumIn_put (rawB_len h) (sum4_len _)).symm
theorem enc_body {n : Nd} (h : nodeFits n = true) : At (encB n) 8 (bodyB n) := by
  refine ⟨List.replicate (248 - (bodyB n).length) 0#8, ?_⟩
  have hl := rawB_len h
  have e : (encB n).drop 8 = (rawB n).drop 8 := by
    apply List.ext_getElem?
    intro i
    rw [List.getElem?_drop, List.getElem?_drop]
    exact put4_hi _ _ _ (by omega) (by rw [sum4_len]; omega)
  rw [e]
  unfold rawB
  have e2 : (headB n ++ List.replicate 4 0#8).length = 8 := by simp [headB_len]
  rw [List.append_assoc (headB n ++ List.replicate 4 0#8)]
  exact List.drop_left' e2
theorem enc_head {n : Nd} (h : nodeFits n = true) {i : Nat} (hi : i < 4) : byAt (encB n) i = (headB n).getD i 0#8 := by
  have hl := rawB_len h
  unfold byAt
  rw [List.getD_eq_getElem?_getD, List.getD_eq_getElem?_getD]
  congr 1
  unfold encB
  rw [put4_lo _ _ _ (by omega) hi]
  unfold rawB
  rw [List.append_assoc, List.append_assoc, List.getElem?_append_left (by rw [headB_len]; exact hi)]
theorem rd_enc {n : Nd} (h : nodeFits n = true) : (rdNode (encB n)).1 = n ∧ (rdNode (encB n)).2.bad = false := by
  have hb := enc_body h
  have hr := fits_ndr h
  have h0 : byAt (encB n) 0 = if n.leaf = true then 1#8 else 2#8 := enc_head h (by omega)
  have h1 : byAt (encB n) 1 = BitVec.ofInt 8 (manyB n : Nat) := enc_head h (by omega)
  have h2 : byAt (encB n) 2 = BitVec.ofInt 8 (n.ms.length : Nat) := enc_head h (by omega)
  unfold rdNode
  rcases fits_is h with f | f
  · have hle := len_sum n.es f.ok
    have := f.sum
    rw [h0, f.leaf, if_pos rfl, if_pos rfl]
    have e1 : (byAt (encB n) 1).toNat = n.es.length := by rw [h1, ofInt8 (by unfold manyB; rw [f.leaf, if_pos rfl]; omega)]; unfold manyB; rw [f.leaf, if_pos rfl]
    have e2 : (byAt (encB n) 2).toNat = 0 := by rw [h2, f.ms]; rfl
    rw [e1, e2]
    have hb' : At (encB n) 8 (n.es.flatMap entB) := by
      unfold bodyB at hb
      rw [f.ks, f.ps, f.ms] at hb
      simpa using hb
    have q := at_all (rdEnt (encB n)) entB n.es (fun e he i hi => at_ent (f.ok e he) hi) hb'
    rw [q]
    obtain ⟨leaf, es, ks, ps, ms⟩ := n
    obtain rfl : leaf = true := f.leaf
    obtain rfl : ks = [] := f.ks
    obtain rfl : ps = [] := f.ps
    obtain rfl : ms = [] := f.ms
    exact ⟨rfl, rfl⟩
  · have hle := len_sumM n.ms f.ms
    have := f.sum
    have k4 := f.k4
    have kp := f.kp
    have hlf := f.leaf
    rw [h0, hlf, if_neg (by simp)]
    have e1 : (byAt (encB n) 1).toNat = n.ks.length := by rw [h1, ofInt8 (by unfold manyB; rw [hlf, if_neg (by simp)]; omega)]; unfold manyB; rw [hlf, if_neg (by simp)]
    have e2 : (byAt (encB n) 2).toNat = n.ms.length := by rw [h2, ofInt8 (by omega)]
    rw [e1, e2, show n.ks.length - 1 = n.ps.length by omega]
    have hb' : At (encB n) 8 (n.ks.flatMap kidB ++ n.ps.flatMap pivB ++ n.ms.flatMap msgB) := by
      unfold bodyB at hb
      rw [f.es] at hb
      simpa using hb
    have q1 := at_all (rdKid (encB n)) kidB n.ks (fun k hk i hi => at_kid (f.ks k hk) hi) (At.left (At.left hb'))
    have q2 := at_all (rdKey (encB n)) pivB n.ps (fun k hk i hi => at_piv (f.ps k hk) hi) (At.right (At.left hb'))
    have h3 := At.right hb'
    rw [List.length_append, ← Nat.add_assoc] at h3
    have q3 := at_all (rdMsg (encB n)) msgB n.ms (fun m hm i hi => at_msg (f.ms m hm) hi) h3
    rw [q1]
    dsimp only
    rw [q2]
    dsimp only
    rw [q3]
    obtain ⟨leaf, es, ks, ps, ms⟩ := n
    obtain rfl : leaf = false := f.leaf
    obtain rfl : es = [] := f.es
    exact ⟨rfl, rfl⟩
/-- what is put is read again -/
theorem decode_enc {n : Nd} (h : nodeFits n = true) : decode (encB n) = (n, 0) := by
  obtain ⟨h1, h2⟩ := rd_enc h
  have he : encode n = (encB n, 0) := by unfold encode; rw [if_pos h]
  unfold decode
  rw [if_pos (encB_len h), if_pos (enc_sum h), h1, he, if_pos ⟨h2, rfl, rfl⟩]
theorem enc_inj {n m : Nd} (hn : nodeFits n = true) (hm : nodeFits m = true) (h : encB n = encB m) : n = m := by
  have h1 := decode_enc hn
  rw [h, decode_enc hm] at h1
  exact (congrArg Prod.fst h1).symm
end Go.Proofs.Ytcmdhpinelnclaa

namespace Go.Proofs.Ytcmdhpinelnclaa
open Go Go.RowKit
set_option linter.unusedVariables false
set_option linter.unusedSimpArgs false
set_option maxRecDepth 100000

section
variable {H : Type} {enc : TypeId × Value → H} {P : Program} {w : World} {base : Nat} {spare : Nat → Bool} {held : Bool} {fuel : Nat} {t : TypeId} {cs : List Value} {x : DataW H × List MemPlace}
end
section
variable {H : Type} {enc : TypeId × Value → H} {w : World} {base : Nat} {spare : Nat → Bool} {held : Bool} {fuel : Nat} {cs : List Value} {x : DataW H × List MemPlace}
end
instance : Inhabited Key := ⟨Key.zero⟩
instance : Inhabited Vl := ⟨Vl.zero⟩
instance : Inhabited Ent := ⟨Ent.zero⟩
instance : Inhabited Msg := ⟨Msg.zero⟩
end Go.Proofs.Ytcmdhpinelnclaa

namespace Go.Proofs.Ytcmdhpinelnclaa
open Go Go.RowKit
set_option linter.unusedVariables false
set_option linter.unusedSimpArgs false
set_option maxRecDepth 100000

/-- a node's value: its slices' values, what these read as -/
structure NodeV (w : World) (v : Value) (n : Nd) : Prop where
  is : ∃ v1 v2 v3 v4, v = .agg #[.bool n.leaf, v1, v2, v3, v4] ∧ Sl Ent.arr 26 w v1 n.es ∧ Sl ie 1 w v2 n.ks ∧ Sl Key.arr 9 w v3 n.ps ∧ Sl Msg.arr 29 w v4 n.ms
section
variable {H : Type} {enc : TypeId × Value → H} {w : World} {base : Nat} {spare : Nat → Bool} {held : Bool} {fuel : Nat} {cs : List Value} {x : DataW H × List MemPlace}
end
end Go.Proofs.Ytcmdhpinelnclaa

namespace Go.Proofs.Ytcmdhpinelnclaa
open Go Go.RowKit
set_option linter.unusedVariables false
set_option linter.unusedSimpArgs false
set_option maxRecDepth 100000

def fewB (n : Nd) : Bool := decide (n.es.length ≤ 80) && decide (n.ks.length ≤ 20) && decide (n.ps.length ≤ 20) && decide (n.ms.length ≤ 60)
section
variable {E : Env} {nt : Nat} {ops : Array Oper} {T : Nat → Option AV} {H : Hp} {d : Option Nat} {ty : TypeId} {pos : String} {af : Array Edge} {gd : Option (Nat × Bool)}
/-- make, as a list -/
theorem ob_makeT {t e : TypeId} {es bytes : Nat} {ea : Bool} {x y : Operand} {k k' : IntKind} {n : Nat} {f : BitVec 8 → AV} {z : BitVec 8} {g : Nat} {m m' : Int} (hd : dOk nt (some g) = true) (hs : tabT.ti t = some (.sl e (es + 1) bytes ea)) (hz : zeroT e = some (f z)) (hx : evalO T x = some (.v (.int k m))) (hy : evalO T y = some (.v (.int k' m'))) (hm : natOf m = some n) (hm' : natOf m' = some n) (hg : H g = none) (hb : bytes * n ≤ 140737488355328) (hn : n ≤ 9223372036854775807) :
    OpOK Try.prog E nt ops ⟨some g, .makeSlice t x y, ty, pos, af, gd⟩ T H [] ⟨.sl (some g) (es + 1) ((List.replicate n z).map f), [(g, .tail e (es + 1) n)]⟩ := by
  have := natOf_eq hm; subst this
  have := natOf_eq hm'; subst this
  rw [List.map_replicate]
  refine ok_eff hd fun B T' H' a w r ht hh hw' => ?_
  have hg' : H' g = none := (hw' (g, .tail e (es + 1) n) (by simp)).trans hg
  have e1 := r.evalv ((ht x (by simp [Op.operands])).trans hx)
  have e2 := r.evalv ((ht y (by simp [Op.operands])).trans hy)
  obtain ⟨_, hu, hte, i, zv, z1, z2, z3, z4, z5⟩ := tabT.ok t _ hs
  obtain ⟨i', zv', y1, y2, y3⟩ := zeroT_ok hz
  rw [z1] at y1; injection y1 with y1; subst y1
  rw [z2] at y2; injection y2 with y2; subst y2
  have hrun := run_make (P := Try.prog) w t e i zv hu z1 z2 k k' n n (by omega) (Int.le_refl _) (by rw [z4]; exact imul_le _ _ hb) (by omega)
  simp only [Int.toNat_natCast, z3] at hrun
  have hmd := made_rdu (U := unst E B H') (w := w) (y3 _ _) (by rw [z5]; omega) n
  rw [z5] at hmd
  have hml := Rdu_len hmd
  obtain ⟨k1, k2⟩ := r.newRow (e := e) (k := n) (cap := n) (ys := List.replicate n (f z)) (cs := (madeCells zv.cells (n * (es + 1))).toList) hg' (Nat.succ_pos es) (by rw [← hml, List.take_length]; exact hmd) (by simp) (by rw [hml]; simp) (Nat.le_refl _) (by unfold maxLen; omega)
  rw [Array.toArray_toList] at k1 k2
  have hfin : (execOp a.eval ⟨some g, .makeSlice t x y, ty, pos, af, gd⟩).run Try.prog w = .ok (.value (.slice (some ⟨w.heap.size, 0, none⟩) n n)) (w.alloc (.cells (madeCells zv.cells (n * (es + 1))) e)) := by
    simp [execOp, e1, e2, hrun]
  exact ⟨_, _, _, hfin, k1, by rw [Rdv_not (by simp)]; exact ⟨_, k2, rfl⟩⟩
end
theorem wT {Q R : Prop} (k : R) (h : Hid R → Q := by intro kHid; (repeat (first | (first | refine Wend _ ?_ | refine AW_seq ?_ | refine AW_reg ?_ | refine AW_drw mixed ?_ | refine AW_block ?_ | refine AW_scope ?_ | refine thenA_n ?_ | refine blockA_n ?_ | refine blockA_h ?_ | refine scopeA_n ?_ | refine thenA_r ?_ | refine blockA_r ?_ | refine scopeA_r ?_ | refine thenA_e ?_ | refine scopeA_e ?_ | refine blockA_e rfl ?_ | refine AW_exit ?_ | refine AW_ret ?_ | refine AW_skip ?_ | refine AW_c rfl ?_ | with_reducible refine cb_t ?_ | with_reducible refine cb_f ?_ | with_reducible refine cb_yes (by first | assumption | omega) ?_ | with_reducible refine cb_no (by first | assumption | omega) ?_ | refine And.intro (by decide +kernel) ?_) | (first | (apply Wv; (focus (first | exact step_ok rfl rfl | exact ok_nilc rfl rfl | exact o_idx rfl rfl rfl rfl (by first | assumption | omega | decide) | exact o_idx3 rfl rfl rfl rfl (by first | assumption | omega | decide) | exact o_idx2 rfl rfl rfl rfl rfl (by first | assumption | omega | decide | exact Nat.lt_of_lt_of_le (m := 256) (by decide) (by omega)) | exact o_idxr rfl rfl rfl rfl rfl rfl | exact o_lenm rfl rfl rfl | exact o_len rfl rfl rfl | exact o_len0 rfl rfl rfl | exact o_lens rfl rfl rfl | exact o_lent rfl rfl | exact ob_len rfl rfl rfl rfl (by first | rfl | assumption | omega | (simp; done) | (simp; omega)) | exact o_add1 rfl rfl rfl (by omega) | exact o_addn rfl rfl rfl (by omega) | exact o_addc rfl rfl rfl (by omega) (by omega) | exact o_add rfl rfl rfl (by omega) | exact o_sub1 rfl rfl rfl (by omega) | exact o_sub rfl rfl rfl (by omega) | exact o_acall rfl rfl rfl rfl (by assumption) | exact o_convb ⟨_, Try.underlying3⟩ Try.underlying5 rfl rfl | exact o_convu ⟨_, Try.underlying3⟩ Try.underlying71 rfl rfl | exact o_cv32 ⟨_, Try.underlying77⟩ Try.underlying71 rfl rfl | exact o_cvk ⟨_, Try.underlying71⟩ Try.underlying3 rfl rfl | exact o_cv8 ⟨_, Try.underlying5⟩ Try.underlying3 rfl rfl | exact o_convs Try.underlying33 Try.underlying5 Try.underlying9 rfl rfl | exact ob_cutr rfl rfl rfl (by simp) (by decide) | exact ob_cutf rfl rfl rfl rfl rfl rfl (by simp) (by decide) | exact ob_cutfh rfl rfl rfl rfl rfl rfl rfl (by first | assumption | omega) (by simp) (by decide) | exact ok_cut_arr tabT rfl rfl rfl bnd_none (Nat.le_refl _) (by decide) | exact o_cutlh rfl rfl rfl rfl rfl (by omega) (by omega) | exact o_cutl rfl rfl rfl rfl (by omega) | exact o_cuth rfl rfl rfl rfl (by omega) | exact o_cutl3 rfl rfl rfl rfl (by omega) | exact o_cuth3 rfl rfl rfl rfl (by omega) | exact o_cutl2 rfl rfl rfl rfl rfl (by omega) | exact o_cuth2 rfl rfl rfl rfl rfl (by omega) | exact o_cutlh2 rfl rfl rfl rfl rfl rfl rfl (by first | omega | decide) (by first | omega | exact Nat.le_trans (m := 256) (by decide) (by omega)) | exact ob_cutl rfl rfl rfl rfl rfl rfl (by first | rfl | assumption | omega | (simp; done) | (simp; omega)) (by first | rfl | assumption | omega | (simp; done) | (simp; omega)) | exact ob_cutlh rfl rfl rfl rfl rfl rfl rfl rfl (by first | rfl | assumption | omega | (simp; done) | (simp; omega)) (by first | rfl | assumption | omega | (simp; done) | (simp; omega)) (by first | rfl | assumption | omega | (simp; done) | (simp; omega)) | exact ob_idx rfl rfl rfl rfl rfl rfl (by first | rfl | assumption | omega | (simp; done) | (simp; omega)) (by first | rfl | assumption | omega | (simp; done) | (simp; omega)) | exact ob_ld rfl rfl rfl (by first | rfl | assumption | omega | (simp; done) | (simp; omega)) (by first | rfl | assumption | omega | (simp; done) | (simp; omega)) rfl rfl | exact ob_eqs rfl rfl rfl | exact ob_nes rfl rfl rfl | exact o_bld zero_reader rfl rfl rfl rfl rfl rfl rfl | exact o_mkfnF rfl rfl rfl | exact o_bld zero_refreader rfl rfl rfl rfl rfl rfl rfl | exact e_bld rfl rfl rfl | exact e_bldk rfl rfl | exact z_bld0 rfl rfl rfl rfl rfl | exact z_bld rfl rfl rfl rfl rfl rfl rfl | exact o_mkfn rfl rfl rfl | exact o_xorb rfl rfl rfl)); (focus (first | exact want_n | exact want_g rfl (by with_reducible rfl)))) | (apply Wb; (focus (first | exact o_box rfl rfl rfl rfl | exact ob_app rfl rfl rfl rfl rfl (by first | exact o_many rfl | exact o_one _ _ rfl | exact o_zero rfl) (by first | rfl | assumption | omega | (simp; done) | (simp; omega)) (by first | omega | (simp; omega) | (simp; done)) (by first | omega | (simp; omega) | (simp; done)) | exact oo_app0 rfl rfl rfl rfl rfl (by first | exact o_many rfl | exact o_one _ _ rfl | exact o_zero rfl) (by first | omega | (simp; omega) | (simp; done)) (by first | omega | (simp; omega) | (simp; done)) | exact o_app rfl rfl rfl rfl rfl (by first | exact o_many rfl | exact o_one _ _ rfl | exact o_zero rfl) (by first | omega | (simp; omega) | (simp; done)) (by first | omega | (simp; omega) | (simp; done)) | exact o_appn rfl rfl rfl rfl rfl (by first | exact o_many rfl | exact o_one _ _ rfl | exact o_zero rfl) (by first | omega | (simp; omega) | (simp; done)) (by first | omega | (simp; omega) | (simp; done)) | exact o_app1 rfl rfl rfl rfl rfl (by first | exact o_many rfl | exact o_one _ _ rfl | exact o_zero rfl) (by exact rfl) (by first | omega | (simp; omega) | (simp; done)) (by first | omega | (simp; omega) | (simp; done)) | exact o_app0 rfl rfl rfl rfl rfl (by first | exact o_many rfl | exact o_one _ _ rfl | exact o_zero rfl) (by first | omega | (simp; omega) | (simp; done)) (by first | omega | (simp; omega) | (simp; done)) | exact o_bsl0O rfl rfl rfl | exact z_bsll rfl rfl rfl rfl rfl rfl rfl rfl rfl | exact z_alloc rfl rfl rfl | exact ob_copy rfl rfl rfl rfl rfl (by first | rfl | assumption | omega | (simp; done) | (simp; omega)) (by first | rfl | assumption | omega | (simp; done) | (simp; omega)) (by first | rfl | assumption | omega | (simp; done) | (simp; omega)) (by first | rfl | assumption | omega | (simp; done) | (simp; omega)) | exact ob_zeros (f := byteA) (z := 0#8) Try.underlying3 rfl rfl rfl rfl rfl rfl (by omega) (by first | rfl | assumption | omega | (simp; done) | (simp; omega)) (by first | omega | (simp; omega) | (simp; done)) (by first | omega | (simp; omega) | (simp; done)) | exact ob_makeT (f := byteA) (z := 0#8) rfl rfl rfl rfl rfl rfl rfl rfl (by decide) (by decide))); (focus (first | exact want_n | exact want_g rfl (by with_reducible rfl)))) | (apply Ws; (focus (first | exact ob_st rfl rfl rfl (by first | rfl | assumption | omega | (simp; done) | (simp; omega)) (by first | rfl | assumption | omega | (simp; done) | (simp; omega)) rfl (fun _ => rfl) rfl rfl | exact ob_st0 rfl rfl rfl (by first | rfl | assumption | omega | (simp; done) | (simp; omega)) (by first | rfl | assumption | omega | (simp; done) | (simp; omega)) rfl | exact ok_store tabT (d := none) rfl rfl rfl rfl rfl rfl rfl rfl rfl rfl | exact ob_clear (f := byteA) (z := 0#8) rfl rfl rfl rfl (by first | rfl | assumption | omega | (simp; done) | (simp; omega)) (by first | rfl | assumption | omega | (simp; done) | (simp; omega)) (by first | rfl | assumption | omega | (simp; done) | (simp; omega)))); (focus (first | exact want_n | exact want_g rfl (by with_reducible rfl)))) | (refine Wskip (by first | exact want_f rfl (by with_reducible exact b_nt) | exact want_f rfl (by with_reducible exact b_nf) | exact want_t rfl) rfl ?_) | refine Wgt rfl rfl (by first | assumption | omega | exact rfl) ?_ | refine Wgf rfl rfl (by first | assumption | omega | exact rfl) ?_ | (refine Wgb rfl rfl (by with_reducible assumption) ?_) | (refine cb_is _ (by assumption) ?_)))); exact kHid.out) : Q := h ⟨k⟩
def ndL : Nd := ⟨true, [], [], [], []⟩
theorem ndL_fits : nodeFits ndL = true := by
  unfold nodeFits nodeOk leafOk ndBytes ndL
  rw [if_pos rfl, if_pos rfl, if_pos rfl, entsOkB_true (fun j hj => absurd hj (by simp))]
  simp [eSum]
theorem zeros_sum : sumL (List.replicate 256 0#8) ≠ 0#32 := by decide +kernel
theorem zeros_decode : decode (List.replicate 256 0#8) = (Nd.zero, 5) := by
  have hb : bareB (List.replicate 256 0#8) = List.replicate 256 0#8 := by decide +kernel
  have hs : sumIn (List.replicate 256 0#8) = List.replicate 4 0#8 := rfl
  have hne : ¬ sum4 (bareB (List.replicate 256 0#8)) = sumIn (List.replicate 256 0#8) := by
    rw [hb, hs]
    intro k
    have := leNum_four (sumL (List.replicate 256 0#8))
    unfold sum4 at k
    rw [k] at this
    apply zeros_sum
    apply BitVec.eq_of_toNat_eq
    have h2 := congrArg BitVec.toNat this
    rw [BitVec.toNat_setWidth] at h2
    have h3 : (leNum (List.replicate 4 0#8)).toNat = 0 := by decide +kernel
    rw [h3] at h2
    have h4 := (sumL (List.replicate 256 0#8)).isLt
    rw [Nat.mod_eq_of_lt (by omega)] at h2
    exact h2.symm
  unfold decode
  rw [if_pos (by simp), if_neg hne]
attribute [local irreducible] OpOK AWops AW CondB Go2 AFn thenA inBlockA noGotoA orderOk wantedA
set_option maxRecDepth 100000 in
set_option maxHeartbeats 8000000 in
theorem a_awake11 : AFn Try.prog 12 [] (boolA true) := by
  have hf := ndL_fits
  have c0 := AFn_weak (a_cencode ndL (fits_sm hf)) (xs := [nodeA true nilA nilA nilA nilA]) (fun H => .cons (Wk.agg (.cons (Wk.data rfl) (.cons Wk.nil (.cons Wk.nil (.cons Wk.nil (.cons Wk.nil .nil)))))) .nil)
  have he : encode ndL = (encB ndL, 0) := by unfold encode; rw [if_pos hf]
  rw [he] at c0
  have hl := encB_len hf
  have c1 := a_cdecode (encB ndL) (by omega)
  rw [decode_enc hf] at c1
  have c2 := AFn_weak (a_cencode Nd.zero zero_sm) (xs := [nodeA false nilA nilA nilA nilA]) (fun H => .cons (Wk.agg (.cons (Wk.data rfl) (.cons Wk.nil (.cons Wk.nil (.cons Wk.nil (.cons Wk.nil .nil)))))) .nil)
  have hz : encode Nd.zero = ([], 4) := by unfold encode; rw [zero_nofit]; rfl
  rw [hz] at c2
  have hd : decode [] = (Nd.zero, 4) := by unfold decode; rw [if_neg (by simp)]
  have c3 := AFn_weak (a_cdecode [] (by simp)) (xs := [nilA]) (fun H => .cons Wk.nil .nil)
  rw [hd] at c3
  have c4 := a_cdecode (List.replicate 256 0#8) (by simp)
  rw [zeros_decode] at c4
  dsimp only at c0 c1 c2 c3 c4
  have g0 : B8 ((encB ndL)[0]'(by omega)) = 1 := by rw [byAt_get (by omega), enc_head hf (by omega), B8_one]; rfl
  have g1 : B8 ((encB ndL)[1]'(by omega)) = 0 := by rw [byAt_get (by omega), enc_head hf (by omega), ← B8_zero]; rfl
  have g2 : B8 ((encB ndL)[255]'(by omega)) = 0 := by
    have e1 : (encB ndL)[255]? = (rawB ndL)[255]? := put4_hi _ _ _ (by rw [rawB_len hf]; omega) (by rw [sum4_len]; omega)
    have e2 : (rawB ndL)[255]? = some 0#8 := by decide +kernel
    have e3 : (encB ndL)[255]? = some ((encB ndL)[255]'(by omega)) := List.getElem?_eq_getElem (by omega)
    have e4 : some ((encB ndL)[255]'(by omega)) = some 0#8 := (e3.symm.trans e1).trans e2
    have e5 := Option.some.inj e4
    exact (congrArg B8 e5).trans B8_zero
  clear he
  obtain ⟨bb, hl, c0, c1, g0, g1, g2⟩ : ∃ (bb : List (BitVec 8)) (hl : bb.length = 256), AFn Try.prog 18 [nodeA true nilA nilA nilA nilA] (.tup [bytesA bb, intA 0]) ∧ AFn Try.prog 14 [bytesA bb] (.tup [nodeA true (entsA []) (intsA []) (keysA []) (msgsA []), intA 0]) ∧ B8 (bb[0]'(by omega)) = 1 ∧ B8 (bb[1]'(by omega)) = 0 ∧ B8 (bb[255]'(by omega)) = 0 := ⟨_, hl, c0, c1, g0, g1, g2⟩
  have hl' : (bb.length : Int) = 256 := by omega
  refine AFn_intro Try.func12 rfl Try.ntmps12 rfl (by simp) [_] rfl fun E hE => ?_; have hnt : (!true) = false := rfl; have hnf : (!false) = true := rfl
  have d0 := acall Try.func18 (c0) (by decide +kernel) (by decide +kernel)
  have d1 := acall Try.func14 (c1) (by decide +kernel) (by decide +kernel)
  have d2 := acall Try.func18 (c2) (by decide +kernel) (by decide +kernel)
  have d3 := acall Try.func14 (c3) (by decide +kernel) (by decide +kernel)
  have d4 := acall Try.func14 (c4) (by decide +kernel) (by decide +kernel)
  refine wT ?_
  exact fin ⟨res_of rfl rfl rfl, trivial⟩
end Go.Proofs.Ytcmdhpinelnclaa

namespace Go.Proofs.Ytcmdhpinelnclaa
open Go Go.RowKit
set_option linter.unusedVariables false
set_option linter.unusedSimpArgs false
set_option maxRecDepth 100000

/-! ### a byte turned -/
theorem sum4_inj {a b : List (BitVec 8)} (h : sum4 a = sum4 b) : sumL a = sumL b := by
  have h1 := leNum_four (sumL a)
  have h2 := leNum_four (sumL b)
  unfold sum4 at h
  rw [h, h2] at h1
  apply BitVec.eq_of_toNat_eq
  have h3 := congrArg BitVec.toNat h1
  rw [BitVec.toNat_setWidth, BitVec.toNat_setWidth] at h3
  have := (sumL a).isLt
  have := (sumL b).isLt
  rw [Nat.mod_eq_of_lt (by omega), Nat.mod_eq_of_lt (by omega)] at h3
  exact h3.symm
def turn (b : List (BitVec 8)) (k : Nat) (x : BitVec 8) : List (BitVec 8) := b.set k (b.getD k 0#8 ^^^ x)
theorem turn_len (b : List (BitVec 8)) (k : Nat) (x : BitVec 8) : (turn b k x).length = b.length := by unfold turn; simp
theorem turn_other {b : List (BitVec 8)} {k i : Nat} {x : BitVec 8} (h : i ≠ k) : (turn b k x)[i]? = b[i]? := by
  unfold turn
  rw [List.getElem?_set, if_neg (fun e => h e.symm)]
theorem turn_at {b : List (BitVec 8)} {k : Nat} {x : BitVec 8} (h : k < b.length) : (turn b k x)[k]? = some (b.getD k 0#8 ^^^ x) := by
  unfold turn
  rw [List.getElem?_set, if_pos rfl, if_pos h]
theorem getD_some {b : List (BitVec 8)} {k : Nat} (h : k < b.length) : b[k]? = some (b.getD k 0#8) := by
  rw [List.getD_eq_getElem?_getD, List.getElem?_eq_getElem h]; rfl
theorem xor_ne {a x : BitVec 8} (hx : x ≠ 0#8) : a ^^^ x ≠ a := fun h => hx (by
  have := congrArg (a ^^^ ·) h
  simpa [← BitVec.xor_assoc] using this)
theorem bare_len {b : List (BitVec 8)} (h : b.length = 256) : (bareB b).length = 256 := by unfold bareB; rw [put4_len _ _ _ (by simp; omega), h]
theorem sumIn_get {b : List (BitVec 8)} {i : Nat} (hi : i < 4) : (sumIn b)[i]? = b[4 + i]? := by
  unfold sumIn
  rw [List.getElem?_drop, List.getElem?_take, if_pos (by omega)]
theorem sumIn_len {b : List (BitVec 8)} (h : b.length = 256) : (sumIn b).length = 4 := by unfold sumIn; rw [List.length_drop, List.length_take]; omega
theorem bare_in {b : List (BitVec 8)} (h : b.length = 256) {k : Nat} {x : BitVec 8} (hk : 4 ≤ k ∧ k < 8) : bareB (turn b k x) = bareB b := by
  have ht := turn_len b k x
  unfold bareB
  apply List.ext_getElem?
  intro i
  by_cases h1 : i < 4
  · rw [put4_lo _ _ _ (by omega) h1, put4_lo _ _ _ (by omega) h1, turn_other (by omega)]
  · by_cases h2 : i < 8
    · rw [put4_in _ _ _ (by omega) (by omega) (by simp; omega), put4_in _ _ _ (by omega) (by omega) (by simp; omega)]
    · rw [put4_hi _ _ _ (by omega) (by simp; omega), put4_hi _ _ _ (by omega) (by simp; omega), turn_other (by omega)]
theorem bare_out {b : List (BitVec 8)} (h : b.length = 256) {k : Nat} {x : BitVec 8} (hk : k < 256) (ho : k < 4 ∨ 8 ≤ k) : bareB (turn b k x) = turn (bareB b) k x ∧ (bareB b).getD k 0#8 = b.getD k 0#8 := by
  have ht := turn_len b k x
  have hbl := bare_len h
  have e1 : (bareB b)[k]? = b[k]? := by
    unfold bareB
    rcases ho with ho | ho
    · exact put4_lo _ _ _ (by omega) ho
    · exact put4_hi _ _ _ (by omega) (by simp; omega)
  have e2 : (bareB b).getD k 0#8 = b.getD k 0#8 := by rw [List.getD_eq_getElem?_getD, List.getD_eq_getElem?_getD, e1]
  refine ⟨?_, e2⟩
  apply List.ext_getElem?
  intro i
  by_cases hi : i = k
  · subst hi
    rw [turn_at (by omega), e2]
    have : (bareB (turn b i x))[i]? = (turn b i x)[i]? := by
      unfold bareB
      rcases ho with ho | ho
      · exact put4_lo _ _ _ (by omega) ho
      · exact put4_hi _ _ _ (by omega) (by simp; omega)
    rw [this, turn_at (by omega)]
  · rw [turn_other hi]
    unfold bareB
    by_cases h1 : i < 4
    · rw [put4_lo _ _ _ (by omega) h1, put4_lo _ _ _ (by omega) h1, turn_other hi]
    · by_cases h2 : i < 8
      · rw [put4_in _ _ _ (by omega) (by omega) (by simp; omega), put4_in _ _ _ (by omega) (by omega) (by simp; omega)]
      · rw [put4_hi _ _ _ (by omega) (by simp; omega), put4_hi _ _ _ (by omega) (by simp; omega), turn_other hi]
theorem sum_turned {b : List (BitVec 8)} (h : b.length = 256) (hs : sum4 (bareB b) = sumIn b) {k : Nat} (hk : k < 256) {x : BitVec 8} (hx : x ≠ 0#8) : sum4 (bareB (turn b k x)) ≠ sumIn (turn b k x) := by
  by_cases hi : 4 ≤ k ∧ k < 8
  · rw [bare_in h hi, hs]
    intro e
    have e1 : (sumIn b)[k - 4]? = (sumIn (turn b k x))[k - 4]? := by rw [← e]
    rw [sumIn_get (by omega), sumIn_get (by omega), show 4 + (k - 4) = k by omega, turn_at (by omega), getD_some (by omega)] at e1
    exact xor_ne hx (Option.some.inj e1).symm
  · have ho : k < 4 ∨ 8 ≤ k := by omega
    obtain ⟨e1, e2⟩ := bare_out h hk ho (x := x)
    have e3 : sumIn (turn b k x) = sumIn b := by
      apply List.ext_getElem?
      intro i
      by_cases c : i < 4
      · rw [sumIn_get c, sumIn_get c, turn_other (by omega)]
      · rw [List.getElem?_eq_none (by rw [sumIn_len (by rw [turn_len]; exact h)]; omega), List.getElem?_eq_none (by rw [sumIn_len h]; omega)]
    rw [e3, ← hs, e1]
    intro e
    have hbl := bare_len h
    have := sum4_inj e
    have k2 : k < (bareB b).length := by omega
    have ht : turn (bareB b) k x = (bareB b).set k ((bareB b)[k] ^^^ x) := by
      unfold turn
      rw [List.getD_eq_getElem?_getD, List.getElem?_eq_getElem k2]; rfl
    rw [ht] at this
    exact hx ((sumL_turned (bareB b) k k2 x).1 this.symm)
theorem turn_zero {b : List (BitVec 8)} {k : Nat} (h : k < b.length) : turn b k 0#8 = b := by
  apply List.ext_getElem?
  intro i
  by_cases hi : i = k
  · subst hi; rw [turn_at h, getD_some h]; simp
  · rw [turn_other hi]
theorem decode_turned {n : Nd} (h : nodeFits n = true) {k : Nat} (hk : k < 256) {x : BitVec 8} (hx : x ≠ 0#8) : decode (turn (encB n) k x) = (Nd.zero, 5) := by
  unfold decode
  rw [if_pos (by rw [turn_len, encB_len h]), if_neg (sum_turned (encB_len h) (enc_sum h) hk hx)]
/-! ### with the sum put right -/
def wholeB (b : List (BitVec 8)) : List (BitVec 8) := put4 (bareB b) 4 (sum4 (bareB b))
theorem whole_len {b : List (BitVec 8)} (h : b.length = 256) : (wholeB b).length = 256 := by
  unfold wholeB; rw [put4_len _ _ _ (by rw [bare_len h, sum4_len]; omega), bare_len h]
theorem whole_sum {b : List (BitVec 8)} (h : b.length = 256) : sum4 (bareB (wholeB b)) = sumIn (wholeB b) := by
  have hl := bare_len h
  have e : bareB (wholeB b) = bareB b := by
    unfold wholeB
    unfold bareB
    rw [put4_put4 _ _ _ _ (by rw [sum4_len]; rfl) (by rw [sum4_len, put4_len _ _ _ (by simp; omega)]; omega), put4_put4 _ _ _ _ rfl (by simp; omega)]
  rw [e]
  exact (sumIn_put hl (sum4_len _)).symm
theorem whole_at {b : List (BitVec 8)} (h : b.length = 256) {k : Nat} (hk : k < 256) (ho : k < 4 ∨ 8 ≤ k) : (wholeB b)[k]? = b[k]? := by
  have hl := bare_len h
  have e1 : (bareB b)[k]? = b[k]? := by
    unfold bareB
    rcases ho with ho | ho
    · exact put4_lo _ _ _ (by omega) ho
    · exact put4_hi _ _ _ (by omega) (by simp; omega)
  rw [← e1]
  unfold wholeB
  rcases ho with ho | ho
  · exact put4_lo _ _ _ (by omega) ho
  · exact put4_hi _ _ _ (by omega) (by rw [sum4_len]; omega)
/-- a block with its sum right is a node, or none -/
theorem decode_whole {b : List (BitVec 8)} (h : b.length = 256) : (decode (wholeB b) = (Nd.zero, 4)) ∨ (∃ m, decode (wholeB b) = (m, 0) ∧ nodeFits m = true ∧ encB m = wholeB b) := by
  unfold decode
  rw [if_pos (whole_len h), if_pos (whole_sum h)]
  by_cases c : (rdNode (wholeB b)).2.bad = false ∧ (encode (rdNode (wholeB b)).1).2 = 0 ∧ (encode (rdNode (wholeB b)).1).1 = wholeB b
  · rw [if_pos c]
    obtain ⟨_, c2, c3⟩ := c
    refine .inr ⟨_, rfl, ?_, ?_⟩
    · cases hf : nodeFits (rdNode (wholeB b)).1 with
      | true => rfl
      | false =>
        unfold encode at c2
        rw [hf, if_neg (by simp)] at c2
        exact absurd c2 (by decide)
    · cases hf : nodeFits (rdNode (wholeB b)).1 with
      | true =>
        unfold encode at c3
        rw [if_pos hf] at c3
        exact c3
      | false =>
        unfold encode at c2
        rw [hf, if_neg (by simp)] at c2
        exact absurd c2 (by decide)
  · rw [if_neg c]; exact .inl rfl
theorem turned_ne {n m : Nd} (hn : nodeFits n = true) (hm : nodeFits m = true) {k : Nat} (hk : k < 256) (ho : k < 4 ∨ 8 ≤ k) {x : BitVec 8} (hx : x ≠ 0#8) (he : encB m = wholeB (turn (encB n) k x)) : m ≠ n := fun e => by
  subst e
  have hl := encB_len hm
  have h1 := whole_at (b := turn (encB m) k x) (by rw [turn_len, hl]) hk ho
  rw [← he, turn_at (by omega), getD_some (by omega)] at h1
  exact xor_ne hx (Option.some.inj h1).symm
/-! ### steps -/
section
variable {E : Env} {nt : Nat} {ops : Array Oper} {T : Nat → Option AV} {H : Hp} {d : Option Nat} {ty : TypeId} {pos : String} {af : Array Edge} {gd : Option (Nat × Bool)}
/-- a byte's rest -/
theorem o_remb {t t' : TypeId} {x y : Operand} {a : BitVec 8} {m : Int} {k : Nat} (hd : dOk nt d = true) (hx : evalO T x = some (byteA a)) (hy : evalO T y = some (.v (.int .u8 m))) (h0 : m ≠ 0) (hm : natOf m = some k) : OpOK Try.prog E nt ops ⟨d, .binOp .rem t x y t', ty, pos, af, gd⟩ T H [] ⟨byteA (BitVec.ofNat 8 (a.toNat % k)), []⟩ := by
  have := natOf_eq hm; subst this
  refine ok_rem hd hx hy h0 ?_
  have hk : 0 < k := by omega
  rw [B8_def, B8_def, BitVec.toNat_ofNat]
  have h1 := a.isLt
  have h2 : a.toNat % k ≤ a.toNat := Nat.mod_le _ _
  rw [Nat.mod_eq_of_lt (by omega)]
  exact (Int.ofNat_tmod a.toNat k).symm
end
theorem wV {Q R : Prop} (k : R) (h : Hid R → Q := by intro kHid; (repeat (first | (first | refine Wend _ ?_ | refine AW_seq ?_ | refine AW_reg ?_ | refine AW_drw mixed ?_ | refine AW_block ?_ | refine AW_scope ?_ | refine thenA_n ?_ | refine blockA_n ?_ | refine blockA_h ?_ | refine scopeA_n ?_ | refine thenA_r ?_ | refine blockA_r ?_ | refine scopeA_r ?_ | refine thenA_e ?_ | refine scopeA_e ?_ | refine blockA_e rfl ?_ | refine AW_exit ?_ | refine AW_ret ?_ | refine AW_skip ?_ | refine AW_c rfl ?_ | with_reducible refine cb_t ?_ | with_reducible refine cb_f ?_ | with_reducible refine cb_yes (by first | assumption | omega) ?_ | with_reducible refine cb_no (by first | assumption | omega) ?_ | refine And.intro (by decide +kernel) ?_) | (first | (apply Wv; (focus (first | exact step_ok rfl rfl | exact ok_nilc rfl rfl | exact o_remb rfl rfl rfl (by decide) rfl | exact o_idx rfl rfl rfl rfl (by first | assumption | omega | decide) | exact o_idx3 rfl rfl rfl rfl (by first | assumption | omega | decide) | exact o_idx2 rfl rfl rfl rfl rfl (by first | assumption | omega | decide | exact Nat.lt_of_lt_of_le (m := 256) (by decide) (by omega)) | exact o_idxr rfl rfl rfl rfl rfl rfl | exact o_lenm rfl rfl rfl | exact o_len rfl rfl rfl | exact o_len0 rfl rfl rfl | exact o_lens rfl rfl rfl | exact o_lent rfl rfl | exact ob_len rfl rfl rfl rfl (by first | rfl | assumption | omega | (simp; done) | (simp; omega)) | exact o_add1 rfl rfl rfl (by omega) | exact o_addn rfl rfl rfl (by omega) | exact o_addc rfl rfl rfl (by omega) (by omega) | exact o_add rfl rfl rfl (by omega) | exact o_sub1 rfl rfl rfl (by omega) | exact o_sub rfl rfl rfl (by omega) | exact o_acall rfl rfl rfl rfl (by assumption) | exact o_convb ⟨_, Try.underlying3⟩ Try.underlying5 rfl rfl | exact o_convu ⟨_, Try.underlying3⟩ Try.underlying71 rfl rfl | exact o_cv32 ⟨_, Try.underlying77⟩ Try.underlying71 rfl rfl | exact o_cvk ⟨_, Try.underlying71⟩ Try.underlying3 rfl rfl | exact o_cv8 ⟨_, Try.underlying5⟩ Try.underlying3 rfl rfl | exact o_convs Try.underlying33 Try.underlying5 Try.underlying9 rfl rfl | exact ob_cutr rfl rfl rfl (by simp) (by decide) | exact ob_cutf rfl rfl rfl rfl rfl rfl (by simp) (by decide) | exact ob_cutfh rfl rfl rfl rfl rfl rfl rfl (by first | assumption | omega) (by simp) (by decide) | exact ok_cut_arr tabT rfl rfl rfl bnd_none (Nat.le_refl _) (by decide) | exact o_cutlh rfl rfl rfl rfl rfl (by omega) (by omega) | exact o_cutl rfl rfl rfl rfl (by omega) | exact o_cuth rfl rfl rfl rfl (by omega) | exact o_cutl3 rfl rfl rfl rfl (by omega) | exact o_cuth3 rfl rfl rfl rfl (by omega) | exact o_cutl2 rfl rfl rfl rfl rfl (by omega) | exact o_cuth2 rfl rfl rfl rfl rfl (by omega) | exact o_cutlh2 rfl rfl rfl rfl rfl rfl rfl (by first | omega | decide) (by first | omega | exact Nat.le_trans (m := 256) (by decide) (by omega)) | exact ob_cutl rfl rfl rfl rfl rfl rfl (by first | rfl | assumption | omega | (simp; done) | (simp; omega)) (by first | rfl | assumption | omega | (simp; done) | (simp; omega)) | exact ob_cutlh rfl rfl rfl rfl rfl rfl rfl rfl (by first | rfl | assumption | omega | (simp; done) | (simp; omega)) (by first | rfl | assumption | omega | (simp; done) | (simp; omega)) (by first | rfl | assumption | omega | (simp; done) | (simp; omega)) | exact ob_idx rfl rfl rfl rfl rfl rfl (by first | rfl | assumption | omega | (simp; done) | (simp; omega)) (by first | rfl | assumption | omega | (simp; done) | (simp; omega)) | exact ob_ld rfl rfl rfl (by first | rfl | assumption | omega | (simp; done) | (simp; omega)) (by first | rfl | assumption | omega | (simp; done) | (simp; omega)) rfl rfl | exact ob_eqs rfl rfl rfl | exact ob_nes rfl rfl rfl | exact o_bld zero_reader rfl rfl rfl rfl rfl rfl rfl | exact o_mkfnF rfl rfl rfl | exact o_bld zero_refreader rfl rfl rfl rfl rfl rfl rfl | exact e_bld rfl rfl rfl | exact e_bldk rfl rfl | exact z_bld0 rfl rfl rfl rfl rfl | exact z_bld rfl rfl rfl rfl rfl rfl rfl | exact o_mkfn rfl rfl rfl | exact o_xorb rfl rfl rfl)); (focus (first | exact want_n | exact want_g rfl (by with_reducible rfl)))) | (apply Wb; (focus (first | exact o_box rfl rfl rfl rfl | exact ob_app rfl rfl rfl rfl rfl (by first | exact o_many rfl | exact o_one _ _ rfl | exact o_zero rfl) (by first | rfl | assumption | omega | (simp; done) | (simp; omega)) (by first | omega | (simp; omega) | (simp; done)) (by first | omega | (simp; omega) | (simp; done)) | exact oo_app0 rfl rfl rfl rfl rfl (by first | exact o_many rfl | exact o_one _ _ rfl | exact o_zero rfl) (by first | omega | (simp; omega) | (simp; done)) (by first | omega | (simp; omega) | (simp; done)) | exact o_app rfl rfl rfl rfl rfl (by first | exact o_many rfl | exact o_one _ _ rfl | exact o_zero rfl) (by first | omega | (simp; omega) | (simp; done)) (by first | omega | (simp; omega) | (simp; done)) | exact o_appn rfl rfl rfl rfl rfl (by first | exact o_many rfl | exact o_one _ _ rfl | exact o_zero rfl) (by first | omega | (simp; omega) | (simp; done)) (by first | omega | (simp; omega) | (simp; done)) | exact o_app1 rfl rfl rfl rfl rfl (by first | exact o_many rfl | exact o_one _ _ rfl | exact o_zero rfl) (by exact rfl) (by first | omega | (simp; omega) | (simp; done)) (by first | omega | (simp; omega) | (simp; done)) | exact o_app0 rfl rfl rfl rfl rfl (by first | exact o_many rfl | exact o_one _ _ rfl | exact o_zero rfl) (by first | omega | (simp; omega) | (simp; done)) (by first | omega | (simp; omega) | (simp; done)) | exact o_bsl0 rfl rfl rfl | exact z_bsll rfl rfl rfl rfl rfl rfl rfl rfl rfl | exact z_alloc rfl rfl rfl | exact ob_copy rfl rfl rfl rfl rfl (by first | rfl | assumption | omega | (simp; done) | (simp; omega)) (by first | rfl | assumption | omega | (simp; done) | (simp; omega)) (by first | rfl | assumption | omega | (simp; done) | (simp; omega)) (by first | rfl | assumption | omega | (simp; done) | (simp; omega)) | exact ob_zeros (f := byteA) (z := 0#8) Try.underlying3 rfl rfl rfl rfl rfl rfl (by omega) (by first | rfl | assumption | omega | (simp; done) | (simp; omega)) (by first | omega | (simp; omega) | (simp; done)) (by first | omega | (simp; omega) | (simp; done)) | exact ob_makeT (f := byteA) (z := 0#8) rfl rfl rfl rfl rfl rfl rfl rfl (by decide) (by decide))); (focus (first | exact want_n | exact want_g rfl (by with_reducible rfl)))) | (apply Ws; (focus (first | exact ob_st rfl rfl rfl (by first | rfl | assumption | omega | (simp; done) | (simp; omega)) (by first | rfl | assumption | omega | (simp; done) | (simp; omega)) rfl (fun _ => rfl) rfl rfl | exact ob_st0 rfl rfl rfl (by first | rfl | assumption | omega | (simp; done) | (simp; omega)) (by first | rfl | assumption | omega | (simp; done) | (simp; omega)) rfl | exact ok_store tabT (d := none) rfl rfl rfl rfl rfl rfl rfl rfl rfl rfl | exact ob_clear (f := byteA) (z := 0#8) rfl rfl rfl rfl (by first | rfl | assumption | omega | (simp; done) | (simp; omega)) (by first | rfl | assumption | omega | (simp; done) | (simp; omega)) (by first | rfl | assumption | omega | (simp; done) | (simp; omega)))); (focus (first | exact want_n | exact want_g rfl (by with_reducible rfl)))) | (refine Wskip (by first | exact want_f rfl (by with_reducible exact b_nt) | exact want_f rfl (by with_reducible exact b_nf) | exact want_t rfl) rfl ?_) | refine Wgt rfl rfl (by first | assumption | omega | exact rfl) ?_ | refine Wgf rfl rfl (by first | assumption | omega | exact rfl) ?_ | (refine Wgb rfl rfl (by with_reducible assumption) ?_) | (refine cb_is _ (by assumption) ?_)))); exact kHid.out) : Q := h ⟨k⟩
theorem wRX {Q R : Prop} (k : R) (h : Hid R → Q := by intro kHid; (repeat (first | (first | refine Wend _ ?_ | refine AW_seq ?_ | refine AW_reg ?_ | refine AW_drw mixed ?_ | refine AW_block ?_ | refine AW_scope ?_ | refine blockA_n ?_ | refine blockA_h ?_ | refine scopeA_n ?_ | refine thenA_r ?_ | refine blockA_r ?_ | refine scopeA_r ?_ | refine thenA_e ?_ | refine scopeA_e ?_ | refine blockA_e rfl ?_ | refine AW_exit ?_ | refine AW_ret ?_ | refine AW_skip ?_ | refine AW_c rfl ?_ | with_reducible refine cb_t ?_ | with_reducible refine cb_f ?_ | with_reducible refine cb_yes (by first | assumption | omega) ?_ | with_reducible refine cb_no (by first | assumption | omega) ?_ | refine And.intro (by decide +kernel) ?_) | (first | (apply Wv; (focus (first | exact step_ok rfl rfl | exact ok_nilc rfl rfl | exact o_idx rfl rfl rfl rfl (by first | assumption | omega | decide) | exact o_idx3 rfl rfl rfl rfl (by first | assumption | omega | decide) | exact o_idx2 rfl rfl rfl rfl rfl (by first | assumption | omega | decide | exact Nat.lt_of_lt_of_le (m := 256) (by decide) (by omega)) | exact o_idxr rfl rfl rfl rfl rfl rfl | exact o_lenm rfl rfl rfl | exact o_len rfl rfl rfl | exact o_len0 rfl rfl rfl | exact o_lens rfl rfl rfl | exact o_lent rfl rfl | exact ob_len rfl rfl rfl rfl (by first | rfl | assumption | omega | (simp; done) | (simp; omega)) | exact o_add1 rfl rfl rfl (by omega) | exact o_addn rfl rfl rfl (by omega) | exact o_addc rfl rfl rfl (by omega) (by omega) | exact o_add rfl rfl rfl (by omega) | exact o_sub1 rfl rfl rfl (by omega) | exact o_sub rfl rfl rfl (by omega) | exact o_acall rfl rfl rfl rfl (by assumption) | exact o_convb ⟨_, Try.underlying3⟩ Try.underlying5 rfl rfl | exact o_convu ⟨_, Try.underlying3⟩ Try.underlying71 rfl rfl | exact o_cv32 ⟨_, Try.underlying77⟩ Try.underlying71 rfl rfl | exact o_cvk ⟨_, Try.underlying71⟩ Try.underlying3 rfl rfl | exact o_cv8 ⟨_, Try.underlying5⟩ Try.underlying3 rfl rfl | exact o_convs Try.underlying33 Try.underlying5 Try.underlying9 rfl rfl | exact ob_cutr rfl rfl rfl (by simp) (by decide) | exact ob_cutf rfl rfl rfl rfl rfl rfl (by simp) (by decide) | exact ob_cutfh rfl rfl rfl rfl rfl rfl rfl (by first | assumption | omega) (by simp) (by decide) | exact ok_cut_arr tabT rfl rfl rfl bnd_none (Nat.le_refl _) (by decide) | exact o_cutlh rfl rfl rfl rfl rfl (by omega) (by omega) | exact o_cutl rfl rfl rfl rfl (by omega) | exact o_cuth rfl rfl rfl rfl (by omega) | exact o_cutl3 rfl rfl rfl rfl (by omega) | exact o_cuth3 rfl rfl rfl rfl (by omega) | exact o_cutl2 rfl rfl rfl rfl rfl (by omega) | exact o_cuth2 rfl rfl rfl rfl rfl (by omega) | exact o_cutlh2 rfl rfl rfl rfl rfl rfl rfl (by first | omega | decide) (by first | omega | exact Nat.le_trans (m := 256) (by decide) (by omega)) | exact ob_cutl rfl rfl rfl rfl rfl rfl (by first | rfl | assumption | omega | (simp; done) | (simp; omega)) (by first | rfl | assumption | omega | (simp; done) | (simp; omega)) | exact ob_cutlh rfl rfl rfl rfl rfl rfl rfl rfl (by first | rfl | assumption | omega | (simp; done) | (simp; omega)) (by first | rfl | assumption | omega | (simp; done) | (simp; omega)) (by first | rfl | assumption | omega | (simp; done) | (simp; omega)) | exact ob_idx rfl rfl rfl rfl rfl rfl (by first | rfl | assumption | omega | (simp; done) | (simp; omega)) (by first | rfl | assumption | omega | (simp; done) | (simp; omega)) | exact ob_ld rfl rfl rfl (by first | rfl | assumption | omega | (simp; done) | (simp; omega)) (by first | rfl | assumption | omega | (simp; done) | (simp; omega)) rfl rfl | exact ob_eqs rfl rfl rfl | exact ob_nes rfl rfl rfl | exact o_bld zero_reader rfl rfl rfl rfl rfl rfl rfl | exact o_mkfnF rfl rfl rfl | exact o_bld zero_refreader rfl rfl rfl rfl rfl rfl rfl | exact e_bld rfl rfl rfl | exact e_bldk rfl rfl | exact z_bld0 rfl rfl rfl rfl rfl | exact z_bld rfl rfl rfl rfl rfl rfl rfl | exact o_mkfn rfl rfl rfl | exact o_xorb rfl rfl rfl)); (focus (first | exact want_n | exact want_g rfl (by with_reducible rfl)))) | (apply Wb; (focus (first | exact o_box rfl rfl rfl rfl | exact ob_app rfl rfl rfl rfl rfl (by first | exact o_many rfl | exact o_one _ _ rfl | exact o_zero rfl) (by first | rfl | assumption | omega | (simp; done) | (simp; omega)) (by first | omega | (simp; omega) | (simp; done)) (by first | omega | (simp; omega) | (simp; done)) | exact oo_app0 rfl rfl rfl rfl rfl (by first | exact o_many rfl | exact o_one _ _ rfl | exact o_zero rfl) (by first | omega | (simp; omega) | (simp; done)) (by first | omega | (simp; omega) | (simp; done)) | exact o_app rfl rfl rfl rfl rfl (by first | exact o_many rfl | exact o_one _ _ rfl | exact o_zero rfl) (by first | omega | (simp; omega) | (simp; done)) (by first | omega | (simp; omega) | (simp; done)) | exact o_appn rfl rfl rfl rfl rfl (by first | exact o_many rfl | exact o_one _ _ rfl | exact o_zero rfl) (by first | omega | (simp; omega) | (simp; done)) (by first | omega | (simp; omega) | (simp; done)) | exact o_app1 rfl rfl rfl rfl rfl (by first | exact o_many rfl | exact o_one _ _ rfl | exact o_zero rfl) (by exact rfl) (by first | omega | (simp; omega) | (simp; done)) (by first | omega | (simp; omega) | (simp; done)) | exact o_app0 rfl rfl rfl rfl rfl (by first | exact o_many rfl | exact o_one _ _ rfl | exact o_zero rfl) (by first | omega | (simp; omega) | (simp; done)) (by first | omega | (simp; omega) | (simp; done)) | exact o_bsl0O rfl rfl rfl | exact z_bsll rfl rfl rfl rfl rfl rfl rfl rfl rfl | exact z_alloc rfl rfl rfl | exact ob_copy rfl rfl rfl rfl rfl (by first | rfl | assumption | omega | (simp; done) | (simp; omega)) (by first | rfl | assumption | omega | (simp; done) | (simp; omega)) (by first | rfl | assumption | omega | (simp; done) | (simp; omega)) (by first | rfl | assumption | omega | (simp; done) | (simp; omega)) | exact ob_zeros (f := byteA) (z := 0#8) Try.underlying3 rfl rfl rfl rfl rfl rfl (by omega) (by first | rfl | assumption | omega | (simp; done) | (simp; omega)) (by first | omega | (simp; omega) | (simp; done)) (by first | omega | (simp; omega) | (simp; done)) | exact ob_make (f := byteA) (z := 0#8) rfl rfl rfl rfl rfl rfl rfl rfl (by decide) (by decide))); (focus (first | exact want_n | exact want_g rfl (by with_reducible rfl)))) | (apply Ws; (focus (first | exact ob_st rfl rfl rfl (by first | rfl | assumption | omega | (simp; done) | (simp; omega)) (by first | rfl | assumption | omega | (simp; done) | (simp; omega)) rfl (fun _ => rfl) rfl rfl | exact ob_st0 rfl rfl rfl (by first | rfl | assumption | omega | (simp; done) | (simp; omega)) (by first | rfl | assumption | omega | (simp; done) | (simp; omega)) rfl | exact ok_store tabT (d := none) rfl rfl rfl rfl rfl rfl rfl rfl rfl rfl | exact ob_clear (f := byteA) (z := 0#8) rfl rfl rfl rfl (by first | rfl | assumption | omega | (simp; done) | (simp; omega)) (by first | rfl | assumption | omega | (simp; done) | (simp; omega)) (by first | rfl | assumption | omega | (simp; done) | (simp; omega)))); (focus (first | exact want_n | exact want_g rfl (by with_reducible rfl)))) | (refine Wskip (by first | exact want_f rfl (by with_reducible exact b_nt) | exact want_f rfl (by with_reducible exact b_nf) | exact want_t rfl) rfl ?_) | refine Wgt rfl rfl (by first | assumption | omega | exact rfl) ?_ | refine Wgf rfl rfl (by first | assumption | omega | exact rfl) ?_ | (refine Wgb rfl rfl (by with_reducible assumption) ?_) | (refine cb_is _ (by assumption) ?_)))); exact kHid.out) : Q := h ⟨k⟩
attribute [local irreducible] OpOK AWops AW CondB Go2 AFn thenA inBlockA noGotoA orderOk wantedA
set_option maxRecDepth 100000 in
set_option maxHeartbeats 8000000 in
theorem a_whole (b : List (BitVec 8)) (h : b.length = 256) : AFn Try.prog 17 [bytesA b] (bytesA (wholeB b)) := by
  have hbs := bare_sets h
  have c1 := c_refsum ((((b.set 4 0#8).set 5 0#8).set 6 0#8).set 7 0#8)
  rw [show ((((b.set 4 0#8).set 5 0#8).set 6 0#8).set 7 0#8).length = b.length by simp] at c1
  have c2 := a_refputnil ((sumL (bareB b)).setWidth 64) 4 (by omega) (by omega)
  have hs4 := sum4_len (bareB b)
  unfold sum4 at hs4
  have hbl := bare_len h
  have hwl : (wholeB b).length = b.length := by rw [whole_len h, h]
  refine AFn_intro Try.func17 rfl Try.ntmps17 rfl (by simp) [_] rfl fun E hE => ?_; have hnt : (!true) = false := rfl; have hnf : (!false) = true := rfl
  have d1 := ccall Try.func37 (c1) (by decide +kernel) (by decide +kernel)
  have d2 := acall Try.func43 (c2) (by decide +kernel) (by decide +kernel)
  refine wX ?_
  (apply WvN [5]; (focus (exact o_rcall [(1000, 5)] d1 rfl rfl rfl rfl rfl (by repeat (first | exact .nil | refine .cons (.inl ⟨rfl, rfl⟩) ?_ | refine .cons (.inr ⟨rfl, fun _ => Wk.tok⟩) ?_)) (by repeat' (first | exact True.intro | rfl | apply And.intro)) (by repeat' (first | exact True.intro | rfl | apply And.intro)) rfl rfl)); (focus (exact rfl)); (focus (first | exact want_n | exact want_g rfl (by with_reducible rfl))))
  rw [hbs]
  refine wRX ?_
  refine thenA_n ?_
  refine wRX ?_
  refine thenA_n ?_
  refine AW_go (S' := ⟨[(3, .own 5 1 (wholeB b).length .row)], [(5, .own 5 1 ((wholeB b).map byteA))]⟩) (by rw [hwl]; (refine Go2.sub ⟨?_, ?_, ?_⟩ <;> repeat' (first | exact True.intro | rfl | apply And.intro))) ?_; refine AW_go (Go2.thaw (S' := ⟨[(3, .sl (some 5) 1 ((wholeB b).map byteA))], [(5, .tail 5 1 ((wholeB b).map byteA).length)]⟩) 5 rfl (by repeat' (first | exact True.intro | rfl | apply And.intro | (simp; done))) (by repeat' (first | exact True.intro | rfl | apply And.intro | (simp; done))) rfl) ?_
  refine wX ?_
  exact fin ⟨res_sl rfl, trivial⟩
end Go.Proofs.Ytcmdhpinelnclaa

namespace Go.Proofs.Ytcmdhpinelnclaa
open Go Go.RowKit
set_option linter.unusedVariables false
set_option linter.unusedSimpArgs false
set_option maxRecDepth 100000

theorem B8_zero_iff {x : BitVec 8} : (B8 x = 0) ↔ x = 0#8 := by
  rw [B8_def]
  constructor
  · intro h
    apply BitVec.eq_of_toNat_eq
    have : x.toNat = 0 := by omega
    simpa using this
  · intro h; subst h; rfl
theorem place256 {v : Int} : ∃ k : Nat, v % 256 = (k : Int) ∧ k < 256 := ⟨(v % 256).toNat, by have := Int.emod_nonneg v (show (256 : Int) ≠ 0 by omega); omega, by have := Int.emod_lt_of_pos v (show (0 : Int) < 256 by omega); have := Int.emod_nonneg v (show (256 : Int) ≠ 0 by omega); omega⟩
theorem set_turn {b : List (BitVec 8)} {k : Nat} (h : k < b.length) (x : BitVec 8) : b.set k (b[k] ^^^ x) = turn b k x := by
  unfold turn
  rw [List.getD_eq_getElem?_getD, List.getElem?_eq_getElem h]; rfl
theorem short_decode {b : List (BitVec 8)} (h : b.length ≠ 256) : decode b = (Nd.zero, 4) := by unfold decode; rw [if_neg h]
theorem encode_fits {n : Nd} (h : nodeFits n = true) : encode n = (encB n, 0) := by unfold encode; rw [if_pos h]
def bytesC (b : List (BitVec 8)) (x1 x2 x3 : BitVec 8) : List (BitVec 8) := (((put4 (List.replicate 256 0#8) 8 (b.take 248)).set 0 (BitVec.ofNat 8 (x1.toNat % 4))).set 1 (BitVec.ofNat 8 (x2.toNat % 8))).set 2 (BitVec.ofNat 8 (x3.toNat % 4))
end Go.Proofs.Ytcmdhpinelnclaa

namespace Go.Proofs.Ytcmdhpinelnclaa
open Go Go.RowKit
set_option linter.unusedVariables false
set_option linter.unusedSimpArgs false
set_option maxRecDepth 100000

attribute [local irreducible] OpOK AWops AW CondB Go2 AFn thenA inBlockA noGotoA orderOk wantedA
set_option maxRecDepth 100000 in
set_option maxHeartbeats 16000000 in
theorem a_codecTurned (e p : List Int) (v : Int) (l : List Int) (inner : Bool) (k0 : Int) (x : BitVec 8) (he : ∀ n ∈ e, -9223372036854775808 ≤ n ∧ n ≤ 9223372036854775807) (hl : p.length ≤ 17592186044400) (hb : ∀ n ∈ p, -9223372036854775808 ≤ n ∧ n ≤ 9223372036854775807) (hv : -9223372036854775808 ≤ v ∧ v ≤ 9223372036854775807) (hlb : ∀ n ∈ l, -9223372036854775808 ≤ n ∧ n ≤ 9223372036854775807) (hk0 : -9223372036854775808 ≤ k0 ∧ k0 ≤ 9223372036854775807) :
    AFn Try.prog 6 [intsA e, intsA p, intA v, intsA l, boolA inner, intA k0, byteA x] (boolA true) := by
  have c0 := a_lleaf e he
  have c1 := a_inner p v l hl hb hv hlb
  have hL := leafN_fits e
  have hI := innerN_fits p v l
  have cp := a_lplace k0 256 (by omega) (by omega) hk0
  obtain ⟨k, ek, hk⟩ := place256 (v := k0)
  rw [ek] at cp
  generalize leafN e = L at *
  generalize innerN p v l = I at *
  cases inner
  · have ce := a_cencode L (fits_sm hL)
    rw [encode_fits hL] at ce
    have hbl := encB_len hL
    have cd1 := a_cdecode (turn (encB L) k x) (by rw [turn_len]; omega)
    have cd2 := a_cdecode ((encB L).take k) (by rw [List.length_take]; omega)
    rw [short_decode (by rw [List.length_take]; omega)] at cd2
    have cd3 := a_cdecode (encB L ++ [x]) (by rw [List.length_append, List.length_singleton]; omega)
    rw [short_decode (by rw [List.length_append, List.length_singleton]; omega)] at cd3
    by_cases hx : x = 0#8
    · have hd1 : decode (turn (encB L) k x) = (L, 0) := by rw [hx, turn_zero (by omega), decode_enc hL]
      rw [hd1] at cd1
      clear hd1
      have hx0 : B8 x = 0 := B8_zero_iff.2 hx
      have cs := a_refsame L L (fits_sm hL)
      rw [decide_eq_true rfl] at cs
      dsimp only at ce cd1 cd2 cd3
      generalize encB L = bb at *
      refine AFn_intro Try.func6 rfl Try.ntmps6 rfl (by simp) [_] rfl fun E hE => ?_; have hnt : (!true) = false := rfl; have hnf : (!false) = true := rfl
      have d0 := acall Try.func10 (c0) (by decide +kernel) (by decide +kernel)
      have d1 := acall Try.func11 (c1) (by decide +kernel) (by decide +kernel)
      have d2 := acall Try.func18 (ce) (by decide +kernel) (by decide +kernel)
      have d3 := acall Try.func14 (cd1) (by decide +kernel) (by decide +kernel)
      have d4 := acall Try.func14 (cd2) (by decide +kernel) (by decide +kernel)
      have d5 := acall Try.func14 (cd3) (by decide +kernel) (by decide +kernel)
      have d6 := acall Try.func16 (cs) (by decide +kernel) (by decide +kernel)
      have d7 := acall Try.func12 (a_awake11) (by decide +kernel) (by decide +kernel)
      refine wX ?_
      (apply Wv; (focus (apply o_call Try.func19 (cp) rfl (by decide +kernel) rfl rfl; (any_goals (intro _; (repeat (first | exact wkl0 | refine wkd rfl ?_ | refine wkt ?_ | refine wkn ?_)); done)); (any_goals rfl))); (focus (first | exact want_n | exact want_g rfl (by with_reducible rfl))))
      refine wRX ?_
      refine thenA_n ?_
      refine wRX ?_
      refine thenA_n ?_
      rw [set_turn]
      refine AW_go (S' := ⟨[(6, byteA x), (15, .ptr 15 0 []), (16, bytesA bb), (18, .own 45 1 (turn bb k x).length .row), (19, intA (k : Nat))], [(15, .var (Nd.av L)), (45, .own 5 1 ((turn bb k x).map byteA))]⟩) (by rw [turn_len]; (refine Go2.sub ⟨?_, ?_, ?_⟩ <;> repeat' (first | exact True.intro | rfl | apply And.intro))) ?_
      refine AW_go (Go2.thaw (S' := ⟨[(6, byteA x), (15, .ptr 15 0 []), (16, bytesA bb), (18, .sl (some 45) 1 ((turn bb k x).map byteA)), (19, intA (k : Nat))], [(15, .var (Nd.av L)), (45, .tail 5 1 ((turn bb k x).map byteA).length)]⟩) 45 rfl (by repeat' (first | exact True.intro | rfl | apply And.intro | (simp; done))) (by repeat' (first | exact True.intro | rfl | apply And.intro | (simp; done))) rfl) ?_
      refine wV ?_
      exact fin ⟨res_of rfl rfl rfl, trivial⟩
    · have hd1 := decode_turned hL hk hx
      rw [hd1] at cd1
      clear hd1
      have hx0 : ¬ B8 x = 0 := fun h => hx (B8_zero_iff.1 h)
      have cs := AFn_weak (a_refsame Nd.zero Nd.zero zero_sm) (xs := [Nd.zero.av, nodeA false nilA nilA nilA nilA]) (fun H => .cons (Wk.data rfl) (.cons (Wk.agg (.cons (Wk.data rfl) (.cons Wk.nil (.cons Wk.nil (.cons Wk.nil (.cons Wk.nil .nil)))))) .nil))
      rw [decide_eq_true rfl] at cs
      dsimp only at ce cd1 cd2 cd3
      generalize encB L = bb at *
      refine AFn_intro Try.func6 rfl Try.ntmps6 rfl (by simp) [_] rfl fun E hE => ?_; have hnt : (!true) = false := rfl; have hnf : (!false) = true := rfl
      have d0 := acall Try.func10 (c0) (by decide +kernel) (by decide +kernel)
      have d1 := acall Try.func11 (c1) (by decide +kernel) (by decide +kernel)
      have d2 := acall Try.func18 (ce) (by decide +kernel) (by decide +kernel)
      have d3 := acall Try.func14 (cd1) (by decide +kernel) (by decide +kernel)
      have d4 := acall Try.func14 (cd2) (by decide +kernel) (by decide +kernel)
      have d5 := acall Try.func14 (cd3) (by decide +kernel) (by decide +kernel)
      have d6 := acall Try.func16 (cs) (by decide +kernel) (by decide +kernel)
      have d7 := acall Try.func12 (a_awake11) (by decide +kernel) (by decide +kernel)
      refine wX ?_
      (apply Wv; (focus (apply o_call Try.func19 (cp) rfl (by decide +kernel) rfl rfl; (any_goals (intro _; (repeat (first | exact wkl0 | refine wkd rfl ?_ | refine wkt ?_ | refine wkn ?_)); done)); (any_goals rfl))); (focus (first | exact want_n | exact want_g rfl (by with_reducible rfl))))
      refine wRX ?_
      refine thenA_n ?_
      refine wRX ?_
      refine thenA_n ?_
      rw [set_turn]
      refine AW_go (S' := ⟨[(6, byteA x), (15, .ptr 15 0 []), (16, bytesA bb), (18, .own 45 1 (turn bb k x).length .row), (19, intA (k : Nat))], [(15, .var (Nd.av L)), (45, .own 5 1 ((turn bb k x).map byteA))]⟩) (by rw [turn_len]; (refine Go2.sub ⟨?_, ?_, ?_⟩ <;> repeat' (first | exact True.intro | rfl | apply And.intro))) ?_
      refine AW_go (Go2.thaw (S' := ⟨[(6, byteA x), (15, .ptr 15 0 []), (16, bytesA bb), (18, .sl (some 45) 1 ((turn bb k x).map byteA)), (19, intA (k : Nat))], [(15, .var (Nd.av L)), (45, .tail 5 1 ((turn bb k x).map byteA).length)]⟩) 45 rfl (by repeat' (first | exact True.intro | rfl | apply And.intro | (simp; done))) (by repeat' (first | exact True.intro | rfl | apply And.intro | (simp; done))) rfl) ?_
      refine wV ?_
      exact fin ⟨res_of rfl rfl rfl, trivial⟩
  · have ce := a_cencode I (fits_sm hI)
    rw [encode_fits hI] at ce
    have hbl := encB_len hI
    have cd1 := a_cdecode (turn (encB I) k x) (by rw [turn_len]; omega)
    have cd2 := a_cdecode ((encB I).take k) (by rw [List.length_take]; omega)
    rw [short_decode (by rw [List.length_take]; omega)] at cd2
    have cd3 := a_cdecode (encB I ++ [x]) (by rw [List.length_append, List.length_singleton]; omega)
    rw [short_decode (by rw [List.length_append, List.length_singleton]; omega)] at cd3
    by_cases hx : x = 0#8
    · have hd1 : decode (turn (encB I) k x) = (I, 0) := by rw [hx, turn_zero (by omega), decode_enc hI]
      rw [hd1] at cd1
      clear hd1
      have hx0 : B8 x = 0 := B8_zero_iff.2 hx
      have cs := a_refsame I I (fits_sm hI)
      rw [decide_eq_true rfl] at cs
      dsimp only at ce cd1 cd2 cd3
      generalize encB I = bb at *
      refine AFn_intro Try.func6 rfl Try.ntmps6 rfl (by simp) [_] rfl fun E hE => ?_; have hnt : (!true) = false := rfl; have hnf : (!false) = true := rfl
      have d0 := acall Try.func10 (c0) (by decide +kernel) (by decide +kernel)
      have d1 := acall Try.func11 (c1) (by decide +kernel) (by decide +kernel)
      have d2 := acall Try.func18 (ce) (by decide +kernel) (by decide +kernel)
      have d3 := acall Try.func14 (cd1) (by decide +kernel) (by decide +kernel)
      have d4 := acall Try.func14 (cd2) (by decide +kernel) (by decide +kernel)
      have d5 := acall Try.func14 (cd3) (by decide +kernel) (by decide +kernel)
      have d6 := acall Try.func16 (cs) (by decide +kernel) (by decide +kernel)
      have d7 := acall Try.func12 (a_awake11) (by decide +kernel) (by decide +kernel)
      refine wX ?_
      (apply Wv; (focus (apply o_call Try.func19 (cp) rfl (by decide +kernel) rfl rfl; (any_goals (intro _; (repeat (first | exact wkl0 | refine wkd rfl ?_ | refine wkt ?_ | refine wkn ?_)); done)); (any_goals rfl))); (focus (first | exact want_n | exact want_g rfl (by with_reducible rfl))))
      refine wRX ?_
      refine thenA_n ?_
      refine wRX ?_
      refine thenA_n ?_
      rw [set_turn]
      refine AW_go (S' := ⟨[(6, byteA x), (15, .ptr 15 0 []), (16, bytesA bb), (18, .own 45 1 (turn bb k x).length .row), (19, intA (k : Nat))], [(15, .var (Nd.av I)), (45, .own 5 1 ((turn bb k x).map byteA))]⟩) (by rw [turn_len]; (refine Go2.sub ⟨?_, ?_, ?_⟩ <;> repeat' (first | exact True.intro | rfl | apply And.intro))) ?_
      refine AW_go (Go2.thaw (S' := ⟨[(6, byteA x), (15, .ptr 15 0 []), (16, bytesA bb), (18, .sl (some 45) 1 ((turn bb k x).map byteA)), (19, intA (k : Nat))], [(15, .var (Nd.av I)), (45, .tail 5 1 ((turn bb k x).map byteA).length)]⟩) 45 rfl (by repeat' (first | exact True.intro | rfl | apply And.intro | (simp; done))) (by repeat' (first | exact True.intro | rfl | apply And.intro | (simp; done))) rfl) ?_
      refine wV ?_
      exact fin ⟨res_of rfl rfl rfl, trivial⟩
    · have hd1 := decode_turned hI hk hx
      rw [hd1] at cd1
      clear hd1
      have hx0 : ¬ B8 x = 0 := fun h => hx (B8_zero_iff.1 h)
      have cs := AFn_weak (a_refsame Nd.zero Nd.zero zero_sm) (xs := [Nd.zero.av, nodeA false nilA nilA nilA nilA]) (fun H => .cons (Wk.data rfl) (.cons (Wk.agg (.cons (Wk.data rfl) (.cons Wk.nil (.cons Wk.nil (.cons Wk.nil (.cons Wk.nil .nil)))))) .nil))
      rw [decide_eq_true rfl] at cs
      dsimp only at ce cd1 cd2 cd3
      generalize encB I = bb at *
      refine AFn_intro Try.func6 rfl Try.ntmps6 rfl (by simp) [_] rfl fun E hE => ?_; have hnt : (!true) = false := rfl; have hnf : (!false) = true := rfl
      have d0 := acall Try.func10 (c0) (by decide +kernel) (by decide +kernel)
      have d1 := acall Try.func11 (c1) (by decide +kernel) (by decide +kernel)
      have d2 := acall Try.func18 (ce) (by decide +kernel) (by decide +kernel)
      have d3 := acall Try.func14 (cd1) (by decide +kernel) (by decide +kernel)
      have d4 := acall Try.func14 (cd2) (by decide +kernel) (by decide +kernel)
      have d5 := acall Try.func14 (cd3) (by decide +kernel) (by decide +kernel)
      have d6 := acall Try.func16 (cs) (by decide +kernel) (by decide +kernel)
      have d7 := acall Try.func12 (a_awake11) (by decide +kernel) (by decide +kernel)
      refine wX ?_
      (apply Wv; (focus (apply o_call Try.func19 (cp) rfl (by decide +kernel) rfl rfl; (any_goals (intro _; (repeat (first | exact wkl0 | refine wkd rfl ?_ | refine wkt ?_ | refine wkn ?_)); done)); (any_goals rfl))); (focus (first | exact want_n | exact want_g rfl (by with_reducible rfl))))
      refine wRX ?_
      refine thenA_n ?_
      refine wRX ?_
      refine thenA_n ?_
      rw [set_turn]
      refine AW_go (S' := ⟨[(6, byteA x), (15, .ptr 15 0 []), (16, bytesA bb), (18, .own 45 1 (turn bb k x).length .row), (19, intA (k : Nat))], [(15, .var (Nd.av I)), (45, .own 5 1 ((turn bb k x).map byteA))]⟩) (by rw [turn_len]; (refine Go2.sub ⟨?_, ?_, ?_⟩ <;> repeat' (first | exact True.intro | rfl | apply And.intro))) ?_
      refine AW_go (Go2.thaw (S' := ⟨[(6, byteA x), (15, .ptr 15 0 []), (16, bytesA bb), (18, .sl (some 45) 1 ((turn bb k x).map byteA)), (19, intA (k : Nat))], [(15, .var (Nd.av I)), (45, .tail 5 1 ((turn bb k x).map byteA).length)]⟩) 45 rfl (by repeat' (first | exact True.intro | rfl | apply And.intro | (simp; done))) (by repeat' (first | exact True.intro | rfl | apply And.intro | (simp; done))) rfl) ?_
      refine wV ?_
      exact fin ⟨res_of rfl rfl rfl, trivial⟩
theorem codecTurned_walk (v0 : Value) (l0 : List (Int)) (v1 : Value) (l1 : List (Int)) (n2 : Int) (v3 : Value) (l3 : List (Int)) (c4 : Bool) (n5 : Int) (x6 : BitVec 8) (w : World) (s0 : Sl ie 1 w v0 l0) (g0 : ∀ n ∈ l0, -9223372036854775808 ≤ n ∧ n ≤ 9223372036854775807) (z0 : l0.length ≤ 17592186043904) (s1 : Sl ie 1 w v1 l1) (g1 : ∀ n ∈ l1, -9223372036854775808 ≤ n ∧ n ≤ 9223372036854775807) (z1 : l1.length ≤ 17592186043904) (b2 : -9223372036854775808 ≤ n2 ∧ n2 ≤ 9223372036854775807) (s3 : Sl ie 1 w v3 l3) (g3 : ∀ n ∈ l3, -9223372036854775808 ≤ n ∧ n ≤ 9223372036854775807) (z3 : l3.length ≤ 17592186043904) (b5 : -9223372036854775808 ≤ n5 ∧ n5 ≤ 9223372036854775807) :
    Calls Try.prog 6 #[v0, v1, .int .i64 n2, v3, .bool c4, .int .i64 n5, .int .u8 (B8 x6)] w (Is w (.bool true)) :=
  law_of (a_codecTurned l0 l1 n2 l3 c4 n5 x6 g0 (by omega) g1 b2 g3 b5) (rdp_cons rfl (ints_in s0) (rdp_cons rfl (ints_in s1) (rdp_cons rfl int_in (rdp_cons rfl (ints_in s3) (rdp_cons rfl (Rdv_v.2 ⟨rfl, rfl⟩) (rdp_cons rfl int_in (rdp_cons rfl (Rdv_v.2 ⟨rfl, rfl⟩) rdp_nil')))))))
end Go.Proofs.Ytcmdhpinelnclaa

namespace Go.Proofs.Ytcmdhpinelnclaa
open Go Go.RowKit
set_option linter.unusedVariables false
set_option linter.unusedSimpArgs false
set_option maxRecDepth 100000

attribute [local irreducible] OpOK AWops AW CondB Go2 AFn thenA inBlockA noGotoA orderOk wantedA
set_option maxRecDepth 100000 in
set_option maxHeartbeats 16000000 in
theorem a_codecOnce (e p : List Int) (v : Int) (l : List Int) (inner : Bool) (k0 : Int) (x : BitVec 8) (he : ∀ n ∈ e, -9223372036854775808 ≤ n ∧ n ≤ 9223372036854775807) (hl : p.length ≤ 17592186044400) (hb : ∀ n ∈ p, -9223372036854775808 ≤ n ∧ n ≤ 9223372036854775807) (hv : -9223372036854775808 ≤ v ∧ v ≤ 9223372036854775807) (hlb : ∀ n ∈ l, -9223372036854775808 ≤ n ∧ n ≤ 9223372036854775807) (hk0 : -9223372036854775808 ≤ k0 ∧ k0 ≤ 9223372036854775807) :
    AFn Try.prog 7 [intsA e, intsA p, intA v, intsA l, boolA inner, intA k0, byteA x] (boolA true) := by
  have c0 := a_lleaf e he
  have c1 := a_inner p v l hl hb hv hlb
  have hL := leafN_fits e
  have hI := innerN_fits p v l
  have cp := a_lplace k0 256 (by omega) (by omega) hk0
  obtain ⟨k, ek, hk⟩ := place256 (v := k0)
  rw [ek] at cp
  generalize leafN e = L at *
  generalize innerN p v l = I at *
  cases inner
  · have ce := a_refencode L (fits_sm hL)
    rw [encode_fits hL] at ce
    have hbl := encB_len hL
    by_cases hx : x = 0#8
    · have hx0 : B8 x = 0 := B8_zero_iff.2 hx
      dsimp only at ce
      generalize encB L = bb at *
      refine AFn_intro Try.func7 rfl Try.ntmps7 rfl (by simp) [_] rfl fun E hE => ?_; have hnt : (!true) = false := rfl; have hnf : (!false) = true := rfl
      have d0 := acall Try.func10 (c0) (by decide +kernel) (by decide +kernel)
      have d1 := acall Try.func11 (c1) (by decide +kernel) (by decide +kernel)
      have d2 := acall Try.func20 (ce) (by decide +kernel) (by decide +kernel)
      have d7 := acall Try.func12 (a_awake11) (by decide +kernel) (by decide +kernel)
      refine wX ?_
      (apply Wv; (focus (apply o_call Try.func19 (cp) rfl (by decide +kernel) rfl rfl; (any_goals (intro _; (repeat (first | exact wkl0 | refine wkd rfl ?_ | refine wkt ?_ | refine wkn ?_)); done)); (any_goals rfl))); (focus (first | exact want_n | exact want_g rfl (by with_reducible rfl))))
      refine wX ?_
      exact fin ⟨res_of rfl rfl rfl, trivial⟩
    have hx0 : ¬ B8 x = 0 := fun h => hx (B8_zero_iff.1 h)
    by_cases hin : 4 ≤ k ∧ k < 8
    · dsimp only at ce
      generalize encB L = bb at *
      have g1 : (4 : Int) ≤ (k : Nat) := by omega
      have g2 : ((k : Nat) : Int) < 8 := by omega
      refine AFn_intro Try.func7 rfl Try.ntmps7 rfl (by simp) [_] rfl fun E hE => ?_; have hnt : (!true) = false := rfl; have hnf : (!false) = true := rfl
      have d0 := acall Try.func10 (c0) (by decide +kernel) (by decide +kernel)
      have d1 := acall Try.func11 (c1) (by decide +kernel) (by decide +kernel)
      have d2 := acall Try.func20 (ce) (by decide +kernel) (by decide +kernel)
      have d7 := acall Try.func12 (a_awake11) (by decide +kernel) (by decide +kernel)
      refine wX ?_
      (apply Wv; (focus (apply o_call Try.func19 (cp) rfl (by decide +kernel) rfl rfl; (any_goals (intro _; (repeat (first | exact wkl0 | refine wkd rfl ?_ | refine wkt ?_ | refine wkn ?_)); done)); (any_goals rfl))); (focus (first | exact want_n | exact want_g rfl (by with_reducible rfl))))
      refine wX ?_
      exact fin ⟨res_of rfl rfl rfl, trivial⟩
    have ho : k < 4 ∨ 8 ≤ k := by omega
    have htl : (turn (encB L) k x).length = 256 := by rw [turn_len]; exact hbl
    have cw := a_whole (turn (encB L) k x) htl
    have cd := a_cdecode (wholeB (turn (encB L) k x)) (by rw [whole_len htl]; omega)
    rcases decode_whole htl with hd | ⟨M, hd, hM, hMe⟩
    · rw [hd] at cd
      have cs := AFn_weak (a_refsame Nd.zero Nd.zero zero_sm) (xs := [Nd.zero.av, nodeA false nilA nilA nilA nilA]) (fun H => .cons (Wk.data rfl) (.cons (Wk.agg (.cons (Wk.data rfl) (.cons Wk.nil (.cons Wk.nil (.cons Wk.nil (.cons Wk.nil .nil)))))) .nil))
      rw [decide_eq_true rfl] at cs
      dsimp only at ce cd
      clear hd htl
      generalize encB L = bb at *
      by_cases hlo : k < 4
      · have g1 : ¬ (4 : Int) ≤ (k : Nat) := by omega
        refine AFn_intro Try.func7 rfl Try.ntmps7 rfl (by simp) [_] rfl fun E hE => ?_; have hnt : (!true) = false := rfl; have hnf : (!false) = true := rfl
        have d0 := acall Try.func10 (c0) (by decide +kernel) (by decide +kernel)
        have d1 := acall Try.func11 (c1) (by decide +kernel) (by decide +kernel)
        have d2 := acall Try.func20 (ce) (by decide +kernel) (by decide +kernel)
        have d7 := acall Try.func12 (a_awake11) (by decide +kernel) (by decide +kernel)
        have d3 := acall Try.func17 (cw) (by decide +kernel) (by decide +kernel)
        have d4 := acall Try.func14 (cd) (by decide +kernel) (by decide +kernel)
        have d5 := acall Try.func16 (cs) (by decide +kernel) (by decide +kernel)
        refine wX ?_
        (apply Wv; (focus (apply o_call Try.func19 (cp) rfl (by decide +kernel) rfl rfl; (any_goals (intro _; (repeat (first | exact wkl0 | refine wkd rfl ?_ | refine wkt ?_ | refine wkn ?_)); done)); (any_goals rfl))); (focus (first | exact want_n | exact want_g rfl (by with_reducible rfl))))
        refine wRX ?_
        refine thenA_n ?_
        refine wRX ?_
        refine thenA_n ?_
        refine wRX ?_
        refine thenA_n ?_
        refine wRX ?_
        refine thenA_n ?_
        refine wRX ?_
        refine thenA_n ?_
        rw [set_turn]
        refine AW_go (S' := ⟨[(15, .ptr 15 0 []), (19, .own 53 1 (turn bb k x).length .row)], [(15, .var (Nd.av L)), (53, .own 5 1 ((turn bb k x).map byteA))]⟩) (by rw [turn_len]; (refine Go2.sub ⟨?_, ?_, ?_⟩ <;> repeat' (first | exact True.intro | rfl | apply And.intro))) ?_
        refine AW_go (Go2.thaw (S' := ⟨[(15, .ptr 15 0 []), (19, .sl (some 53) 1 ((turn bb k x).map byteA))], [(15, .var (Nd.av L)), (53, .tail 5 1 ((turn bb k x).map byteA).length)]⟩) 53 rfl (by repeat' (first | exact True.intro | rfl | apply And.intro | (simp; done))) (by repeat' (first | exact True.intro | rfl | apply And.intro | (simp; done))) rfl) ?_
        refine wV ?_
        exact fin ⟨res_of rfl rfl rfl, trivial⟩
      · have g1 : (4 : Int) ≤ (k : Nat) := by omega
        have g2 : ¬ ((k : Nat) : Int) < 8 := by omega
        refine AFn_intro Try.func7 rfl Try.ntmps7 rfl (by simp) [_] rfl fun E hE => ?_; have hnt : (!true) = false := rfl; have hnf : (!false) = true := rfl
        have d0 := acall Try.func10 (c0) (by decide +kernel) (by decide +kernel)
        have d1 := acall Try.func11 (c1) (by decide +kernel) (by decide +kernel)
        have d2 := acall Try.func20 (ce) (by decide +kernel) (by decide +kernel)
        have d7 := acall Try.func12 (a_awake11) (by decide +kernel) (by decide +kernel)
        have d3 := acall Try.func17 (cw) (by decide +kernel) (by decide +kernel)
        have d4 := acall Try.func14 (cd) (by decide +kernel) (by decide +kernel)
        have d5 := acall Try.func16 (cs) (by decide +kernel) (by decide +kernel)
        refine wX ?_
        (apply Wv; (focus (apply o_call Try.func19 (cp) rfl (by decide +kernel) rfl rfl; (any_goals (intro _; (repeat (first | exact wkl0 | refine wkd rfl ?_ | refine wkt ?_ | refine wkn ?_)); done)); (any_goals rfl))); (focus (first | exact want_n | exact want_g rfl (by with_reducible rfl))))
        refine wRX ?_
        refine thenA_n ?_
        refine wRX ?_
        refine thenA_n ?_
        refine wRX ?_
        refine thenA_n ?_
        refine wRX ?_
        refine thenA_n ?_
        refine wRX ?_
        refine thenA_n ?_
        rw [set_turn]
        refine AW_go (S' := ⟨[(15, .ptr 15 0 []), (19, .own 53 1 (turn bb k x).length .row)], [(15, .var (Nd.av L)), (53, .own 5 1 ((turn bb k x).map byteA))]⟩) (by rw [turn_len]; (refine Go2.sub ⟨?_, ?_, ?_⟩ <;> repeat' (first | exact True.intro | rfl | apply And.intro))) ?_
        refine AW_go (Go2.thaw (S' := ⟨[(15, .ptr 15 0 []), (19, .sl (some 53) 1 ((turn bb k x).map byteA))], [(15, .var (Nd.av L)), (53, .tail 5 1 ((turn bb k x).map byteA).length)]⟩) 53 rfl (by repeat' (first | exact True.intro | rfl | apply And.intro | (simp; done))) (by repeat' (first | exact True.intro | rfl | apply And.intro | (simp; done))) rfl) ?_
        refine wV ?_
        exact fin ⟨res_of rfl rfl rfl, trivial⟩
    · rw [hd] at cd
      have hne := turned_ne hL hM hk ho hx hMe
      have cs := a_refsame M L (fits_sm hM)
      rw [decide_eq_false hne] at cs
      have cf := a_ref09fits M (fits_sm hM)
      rw [hM] at cf
      have ce2 := a_cencode M (fits_sm hM)
      rw [encode_fits hM, hMe] at ce2
      dsimp only at ce cd ce2
      clear hd htl hMe
      generalize encB L = bb at *
      have hww : decide (wholeB (turn bb k x) = wholeB (turn bb k x)) = true := decide_eq_true rfl
      by_cases hlo : k < 4
      · have g1 : ¬ (4 : Int) ≤ (k : Nat) := by omega
        refine AFn_intro Try.func7 rfl Try.ntmps7 rfl (by simp) [_] rfl fun E hE => ?_; have hnt : (!true) = false := rfl; have hnf : (!false) = true := rfl
        have d0 := acall Try.func10 (c0) (by decide +kernel) (by decide +kernel)
        have d1 := acall Try.func11 (c1) (by decide +kernel) (by decide +kernel)
        have d2 := acall Try.func20 (ce) (by decide +kernel) (by decide +kernel)
        have d7 := acall Try.func12 (a_awake11) (by decide +kernel) (by decide +kernel)
        have d3 := acall Try.func17 (cw) (by decide +kernel) (by decide +kernel)
        have d4 := acall Try.func14 (cd) (by decide +kernel) (by decide +kernel)
        have d5 := acall Try.func16 (cs) (by decide +kernel) (by decide +kernel)
        have d6 := acall Try.func21 (cf) (by decide +kernel) (by decide +kernel)
        have d8 := acall Try.func18 (ce2) (by decide +kernel) (by decide +kernel)
        refine wX ?_
        (apply Wv; (focus (apply o_call Try.func19 (cp) rfl (by decide +kernel) rfl rfl; (any_goals (intro _; (repeat (first | exact wkl0 | refine wkd rfl ?_ | refine wkt ?_ | refine wkn ?_)); done)); (any_goals rfl))); (focus (first | exact want_n | exact want_g rfl (by with_reducible rfl))))
        refine wRX ?_
        refine thenA_n ?_
        refine wRX ?_
        refine thenA_n ?_
        refine wRX ?_
        refine thenA_n ?_
        refine wRX ?_
        refine thenA_n ?_
        refine wRX ?_
        refine thenA_n ?_
        rw [set_turn]
        refine AW_go (S' := ⟨[(15, .ptr 15 0 []), (19, .own 53 1 (turn bb k x).length .row)], [(15, .var (Nd.av L)), (53, .own 5 1 ((turn bb k x).map byteA))]⟩) (by rw [turn_len]; (refine Go2.sub ⟨?_, ?_, ?_⟩ <;> repeat' (first | exact True.intro | rfl | apply And.intro))) ?_
        refine AW_go (Go2.thaw (S' := ⟨[(15, .ptr 15 0 []), (19, .sl (some 53) 1 ((turn bb k x).map byteA))], [(15, .var (Nd.av L)), (53, .tail 5 1 ((turn bb k x).map byteA).length)]⟩) 53 rfl (by repeat' (first | exact True.intro | rfl | apply And.intro | (simp; done))) (by repeat' (first | exact True.intro | rfl | apply And.intro | (simp; done))) rfl) ?_
        refine wV ?_
        exact fin ⟨res_of rfl rfl rfl, trivial⟩
      · have g1 : (4 : Int) ≤ (k : Nat) := by omega
        have g2 : ¬ ((k : Nat) : Int) < 8 := by omega
        refine AFn_intro Try.func7 rfl Try.ntmps7 rfl (by simp) [_] rfl fun E hE => ?_; have hnt : (!true) = false := rfl; have hnf : (!false) = true := rfl
        have d0 := acall Try.func10 (c0) (by decide +kernel) (by decide +kernel)
        have d1 := acall Try.func11 (c1) (by decide +kernel) (by decide +kernel)
        have d2 := acall Try.func20 (ce) (by decide +kernel) (by decide +kernel)
        have d7 := acall Try.func12 (a_awake11) (by decide +kernel) (by decide +kernel)
        have d3 := acall Try.func17 (cw) (by decide +kernel) (by decide +kernel)
        have d4 := acall Try.func14 (cd) (by decide +kernel) (by decide +kernel)
        have d5 := acall Try.func16 (cs) (by decide +kernel) (by decide +kernel)
        have d6 := acall Try.func21 (cf) (by decide +kernel) (by decide +kernel)
        have d8 := acall Try.func18 (ce2) (by decide +kernel) (by decide +kernel)
        refine wX ?_
        (apply Wv; (focus (apply o_call Try.func19 (cp) rfl (by decide +kernel) rfl rfl; (any_goals (intro _; (repeat (first | exact wkl0 | refine wkd rfl ?_ | refine wkt ?_ | refine wkn ?_)); done)); (any_goals rfl))); (focus (first | exact want_n | exact want_g rfl (by with_reducible rfl))))
        refine wRX ?_
        refine thenA_n ?_
        refine wRX ?_
        refine thenA_n ?_
        refine wRX ?_
        refine thenA_n ?_
        refine wRX ?_
        refine thenA_n ?_
        refine wRX ?_
        refine thenA_n ?_
        rw [set_turn]
        refine AW_go (S' := ⟨[(15, .ptr 15 0 []), (19, .own 53 1 (turn bb k x).length .row)], [(15, .var (Nd.av L)), (53, .own 5 1 ((turn bb k x).map byteA))]⟩) (by rw [turn_len]; (refine Go2.sub ⟨?_, ?_, ?_⟩ <;> repeat' (first | exact True.intro | rfl | apply And.intro))) ?_
        refine AW_go (Go2.thaw (S' := ⟨[(15, .ptr 15 0 []), (19, .sl (some 53) 1 ((turn bb k x).map byteA))], [(15, .var (Nd.av L)), (53, .tail 5 1 ((turn bb k x).map byteA).length)]⟩) 53 rfl (by repeat' (first | exact True.intro | rfl | apply And.intro | (simp; done))) (by repeat' (first | exact True.intro | rfl | apply And.intro | (simp; done))) rfl) ?_
        refine wV ?_
        exact fin ⟨res_of rfl rfl rfl, trivial⟩
  · have ce := a_refencode I (fits_sm hI)
    rw [encode_fits hI] at ce
    have hbl := encB_len hI
    by_cases hx : x = 0#8
    · have hx0 : B8 x = 0 := B8_zero_iff.2 hx
      dsimp only at ce
      generalize encB I = bb at *
      refine AFn_intro Try.func7 rfl Try.ntmps7 rfl (by simp) [_] rfl fun E hE => ?_; have hnt : (!true) = false := rfl; have hnf : (!false) = true := rfl
      have d0 := acall Try.func10 (c0) (by decide +kernel) (by decide +kernel)
      have d1 := acall Try.func11 (c1) (by decide +kernel) (by decide +kernel)
      have d2 := acall Try.func20 (ce) (by decide +kernel) (by decide +kernel)
      have d7 := acall Try.func12 (a_awake11) (by decide +kernel) (by decide +kernel)
      refine wX ?_
      (apply Wv; (focus (apply o_call Try.func19 (cp) rfl (by decide +kernel) rfl rfl; (any_goals (intro _; (repeat (first | exact wkl0 | refine wkd rfl ?_ | refine wkt ?_ | refine wkn ?_)); done)); (any_goals rfl))); (focus (first | exact want_n | exact want_g rfl (by with_reducible rfl))))
      refine wX ?_
      exact fin ⟨res_of rfl rfl rfl, trivial⟩
    have hx0 : ¬ B8 x = 0 := fun h => hx (B8_zero_iff.1 h)
    by_cases hin : 4 ≤ k ∧ k < 8
    · dsimp only at ce
      generalize encB I = bb at *
      have g1 : (4 : Int) ≤ (k : Nat) := by omega
      have g2 : ((k : Nat) : Int) < 8 := by omega
      refine AFn_intro Try.func7 rfl Try.ntmps7 rfl (by simp) [_] rfl fun E hE => ?_; have hnt : (!true) = false := rfl; have hnf : (!false) = true := rfl
      have d0 := acall Try.func10 (c0) (by decide +kernel) (by decide +kernel)
      have d1 := acall Try.func11 (c1) (by decide +kernel) (by decide +kernel)
      have d2 := acall Try.func20 (ce) (by decide +kernel) (by decide +kernel)
      have d7 := acall Try.func12 (a_awake11) (by decide +kernel) (by decide +kernel)
      refine wX ?_
      (apply Wv; (focus (apply o_call Try.func19 (cp) rfl (by decide +kernel) rfl rfl; (any_goals (intro _; (repeat (first | exact wkl0 | refine wkd rfl ?_ | refine wkt ?_ | refine wkn ?_)); done)); (any_goals rfl))); (focus (first | exact want_n | exact want_g rfl (by with_reducible rfl))))
      refine wX ?_
      exact fin ⟨res_of rfl rfl rfl, trivial⟩
    have ho : k < 4 ∨ 8 ≤ k := by omega
    have htl : (turn (encB I) k x).length = 256 := by rw [turn_len]; exact hbl
    have cw := a_whole (turn (encB I) k x) htl
    have cd := a_cdecode (wholeB (turn (encB I) k x)) (by rw [whole_len htl]; omega)
    rcases decode_whole htl with hd | ⟨M, hd, hM, hMe⟩
    · rw [hd] at cd
      have cs := AFn_weak (a_refsame Nd.zero Nd.zero zero_sm) (xs := [Nd.zero.av, nodeA false nilA nilA nilA nilA]) (fun H => .cons (Wk.data rfl) (.cons (Wk.agg (.cons (Wk.data rfl) (.cons Wk.nil (.cons Wk.nil (.cons Wk.nil (.cons Wk.nil .nil)))))) .nil))
      rw [decide_eq_true rfl] at cs
      dsimp only at ce cd
      clear hd htl
      generalize encB I = bb at *
      by_cases hlo : k < 4
      · have g1 : ¬ (4 : Int) ≤ (k : Nat) := by omega
        refine AFn_intro Try.func7 rfl Try.ntmps7 rfl (by simp) [_] rfl fun E hE => ?_; have hnt : (!true) = false := rfl; have hnf : (!false) = true := rfl
        have d0 := acall Try.func10 (c0) (by decide +kernel) (by decide +kernel)
        have d1 := acall Try.func11 (c1) (by decide +kernel) (by decide +kernel)
        have d2 := acall Try.func20 (ce) (by decide +kernel) (by decide +kernel)
        have d7 := acall Try.func12 (a_awake11) (by decide +kernel) (by decide +kernel)
        have d3 := acall Try.func17 (cw) (by decide +kernel) (by decide +kernel)
        have d4 := acall Try.func14 (cd) (by decide +kernel) (by decide +kernel)
        have d5 := acall Try.func16 (cs) (by decide +kernel) (by decide +kernel)
        refine wX ?_
        (apply Wv; (focus (apply o_call Try.func19 (cp) rfl (by decide +kernel) rfl rfl; (any_goals (intro _; (repeat (first | exact wkl0 | refine wkd rfl ?_ | refine wkt ?_ | refine wkn ?_)); done)); (any_goals rfl))); (focus (first | exact want_n | exact want_g rfl (by with_reducible rfl))))
        refine wRX ?_
        refine thenA_n ?_
        refine wRX ?_
        refine thenA_n ?_
        refine wRX ?_
        refine thenA_n ?_
        refine wRX ?_
        refine thenA_n ?_
        refine wRX ?_
        refine thenA_n ?_
        rw [set_turn]
        refine AW_go (S' := ⟨[(15, .ptr 15 0 []), (19, .own 53 1 (turn bb k x).length .row)], [(15, .var (Nd.av I)), (53, .own 5 1 ((turn bb k x).map byteA))]⟩) (by rw [turn_len]; (refine Go2.sub ⟨?_, ?_, ?_⟩ <;> repeat' (first | exact True.intro | rfl | apply And.intro))) ?_
        refine AW_go (Go2.thaw (S' := ⟨[(15, .ptr 15 0 []), (19, .sl (some 53) 1 ((turn bb k x).map byteA))], [(15, .var (Nd.av I)), (53, .tail 5 1 ((turn bb k x).map byteA).length)]⟩) 53 rfl (by repeat' (first | exact True.intro | rfl | apply And.intro | (simp; done))) (by repeat' (first | exact True.intro | rfl | apply And.intro | (simp; done))) rfl) ?_
        refine wV ?_
        exact fin ⟨res_of rfl rfl rfl, trivial⟩
      · have g1 : (4 : Int) ≤ (k : Nat) := by omega
        have g2 : ¬ ((k : Nat) : Int) < 8 := by omega
        refine AFn_intro Try.func7 rfl Try.ntmps7 rfl (by simp) [_] rfl fun E hE => ?_; have hnt : (!true) = false := rfl; have hnf : (!false) = true := rfl
        have d0 := acall Try.func10 (c0) (by decide +kernel) (by decide +kernel)
        have d1 := acall Try.func11 (c1) (by decide +kernel) (by decide +kernel)
        have d2 := acall Try.func20 (ce) (by decide +kernel) (by decide +kernel)
        have d7 := acall Try.func12 (a_awake11) (by decide +kernel) (by decide +kernel)
        have d3 := acall Try.func17 (cw) (by decide +kernel) (by decide +kernel)
        have d4 := acall Try.func14 (cd) (by decide +kernel) (by decide +kernel)
        have d5 := acall Try.func16 (cs) (by decide +kernel) (by decide +kernel)
        refine wX ?_
        (apply Wv; (focus (apply o_call Try.func19 (cp) rfl (by decide +kernel) rfl rfl; (any_goals (intro _; (repeat (first | exact wkl0 | refine wkd rfl ?_ | refine wkt ?_ | refine wkn ?_)); done)); (any_goals rfl))); (focus (first | exact want_n | exact want_g rfl (by with_reducible rfl))))
        refine wRX ?_
        refine thenA_n ?_
        refine wRX ?_
        refine thenA_n ?_
        refine wRX ?_
        refine thenA_n ?_
        refine wRX ?_
        refine thenA_n ?_
        refine wRX ?_
        refine thenA_n ?_
        rw [set_turn]
        refine AW_go (S' := ⟨[(15, .ptr 15 0 []), (19, .own 53 1 (turn bb k x).length .row)], [(15, .var (Nd.av I)), (53, .own 5 1 ((turn bb k x).map byteA))]⟩) (by rw [turn_len]; (refine Go2.sub ⟨?_, ?_, ?_⟩ <;> repeat' (first | exact True.intro | rfl | apply And.intro))) ?_
        refine AW_go (Go2.thaw (S' := ⟨[(15, .ptr 15 0 []), (19, .sl (some 53) 1 ((turn bb k x).map byteA))], [(15, .var (Nd.av I)), (53, .tail 5 1 ((turn bb k x).map byteA).length)]⟩) 53 rfl (by repeat' (first | exact True.intro | rfl | apply And.intro | (simp; done))) (by repeat' (first | exact True.intro | rfl | apply And.intro | (simp; done))) rfl) ?_
        refine wV ?_
        exact fin ⟨res_of rfl rfl rfl, trivial⟩
    · rw [hd] at cd
      have hne := turned_ne hI hM hk ho hx hMe
      have cs := a_refsame M I (fits_sm hM)
      rw [decide_eq_false hne] at cs
      have cf := a_ref09fits M (fits_sm hM)
      rw [hM] at cf
      have ce2 := a_cencode M (fits_sm hM)
      rw [encode_fits hM, hMe] at ce2
      dsimp only at ce cd ce2
      clear hd htl hMe
      generalize encB I = bb at *
      have hww : decide (wholeB (turn bb k x) = wholeB (turn bb k x)) = true := decide_eq_true rfl
      by_cases hlo : k < 4
      · have g1 : ¬ (4 : Int) ≤ (k : Nat) := by omega
        refine AFn_intro Try.func7 rfl Try.ntmps7 rfl (by simp) [_] rfl fun E hE => ?_; have hnt : (!true) = false := rfl; have hnf : (!false) = true := rfl
        have d0 := acall Try.func10 (c0) (by decide +kernel) (by decide +kernel)
        have d1 := acall Try.func11 (c1) (by decide +kernel) (by decide +kernel)
        have d2 := acall Try.func20 (ce) (by decide +kernel) (by decide +kernel)
        have d7 := acall Try.func12 (a_awake11) (by decide +kernel) (by decide +kernel)
        have d3 := acall Try.func17 (cw) (by decide +kernel) (by decide +kernel)
        have d4 := acall Try.func14 (cd) (by decide +kernel) (by decide +kernel)
        have d5 := acall Try.func16 (cs) (by decide +kernel) (by decide +kernel)
        have d6 := acall Try.func21 (cf) (by decide +kernel) (by decide +kernel)
        have d8 := acall Try.func18 (ce2) (by decide +kernel) (by decide +kernel)
        refine wX ?_
        (apply Wv; (focus (apply o_call Try.func19 (cp) rfl (by decide +kernel) rfl rfl; (any_goals (intro _; (repeat (first | exact wkl0 | refine wkd rfl ?_ | refine wkt ?_ | refine wkn ?_)); done)); (any_goals rfl))); (focus (first | exact want_n | exact want_g rfl (by with_reducible rfl))))
        refine wRX ?_
        refine thenA_n ?_
        refine wRX ?_
        refine thenA_n ?_
        refine wRX ?_
        refine thenA_n ?_
        refine wRX ?_
        refine thenA_n ?_
        refine wRX ?_
        refine thenA_n ?_
        rw [set_turn]
        refine AW_go (S' := ⟨[(15, .ptr 15 0 []), (19, .own 53 1 (turn bb k x).length .row)], [(15, .var (Nd.av I)), (53, .own 5 1 ((turn bb k x).map byteA))]⟩) (by rw [turn_len]; (refine Go2.sub ⟨?_, ?_, ?_⟩ <;> repeat' (first | exact True.intro | rfl | apply And.intro))) ?_
        refine AW_go (Go2.thaw (S' := ⟨[(15, .ptr 15 0 []), (19, .sl (some 53) 1 ((turn bb k x).map byteA))], [(15, .var (Nd.av I)), (53, .tail 5 1 ((turn bb k x).map byteA).length)]⟩) 53 rfl (by repeat' (first | exact True.intro | rfl | apply And.intro | (simp; done))) (by repeat' (first | exact True.intro | rfl | apply And.intro | (simp; done))) rfl) ?_
        refine wV ?_
        exact fin ⟨res_of rfl rfl rfl, trivial⟩
      · have g1 : (4 : Int) ≤ (k : Nat) := by omega
        have g2 : ¬ ((k : Nat) : Int) < 8 := by omega
        refine AFn_intro Try.func7 rfl Try.ntmps7 rfl (by simp) [_] rfl fun E hE => ?_; have hnt : (!true) = false := rfl; have hnf : (!false) = true := rfl
        have d0 := acall Try.func10 (c0) (by decide +kernel) (by decide +kernel)
        have d1 := acall Try.func11 (c1) (by decide +kernel) (by decide +kernel)
        have d2 := acall Try.func20 (ce) (by decide +kernel) (by decide +kernel)
        have d7 := acall Try.func12 (a_awake11) (by decide +kernel) (by decide +kernel)
        have d3 := acall Try.func17 (cw) (by decide +kernel) (by decide +kernel)
        have d4 := acall Try.func14 (cd) (by decide +kernel) (by decide +kernel)
        have d5 := acall Try.func16 (cs) (by decide +kernel) (by decide +kernel)
        have d6 := acall Try.func21 (cf) (by decide +kernel) (by decide +kernel)
        have d8 := acall Try.func18 (ce2) (by decide +kernel) (by decide +kernel)
        refine wX ?_
        (apply Wv; (focus (apply o_call Try.func19 (cp) rfl (by decide +kernel) rfl rfl; (any_goals (intro _; (repeat (first | exact wkl0 | refine wkd rfl ?_ | refine wkt ?_ | refine wkn ?_)); done)); (any_goals rfl))); (focus (first | exact want_n | exact want_g rfl (by with_reducible rfl))))
        refine wRX ?_
        refine thenA_n ?_
        refine wRX ?_
        refine thenA_n ?_
        refine wRX ?_
        refine thenA_n ?_
        refine wRX ?_
        refine thenA_n ?_
        refine wRX ?_
        refine thenA_n ?_
        rw [set_turn]
        refine AW_go (S' := ⟨[(15, .ptr 15 0 []), (19, .own 53 1 (turn bb k x).length .row)], [(15, .var (Nd.av I)), (53, .own 5 1 ((turn bb k x).map byteA))]⟩) (by rw [turn_len]; (refine Go2.sub ⟨?_, ?_, ?_⟩ <;> repeat' (first | exact True.intro | rfl | apply And.intro))) ?_
        refine AW_go (Go2.thaw (S' := ⟨[(15, .ptr 15 0 []), (19, .sl (some 53) 1 ((turn bb k x).map byteA))], [(15, .var (Nd.av I)), (53, .tail 5 1 ((turn bb k x).map byteA).length)]⟩) 53 rfl (by repeat' (first | exact True.intro | rfl | apply And.intro | (simp; done))) (by repeat' (first | exact True.intro | rfl | apply And.intro | (simp; done))) rfl) ?_
        refine wV ?_
        exact fin ⟨res_of rfl rfl rfl, trivial⟩
theorem codecOnce_walk (v0 : Value) (l0 : List (Int)) (v1 : Value) (l1 : List (Int)) (n2 : Int) (v3 : Value) (l3 : List (Int)) (c4 : Bool) (n5 : Int) (x6 : BitVec 8) (w : World) (s0 : Sl ie 1 w v0 l0) (g0 : ∀ n ∈ l0, -9223372036854775808 ≤ n ∧ n ≤ 9223372036854775807) (z0 : l0.length ≤ 17592186043904) (s1 : Sl ie 1 w v1 l1) (g1 : ∀ n ∈ l1, -9223372036854775808 ≤ n ∧ n ≤ 9223372036854775807) (z1 : l1.length ≤ 17592186043904) (b2 : -9223372036854775808 ≤ n2 ∧ n2 ≤ 9223372036854775807) (s3 : Sl ie 1 w v3 l3) (g3 : ∀ n ∈ l3, -9223372036854775808 ≤ n ∧ n ≤ 9223372036854775807) (z3 : l3.length ≤ 17592186043904) (b5 : -9223372036854775808 ≤ n5 ∧ n5 ≤ 9223372036854775807) :
    Calls Try.prog 7 #[v0, v1, .int .i64 n2, v3, .bool c4, .int .i64 n5, .int .u8 (B8 x6)] w (Is w (.bool true)) :=
  law_of (a_codecOnce l0 l1 n2 l3 c4 n5 x6 g0 (by omega) g1 b2 g3 b5) (rdp_cons rfl (ints_in s0) (rdp_cons rfl (ints_in s1) (rdp_cons rfl int_in (rdp_cons rfl (ints_in s3) (rdp_cons rfl (Rdv_v.2 ⟨rfl, rfl⟩) (rdp_cons rfl int_in (rdp_cons rfl (Rdv_v.2 ⟨rfl, rfl⟩) rdp_nil')))))))
end Go.Proofs.Ytcmdhpinelnclaa
