/-
  M6: several texts as one: LawAct2, ActKeep, LawAct3. No condition beyond those that each theorem states.
-/
import Derived.Test.YtonjbnoeoececaaGreatM5
namespace Go.Proofs.YtonjbnoeoececaaGreat
open Go Go.RowKit
set_option linter.unusedVariables false
set_option linter.unusedSimpArgs false
set_option maxRecDepth 100000

theorem leafN_sum (l : List Int) : eSum (leafN l).es ≤ 248 := entsF_sum l 248 (by omega) 80
theorem cmp_ge {a b : Key} (ha : a.ok = true) (hb : b.ok = true) : refCmp a b ≥ 0 ↔ b.rank ≤ a.rank := by
  rw [refCmp_rank ha hb]
  have := sgn_neg a.rank b.rank
  omega
theorem get_self (x : Key) (v : Vl) : lfGet x [⟨x, v⟩] = some v := by
  unfold lfGet
  rw [List.find?_cons_of_pos (by simp)]
  rfl
theorem low_wk (E : Ent) (H : Hp) : Wk H (nodeA true (entsA [E]) nilA nilA nilA) (leafOf [E]).av :=
  Wk.agg (.cons (Wk.data rfl) (.cons (Wk.data rfl) (.cons Wk.nil (.cons Wk.nil (.cons Wk.nil .nil)))))
theorem a_valueL (x : Key) (V : Vl) (ups : List Nd) (hu : ∀ u ∈ ups, BSrt u.ms ∧ u.ms.length ≤ 1000000) (hul : ups.length ≤ 1000000) : AFn Tryz.prog 28 [nodeA true (entsA [⟨x, V⟩]) nilA nilA nilA, x.av, nodesA ups] (.tup [(opA (valN x (some V) ups)).1.av, boolA (opA (valN x (some V) ups)).2]) := by
  have h := a_value10 (leafOf [⟨x, V⟩]) (List.pairwise_singleton _ _) (by simp [leafOf]) x ups hu hul
  rw [show lfGet x (leafOf [⟨x, V⟩]).es = some V from get_self x V] at h
  exact AFn_weak h (fun H => .cons (low_wk _ H) (.cons (Wk.data rfl) (.cons (Wk.data rfl) .nil)))
theorem root_fits (X : Key) (hX : X.ok = true) : nodeFits ⟨false, [], [7, 8], [X], []⟩ = true :=
  inner_fits (fan_ok_of (by simp) (by simp) (by simp) (by simp) (fun k hk => by simp at hk; omega) (rise_one hX)) bf_nil (by simp [bSum])
theorem innerN_kid4 (p : List Int) (v : Int) (l : List Int) : (innerN p v l).ks.length ≤ 4 ∧ 2 ≤ (innerN p v l).ks.length ∧ (innerN p v l).ks.Nodup ∧ ∀ k ∈ (innerN p v l).ks, 1 ≤ k ∧ k < 240 := by
  have h1 := innerN_kids p v l
  have h2 := piv3 p
  have h4 : 1 ≤ (innerN p v l).ps.length := pivK_some p 16 3 (by omega)
  refine ⟨by rw [h1]; show (pivK _ _).length + 1 ≤ 4; omega, by omega, kidsL_nodup v _, fun k hk => ?_⟩
  have h3 := kidsL_mem v _ k hk
  omega
theorem root_q (X : Key) : ∃ q : Nd, (⟨false, [], [7, 8], [X], []⟩ : Nd) = q ∧ q.ks.length = 2 ∧ q.ps.length = 1 ∧ q.ms.length = 0 ∧ ∃ h : 0 < q.ps.length, q.ps[0] = X := ⟨_, rfl, rfl, rfl, rfl, Nat.one_pos, rfl⟩
attribute [local irreducible] OpOK AWops AW CondB Go2 AFn thenA inBlockA noGotoA orderOk wantedA
set_option maxRecDepth 100000 in
set_option maxHeartbeats 8000000 in
theorem a_actRoot (e c m : List Int) (inner : Bool) (k v : Int) (he : ∀ n ∈ e, -9223372036854775808 ≤ n ∧ n ≤ 9223372036854775807) (hcl : c.length ≤ 17592186044390) (hc : ∀ n ∈ c, -9223372036854775808 ≤ n ∧ n ≤ 9223372036854775807) (hm : ∀ n ∈ m, -9223372036854775808 ≤ n ∧ n ≤ 9223372036854775807) (hk : -9223372036854775808 ≤ k ∧ k ≤ 9223372036854775807) (hv : -9223372036854775808 ≤ v ∧ v ≤ 9223372036854775807) : AFn Tryz.prog 8 [intsA e, intsA c, intsA m, boolA inner, intA k, intA v] (boolA true) := by
  have c1 := a_lleaf e he
  have ckey := a_lkey k hk
  have hkok := lawKey_ok k
  have cval := a_lval v hv
  generalize lawKey k = x at *
  generalize lawVl v = V at *
  cases inner with
  | false =>
    have hg := leafN_gd e
    have cs := a_splitroot (leafN e) hg 7 8
    have csr := a_sames (leafN e) hg.Sm
    have hel := (leafN_lens e).1
    have hes := leafN_sum e
    have hlf := hg.lf
    have h0 : halvN (leafN e) = halvL (leafN e).es := by unfold halvN; rw [if_pos (show (leafN e).leaf = true from rfl)]
    by_cases h2 : 2 ≤ (leafN e).es.length
    · obtain ⟨A, D, X, hh, hA, hD, sA, sD, hX, _, _, lA, lD, hget⟩ := leaf_two hlf h2 (by omega)
      rw [splitR_yes ⟨by omega, ⟨by omega, by omega⟩, by omega, by omega⟩, h0, hh, if_pos rfl] at cs
      unfold tup4 at cs
      have fq := a_ref09fits ⟨false, [], [7, 8], [X], []⟩ ⟨by simp, by simp, by simp, by simp⟩
      have fx := a_ref09fits (leafOf A) ⟨by show A.length ≤ _; omega, Nat.zero_le _, Nat.zero_le _, Nat.zero_le _⟩
      have fy := a_ref09fits (leafOf D) ⟨by show D.length ≤ _; omega, Nat.zero_le _, Nat.zero_le _, Nat.zero_le _⟩
      rw [root_fits X hX] at fq
      rw [leafOf_fits' hA sA] at fx
      rw [leafOf_fits' hD sD] at fy
      have ff := a_ref07find (leafN e).es x hlf.srt (by omega)
      have fA := a_ref07find (leafOf A).es x hA.srt (by show A.length ≤ _; omega)
      have fD := a_ref07find (leafOf D).es x hD.srt (by show D.length ≤ _; omega)
      have hgx := hget x hkok
      replace hgx : lfGet x (leafN e).es = if X.rank ≤ x.rank then lfGet x (leafOf D).es else lfGet x (leafOf A).es := hgx
      obtain ⟨q, hq, q1, q2, q3, q4, q5⟩ := root_q X
      rw [hq] at cs fq
      have cc := a_refcmp x (q.ps[0]'q4)
      have hcmp := cmp_ge hkok hX
      rw [← q5] at hcmp hgx
      dsimp only at cs
      clear hh hA hD sA sD hq hget hlf hg h0 hel hes lA lD q5 hX
      generalize leafOf A = a at *
      generalize leafOf D = d at *
      generalize leafN e = r at *
      by_cases hc : (q.ps[0]'q4).rank ≤ x.rank
      · have hcm := hcmp.2 hc
        rw [if_pos hc] at hgx
        rw [← hgx] at fD
        generalize (opA (lfGet x r.es)).1 = o1 at *
        generalize (opA (lfGet x r.es)).2 = o2 at *
        clear hgx hcmp fA
        refine AFn_intro Tryz.func8 rfl Tryz.ntmps8 rfl (by simp) [_] rfl fun E hE => ?_; have hnt : (!true) = false := rfl; have hnf : (!false) = true := rfl
        have dda := acall Tryz.func11 (c1) (by decide +kernel) (by decide +kernel)
        have ddb := acall Tryz.func23 (cs) (by decide +kernel) (by decide +kernel)
        have ddc := acall Tryz.func14 (csr) (by decide +kernel) (by decide +kernel)
        have ddd := acall Tryz.func16 (a_awake10) (by decide +kernel) (by decide +kernel)
        have dde := acall Tryz.func27 (ckey) (by decide +kernel) (by decide +kernel)
        have ddf := acall Tryz.func30 (cval) (by decide +kernel) (by decide +kernel)
        have ddg := acall Tryz.func15 (fq) (by decide +kernel) (by decide +kernel)
        have ddh := acall Tryz.func15 (fx) (by decide +kernel) (by decide +kernel)
        have ddi := acall Tryz.func15 (fy) (by decide +kernel) (by decide +kernel)
        have ddj := acall Tryz.func31 (cc) (by decide +kernel) (by decide +kernel)
        have ddk := acall Tryz.func32 (ff) (by decide +kernel) (by decide +kernel)
        have ddl := acall Tryz.func32 (fD) (by decide +kernel) (by decide +kernel)
        refine wI ?_
        exact fin ⟨res_of rfl rfl rfl, trivial⟩
      · have hcm : ¬ refCmp x (q.ps[0]'q4) ≥ 0 := fun h => hc (hcmp.1 h)
        rw [if_neg hc] at hgx
        rw [← hgx] at fA
        generalize (opA (lfGet x r.es)).1 = o1 at *
        generalize (opA (lfGet x r.es)).2 = o2 at *
        clear hgx hcmp fD
        refine AFn_intro Tryz.func8 rfl Tryz.ntmps8 rfl (by simp) [_] rfl fun E hE => ?_; have hnt : (!true) = false := rfl; have hnf : (!false) = true := rfl
        have dda := acall Tryz.func11 (c1) (by decide +kernel) (by decide +kernel)
        have ddb := acall Tryz.func23 (cs) (by decide +kernel) (by decide +kernel)
        have ddc := acall Tryz.func14 (csr) (by decide +kernel) (by decide +kernel)
        have ddd := acall Tryz.func16 (a_awake10) (by decide +kernel) (by decide +kernel)
        have dde := acall Tryz.func27 (ckey) (by decide +kernel) (by decide +kernel)
        have ddf := acall Tryz.func30 (cval) (by decide +kernel) (by decide +kernel)
        have ddg := acall Tryz.func15 (fq) (by decide +kernel) (by decide +kernel)
        have ddh := acall Tryz.func15 (fx) (by decide +kernel) (by decide +kernel)
        have ddi := acall Tryz.func15 (fy) (by decide +kernel) (by decide +kernel)
        have ddj := acall Tryz.func31 (cc) (by decide +kernel) (by decide +kernel)
        have ddk := acall Tryz.func32 (ff) (by decide +kernel) (by decide +kernel)
        have ddl := acall Tryz.func32 (fA) (by decide +kernel) (by decide +kernel)
        refine wI ?_
        exact fin ⟨res_of rfl rfl rfl, trivial⟩
    · have e1 : halvL (leafN e).es = (ndZ, ndZ, Key.zero, false) := by unfold halvL; rw [if_neg h2]
      rw [splitR_yes ⟨by omega, ⟨by omega, by omega⟩, by omega, by omega⟩, h0, e1, if_neg (by simp)] at cs
      unfold tup4 at cs
      have h2' : (leafN e).es.length < 2 := by omega
      dsimp only at cs
      clear hes hlf hg h0 e1
      generalize leafN e = r at *
      refine AFn_intro Tryz.func8 rfl Tryz.ntmps8 rfl (by simp) [_] rfl fun E hE => ?_; have hnt : (!true) = false := rfl; have hnf : (!false) = true := rfl
      have d1 := acall Tryz.func11 (c1) (by decide +kernel) (by decide +kernel)
      have d2 := acall Tryz.func23 (cs) (by decide +kernel) (by decide +kernel)
      have d3 := acall Tryz.func14 (csr) (by decide +kernel) (by decide +kernel)
      have d4 := acall Tryz.func16 (a_awake10) (by decide +kernel) (by decide +kernel)
      refine wI ?_
      exact fin ⟨res_of rfl rfl rfl, trivial⟩
  | true =>
    have c2 := a_inner ([24, 16, 8] ++ c) 90 m (by simp; omega) (fun n hn => by rcases List.mem_append.1 hn with h | h; simp at h; omega; exact hc n h) (by omega) hm
    have hg := innerN_gd ([24, 16, 8] ++ c) 90 m
    have cs := a_splitroot (innerN ([24, 16, 8] ++ c) 90 m) hg 7 8
    have csr := a_sames (innerN ([24, 16, 8] ++ c) 90 m) hg.Sm
    have hk4 := innerN_kid4 ([24, 16, 8] ++ c) 90 m
    have hkp := innerN_kids ([24, 16, 8] ++ c) 90 m
    have hsum := innerN_sum ([24, 16, 8] ++ c) 90 m
    have h0 : halvN (innerN ([24, 16, 8] ++ c) 90 m) = halvI (innerN ([24, 16, 8] ++ c) 90 m) := by unfold halvN; rw [if_neg (show ¬ (innerN ([24, 16, 8] ++ c) 90 m).leaf = true from by simp [innerN])]
    have hms := (innerN_lens ([24, 16, 8] ++ c) 90 m).2.1
    generalize innerN ([24, 16, 8] ++ c) 90 m = r at *
    generalize leafN e = r0 at *
    cases hq : (halvI r).2.2.2 with
    | false =>
      have e1 := halvI_no hq
      rw [splitR_yes ⟨by omega, ⟨by omega, by omega⟩, by omega, by omega⟩, h0, e1, if_neg (by simp)] at cs
      unfold tup4 at cs
      have h4 : r.ks.length < 4 := by
        have hne : ¬ (r.ks.length = 4 ∧ r.ps.length = 3) := fun hc => by
          have e : fanHal r.ks r.ps = (r.ks.take 2, r.ps.take 1, r.ps.getD 1 Key.zero, r.ks.drop 2, r.ps.drop 2, true) := by unfold fanHal; rw [if_pos hc]
          have ha : (halvI r).2.2.2 = (if (fanHal r.ks r.ps).2.2.2.2.2 = true then ((⟨false, [], (fanHal r.ks r.ps).1, (fanHal r.ks r.ps).2.1, bfPart r.ms [(fanHal r.ks r.ps).2.2.1] 0⟩, ⟨false, [], (fanHal r.ks r.ps).2.2.2.1, (fanHal r.ks r.ps).2.2.2.2.1, bfPart r.ms [(fanHal r.ks r.ps).2.2.1] 1⟩, (fanHal r.ks r.ps).2.2.1, true) : Nd × Nd × Key × Bool) else (ndZ, ndZ, Key.zero, false)).2.2.2 := rfl
          rw [ha, e, if_pos rfl] at hq
          cases hq
        have := hk4.1
        omega
      dsimp only at cs
      clear hg h0 e1 hsum hkp hk4
      refine AFn_intro Tryz.func8 rfl Tryz.ntmps8 rfl (by simp) [_] rfl fun E hE => ?_; have hnt : (!true) = false := rfl; have hnf : (!false) = true := rfl
      have d1 := acall Tryz.func11 (c1) (by decide +kernel) (by decide +kernel)
      have d0 := acall Tryz.func13 (c2) (by decide +kernel) (by decide +kernel)
      have d2 := acall Tryz.func23 (cs) (by decide +kernel) (by decide +kernel)
      have d3 := acall Tryz.func14 (csr) (by decide +kernel) (by decide +kernel)
      have d4 := acall Tryz.func16 (a_awake10) (by decide +kernel) (by decide +kernel)
      refine wI ?_
      refine Was 32 (AV.sl (some 32) 1 (List.map intA [24, 16, 8])) rfl ?_
      refine wI ?_
      exact fin ⟨res_of rfl rfl rfl, trivial⟩
    | true =>
      obtain ⟨a, d, X, hh, fa, fd, _, _, hX, _, _, ba, bd, la, ld, hget⟩ := inner_two hg.bf hg.rs hk4.2.2.1 (fun k hk => by have := hk4.2.2.2 k hk; omega) hsum hq
      rw [splitR_yes ⟨by omega, ⟨by omega, by omega⟩, by omega, by omega⟩, h0, hh, if_pos rfl] at cs
      unfold tup4 at cs
      have hsm := halvI_sm hg
      rw [hh] at hsm
      have fq := a_ref09fits ⟨false, [], [7, 8], [X], []⟩ ⟨by simp, by simp, by simp, by simp⟩
      have fx := a_ref09fits a hsm.1
      have fy := a_ref09fits d hsm.2
      rw [root_fits X hX] at fq
      rw [fa] at fx
      rw [fd] at fy
      have hgx := hget x
      obtain ⟨q, hq', q1, q2, q3, q4, q5⟩ := root_q X
      rw [hq'] at cs fq
      have cc := a_refcmp x (q.ps[0]'q4)
      have hcmp := cmp_ge hkok hX
      rw [← q5] at hcmp hgx
      have v1 := a_valueL x V [r] (fun y hy => by rw [List.mem_singleton.1 hy]; exact ⟨hg.bf.srt, by omega⟩) (by simp)
      have va := a_valueL x V [a] (fun y hy => by rw [List.mem_singleton.1 hy]; exact ⟨ba.srt, by omega⟩) (by simp)
      have vd := a_valueL x V [d] (fun y hy => by rw [List.mem_singleton.1 hy]; exact ⟨bd.srt, by omega⟩) (by simp)
      have hval : ∀ u : Nd, valN x (some V) [u] = apO (bfGet x u.ms) (some V) := fun u => rfl
      rw [hval] at v1 va vd
      dsimp only at cs
      clear hh hget hg h0 hsm fa fd hq' hk4 hkp hsum hval ba bd la ld hX q5
      by_cases hc : (q.ps[0]'q4).rank ≤ x.rank
      · have hcm := hcmp.2 hc
        rw [if_pos hc] at hgx
        rw [← hgx] at vd
        generalize (opA (apO (bfGet x r.ms) (some V))).1 = o1 at *
        generalize (opA (apO (bfGet x r.ms) (some V))).2 = o2 at *
        clear hgx hcmp va
        refine AFn_intro Tryz.func8 rfl Tryz.ntmps8 rfl (by simp) [_] rfl fun E hE => ?_; have hnt : (!true) = false := rfl; have hnf : (!false) = true := rfl
        have dda := acall Tryz.func11 (c1) (by decide +kernel) (by decide +kernel)
        have ddb := acall Tryz.func23 (cs) (by decide +kernel) (by decide +kernel)
        have ddc := acall Tryz.func14 (csr) (by decide +kernel) (by decide +kernel)
        have ddd := acall Tryz.func16 (a_awake10) (by decide +kernel) (by decide +kernel)
        have dde := acall Tryz.func27 (ckey) (by decide +kernel) (by decide +kernel)
        have ddf := acall Tryz.func30 (cval) (by decide +kernel) (by decide +kernel)
        have ddg := acall Tryz.func15 (fq) (by decide +kernel) (by decide +kernel)
        have ddh := acall Tryz.func15 (fx) (by decide +kernel) (by decide +kernel)
        have ddi := acall Tryz.func15 (fy) (by decide +kernel) (by decide +kernel)
        have ddj := acall Tryz.func31 (cc) (by decide +kernel) (by decide +kernel)
        have ddk := acall Tryz.func13 (c2) (by decide +kernel) (by decide +kernel)
        have ddl := acall Tryz.func28 (v1) (by decide +kernel) (by decide +kernel)
        have ddm := acall Tryz.func28 (vd) (by decide +kernel) (by decide +kernel)
        refine wI ?_
        refine Was 32 (AV.sl (some 32) 1 (List.map intA [24, 16, 8])) rfl ?_
        refine wI ?_
        exact fin ⟨res_of rfl rfl rfl, trivial⟩
      · have hcm : ¬ refCmp x (q.ps[0]'q4) ≥ 0 := fun h => hc (hcmp.1 h)
        rw [if_neg hc] at hgx
        rw [← hgx] at va
        generalize (opA (apO (bfGet x r.ms) (some V))).1 = o1 at *
        generalize (opA (apO (bfGet x r.ms) (some V))).2 = o2 at *
        clear hgx hcmp vd
        refine AFn_intro Tryz.func8 rfl Tryz.ntmps8 rfl (by simp) [_] rfl fun E hE => ?_; have hnt : (!true) = false := rfl; have hnf : (!false) = true := rfl
        have dda := acall Tryz.func11 (c1) (by decide +kernel) (by decide +kernel)
        have ddb := acall Tryz.func23 (cs) (by decide +kernel) (by decide +kernel)
        have ddc := acall Tryz.func14 (csr) (by decide +kernel) (by decide +kernel)
        have ddd := acall Tryz.func16 (a_awake10) (by decide +kernel) (by decide +kernel)
        have dde := acall Tryz.func27 (ckey) (by decide +kernel) (by decide +kernel)
        have ddf := acall Tryz.func30 (cval) (by decide +kernel) (by decide +kernel)
        have ddg := acall Tryz.func15 (fq) (by decide +kernel) (by decide +kernel)
        have ddh := acall Tryz.func15 (fx) (by decide +kernel) (by decide +kernel)
        have ddi := acall Tryz.func15 (fy) (by decide +kernel) (by decide +kernel)
        have ddj := acall Tryz.func31 (cc) (by decide +kernel) (by decide +kernel)
        have ddk := acall Tryz.func13 (c2) (by decide +kernel) (by decide +kernel)
        have ddl := acall Tryz.func28 (v1) (by decide +kernel) (by decide +kernel)
        have ddm := acall Tryz.func28 (va) (by decide +kernel) (by decide +kernel)
        refine wI ?_
        refine Was 32 (AV.sl (some 32) 1 (List.map intA [24, 16, 8])) rfl ?_
        refine wI ?_
        exact fin ⟨res_of rfl rfl rfl, trivial⟩
theorem actRoot_walk (v0 : Value) (l0 : List (Int)) (v1 : Value) (l1 : List (Int)) (v2 : Value) (l2 : List (Int)) (c3 : Bool) (n4 : Int) (n5 : Int) (w : World) (s0 : Sl ie 1 w v0 l0) (g0 : ∀ n ∈ l0, -9223372036854775808 ≤ n ∧ n ≤ 9223372036854775807) (z0 : l0.length ≤ 17592186043904) (s1 : Sl ie 1 w v1 l1) (g1 : ∀ n ∈ l1, -9223372036854775808 ≤ n ∧ n ≤ 9223372036854775807) (z1 : l1.length ≤ 17592186043904) (s2 : Sl ie 1 w v2 l2) (g2 : ∀ n ∈ l2, -9223372036854775808 ≤ n ∧ n ≤ 9223372036854775807) (z2 : l2.length ≤ 17592186043904) (b4 : -9223372036854775808 ≤ n4 ∧ n4 ≤ 9223372036854775807) (b5 : -9223372036854775808 ≤ n5 ∧ n5 ≤ 9223372036854775807) :
    Calls Tryz.prog 8 #[v0, v1, v2, .bool c3, .int .i64 n4, .int .i64 n5] w (Is w (.bool true)) :=
  law_of (a_actRoot l0 l1 l2 c3 n4 n5 g0 (by omega) g1 g2 b4 b5) (rdp_cons rfl (ints_in s0) (rdp_cons rfl (ints_in s1) (rdp_cons rfl (ints_in s2) (rdp_cons rfl (Rdv_v.2 ⟨rfl, rfl⟩) (rdp_cons rfl int_in (rdp_cons rfl int_in rdp_nil'))))))
end Go.Proofs.YtonjbnoeoececaaGreat

namespace Go.Proofs.YtonjbnoeoececaaGreat
open Go Go.RowKit
set_option linter.unusedVariables false
set_option linter.unusedSimpArgs false
set_option maxRecDepth 100000

/-- an inner node above -/
structure Par (a : Nd) : Prop where
  lf : a.leaf = false
  es : a.es = []
  bf : Bf a.ms
  rs : Rise a.ps
  len : a.ks.length = a.ps.length + 1
  two : 2 ≤ a.ks.length
  four : a.ks.length ≤ 4
  nod : a.ks.Nodup
  kid : ∀ k ∈ a.ks, 1 ≤ k ∧ k < 240
  sum : bSum a.ms ≤ 205
  ms : a.ms.length ≤ 60
theorem innerN_par (p : List Int) (v : Int) (l : List Int) : Par (innerN p v l) := by
  have h := innerN_kid4 p v l
  exact ⟨rfl, rfl, innerN_bf p v l, innerN_rise p v l, innerN_kids p v l, h.2.1, h.1, h.2.2.1, h.2.2.2, innerN_sum p v l, msgList_len l 205⟩
theorem Par.gd {a : Nd} (h : Par a) : a.Gd := by
  have h1 := h.len; have h2 := h.four; have h3 := h.ms
  exact ⟨by rw [h.es]; exact lf_nil, h.bf, h.rs, by rw [h.es]; simp, by omega, by omega, by omega⟩
theorem Par.eta {a : Nd} (h : Par a) : a = ⟨false, [], a.ks, a.ps, a.ms⟩ := by
  obtain ⟨lf, es, ks, ps, ms⟩ := a
  have h1 := h.lf; have h2 := h.es
  dsimp only at h1 h2
  subst h1 h2
  rfl
theorem Par.fits {a : Nd} (h : Par a) {M : List Msg} (hM : Bf M) (hs : bSum M ≤ 205) : nodeFits ⟨false, [], a.ks, a.ps, M⟩ = true :=
  inner_fits (fan_ok_of h.two h.four (by have := h.len; omega) h.nod (fun k hk => by have := h.kid k hk; omega) h.rs) hM hs
theorem less_sum {l g : List Msg} : bSum (bfLess l g) ≤ bSum l := bSum_sub List.filter_sublist
theorem lessN_eq {a : Nd} (h : Par a) (g : List Msg) : lessN a g = ⟨false, [], a.ks, a.ps, bfLess a.ms g⟩ := by
  unfold lessN; rw [h.lf, h.es]
theorem push_keeps {a : Nd} (h : Par a) {es : List Ent} (hl : Lf es) {x : Key} (hx : x.ok = true) (i : Int) (hok : (pushN a (leafOf es) i).2.2 = true) :
    ∃ q c, pushN a (leafOf es) i = (q, c, true) ∧ nodeFits q = true ∧ nodeFits c = true ∧ BSrt q.ms ∧ q.ms.length ≤ a.ms.length ∧ Srt c.es ∧ c.es.length ≤ es.length + a.ms.length ∧ apO (bfGet x q.ms) (lfGet x c.es) = apO (bfGet x a.ms) (lfGet x es) := by
  unfold pushN at hok ⊢
  split at hok
  · split at hok
    · cases hok
    · rename_i h1 h2
      rw [if_pos h1, if_neg h2]
      have hg := goes_bf h.gd i
      have hs := goes_sub a i
      have hgl := goes_len a i
      have h3 : nodeFits (takeN (leafOf es) (goesN a i)) = true := by
        cases q : nodeFits (takeN (leafOf es) (goesN a i)) with
        | true => rfl
        | false => exact absurd (.inr q) h2
      have e1 := takeN_leafOf es (goesN a i)
      rw [e1] at h3 ⊢
      have hal := all_len (goesN a i) es
      refine ⟨_, _, rfl, ?_, h3, ?_, ?_, ?_, ?_, ?_⟩
      · rw [lessN_eq h]; exact h.fits (less_bf h.bf _) (Int.le_trans less_sum h.sum)
      · exact (less_bf h.bf _).srt
      · exact less_len' _ _
      · exact (lf_all hl hg.ok).srt
      · show (lfAll es (goesN a i)).length ≤ _; omega
      · show apO (bfGet x (bfLess a.ms (goesN a i))) (lfGet x (lfAll es (goesN a i))) = _
        rw [get_all hx hl hg.ok]
        exact keep_value h.bf hs hx _
  · cases hok
theorem goes_kid {a : Nd} (h : Par a) {j : Nat} (hj : j ≤ a.ps.length) {m : Msg} (hm : m ∈ goesN a (j : Int)) : kidBy keyCmp m.key a.ps = j := by
  have h1 : m ∈ partI a.ms a.ps (j : Int) := (List.take_sublist _ _).subset hm
  rw [partI_nat _ _ _ hj] at h1
  exact part_kid h.rs h.bf.srt hj h1
theorem goes_sum (a : Nd) (i : Int) : bSum (goesN a i) ≤ 96 := (batch_facts (partI a.ms a.ps i)).2.1
/-- the pivot that comes in between is none of the kid's own -/
theorem no_pivot {a : Nd} (h : Par a) {X y : Key} (hX : X.ok = true) (hyX : y.rank < X.rank) (hk : kidBy keyCmp y a.ps = kidBy keyCmp X a.ps) : ∀ (h0 : 0 < kidBy keyCmp X a.ps) (h1 : kidBy keyCmp X a.ps - 1 < a.ps.length), a.ps[kidBy keyCmp X a.ps - 1] ≠ X := fun h0 h1 e => by
  have h2 := kidBy_lt h.rs (x := y) h1 (by omega)
  rw [e] at h2
  omega
theorem kid_put {a : Nd} (h : Par a) {M : List Msg} (hM : Bf M) (hs : bSum M ≤ 205) {X x y : Key} {id : Int} (hid : 240 ≤ id ∧ id < 256) {j : Nat} (hj : j < a.ks.length) (h4 : a.ks.length < 4) (hX : X.ok = true) (hx : x.ok = true) (hXj : kidBy keyCmp X a.ps = j) (hxj : kidBy keyCmp x a.ps = j) (hyj : kidBy keyCmp y a.ps = j) (hyX : y.rank < X.rank) :
    ∃ q, withKid ⟨false, [], a.ks, a.ps, M⟩ (j : Int) X id = q ∧ nodeFits q = true ∧ q.ms = M ∧ q.ks.length = a.ks.length + 1 ∧ ∃ c, ∃ hc : c < q.ks.length, kidBy refCmp x q.ps = c ∧ (q.ks[c] = id ↔ X.rank ≤ x.rank) ∧ q.ps.length ≤ 4 := by
  have hl := h.len
  have e := fanIns_at (K := a.ks) (P := a.ps) (by omega) hj X id
  obtain ⟨c, c1, c2, c3, c4⟩ := more_kid (K := a.ks) (P := a.ps) (x := X) (y := x) (id := id) (j := j) (by omega) hXj hxj (fun k hk => by have := h.kid k hk; omega)
  have hne := no_pivot h hX hyX (by rw [hyj, hXj])
  have hr := insCuts_rise h.rs hX hne
  have hok := more_ok h.rs hX (by omega : a.ps.length + 1 = a.ks.length) h.two h4 h.nod h.kid hid hne
  rw [hXj] at hr hok
  refine ⟨_, rfl, ?_, rfl, ?_, c, ?_, ?_, ?_, ?_⟩
  · unfold withKid
    dsimp only
    rw [e]
    exact inner_fits hok hM hs
  · show (fanIns a.ks a.ps j X id).1.length = _
    rw [e]; exact c3
  · show c < (fanIns a.ks a.ps j X id).1.length
    rw [e]; exact c2
  · show kidBy refCmp x (fanIns a.ks a.ps j X id).2 = c
    rw [e, kidBy_ref hr hx]; exact c1
  · show (fanIns a.ks a.ps j X id).1[c]'_ = id ↔ _
    have := c4 c2
    simp only [e]
    exact this
  · show (fanIns a.ks a.ps j X id).2.length ≤ 4
    rw [e]
    have := kidBy_le keyCmp X a.ps
    have h5 := h.four
    simp only [insCuts, List.length_append, List.length_take, List.length_drop, List.length_singleton]
    omega
theorem split_keeps {a : Nd} (h : Par a) {es : List Ent} (hl : Lf es) (hs : eSum es ≤ 248) {j : Nat} (hes : ∀ e ∈ es, kidBy keyCmp e.key a.ps = j) {x : Key} (hx : x.ok = true) (hxj : kidBy keyCmp x a.ps = j) (hcut : (splitL a (leafOf es) (j : Int) 254).2.2.2 = true) :
    ∃ q c n, splitL a (leafOf es) (j : Int) 254 = (q, c, n, true) ∧ nodeFits q = true ∧ nodeFits c = true ∧ nodeFits n = true ∧ q.ks.length = a.ks.length + 1 ∧ BSrt q.ms ∧ q.ms.length ≤ a.ms.length ∧ Srt c.es ∧ Srt n.es ∧ c.es.length ≤ es.length + a.ms.length ∧ n.es.length ≤ es.length + a.ms.length ∧
      ∃ i, ∃ hi : i < q.ks.length, kidBy refCmp x q.ps = i ∧ q.ps.length ≤ 4 ∧ apO (bfGet x q.ms) (lfGet x (if q.ks[i] = 254 then n else c).es) = apO (bfGet x a.ms) (lfGet x es) := by
  by_cases hp : partsOk a (j : Int) 254 ∧ (leafOf es).leaf = true
  · rw [splitL_yes hp] at hcut ⊢
    have hg := goes_bf h.gd (j : Int)
    have hsb := goes_sub a (j : Int)
    have hgl := goes_len a (j : Int)
    rw [takeN_leafOf] at hcut ⊢
    replace hcut : (if (halvL (lfAll es (goesN a j))).2.2.2 = true then (withKid (lessN a (goesN a j)) j (halvL (lfAll es (goesN a j))).2.2.1 254, (halvL (lfAll es (goesN a j))).1, (halvL (lfAll es (goesN a j))).2.1, true) else (a, leafOf es, ndZ, false)).2.2.2 = true := hcut
    show ∃ q c n, (if (halvL (lfAll es (goesN a j))).2.2.2 = true then (withKid (lessN a (goesN a j)) j (halvL (lfAll es (goesN a j))).2.2.1 254, (halvL (lfAll es (goesN a j))).1, (halvL (lfAll es (goesN a j))).2.1, true) else (a, leafOf es, ndZ, false)) = (q, c, n, true) ∧ _
    have hLf := lf_all hl hg.ok
    have hal := all_len (goesN a (j : Int)) es
    have hsum := all_sum hl hg.ok
    have hgs := goes_sum a (j : Int)
    have hjk : j < a.ks.length := by have := hp.1.2.2.2.1; omega
    have h4 := hp.1.2.1
    have hjp : j ≤ a.ps.length := by have := h.len; omega
    have hkeys : ∀ e ∈ lfAll es (goesN a j), kidBy keyCmp e.key a.ps = j := fun e he => by
      rcases all_keys he with h1 | ⟨m, hm, h2⟩
      · exact hes e h1
      · rw [h2]; exact goes_kid h hjp hm
    have hget := get_all hx hl hg.ok (ms := goesN a (j : Int))
    have hkv := keep_value h.bf hsb hx (lfGet x es)
    rw [← hget] at hkv
    by_cases h2 : 2 ≤ (lfAll es (goesN a j)).length
    · obtain ⟨A, D, X, hh, hA, hD, sA, sD, hX, ⟨y, hy, hyX⟩, ⟨b, hb, hbX⟩, lA, lD, hget2⟩ := leaf_two hLf h2 (by omega)
      rw [hh] at hcut ⊢
      rw [if_pos rfl, lessN_eq h]
      obtain ⟨q, e1, f1, f2, f3, i, hi, f4, f5, f6⟩ := kid_put h (less_bf h.bf (goesN a j)) (Int.le_trans less_sum h.sum) (id := 254) ⟨by omega, by omega⟩ hjk h4 hX hx (by rw [← hbX]; exact hkeys b hb) hxj (hkeys y hy) hyX
      refine ⟨q, leafOf A, leafOf D, by rw [← e1], f1, leafOf_fits' hA sA, leafOf_fits' hD sD, f3, ?_, ?_, hA.srt, hD.srt, ?_, ?_, i, hi, f4, f6, ?_⟩
      · rw [f2]; exact (less_bf h.bf _).srt
      · rw [f2]; exact less_len' _ _
      · show A.length ≤ _; omega
      · show D.length ≤ _; omega
      · rw [f2, ← hkv, hget2 x hx]
        by_cases c : X.rank ≤ x.rank
        · rw [if_pos (f5.2 c), if_pos c]; rfl
        · rw [if_neg (fun k => c (f5.1 k)), if_neg c]; rfl
    · have e : halvL (lfAll es (goesN a j)) = (ndZ, ndZ, Key.zero, false) := by unfold halvL; rw [if_neg h2]
      rw [e, if_neg (by simp)] at hcut
      cases hcut
  · rw [splitL_no hp] at hcut
    cases hcut
theorem splitL_same {p c : Nd} {i id : Int} (h : (splitL p c i id).2.2.2 = false) : splitL p c i id = (p, c, ndZ, false) := by
  by_cases hp : partsOk p i id ∧ c.leaf = true
  · rw [splitL_yes hp] at h ⊢
    split at h
    · cases h
    · rename_i h1; rw [if_neg h1]
  · exact splitL_no hp
theorem splitI_same {p c : Nd} {i id : Int} (h : (splitI p c i id).2.2.2 = false) : splitI p c i id = (p, c, ndZ, false) := by
  by_cases hp : partsOk p i id ∧ c.leaf = false
  · rw [splitI_yes hp] at h ⊢
    split at h
    · cases h
    · rename_i h1; rw [if_neg h1]
  · exact splitI_no hp
/-! ### inner nodes below -/
structure Sub2 (b : Nd) : Prop where
  lf : b.leaf = false
  es : b.es = []
  bf : Bf b.ms
  rs : Rise b.ps
  len : b.ks.length = b.ps.length + 1
  two : 2 ≤ b.ks.length
  four : b.ks.length ≤ 4
  nod : b.ks.Nodup
  kid : ∀ k ∈ b.ks, 1 ≤ k ∧ k < 240
  sum : bSum b.ms ≤ 205
  ms : b.ms.length ≤ 60
theorem push_inner {a : Nd} (h : Par a) {b : Nd} (hb : Par b) {x : Key} (hx : x.ok = true) (i : Int) (o : Option Vl) :
    ∃ q d ok, pushN a b i = (q, d, ok) ∧ BSrt q.ms ∧ BSrt d.ms ∧ q.ms.length ≤ 200 ∧ d.ms.length ≤ 200 ∧ apO (bfGet x q.ms) (apO (bfGet x d.ms) o) = apO (bfGet x a.ms) (apO (bfGet x b.ms) o) ∧ (ok = true → nodeFits d = true ∧ q.ms.length < a.ms.length) := by
  have hma := h.ms
  have hmb := hb.ms
  have same : ∃ q d ok, ((a, b, false) : Nd × Nd × Bool) = (q, d, ok) ∧ BSrt q.ms ∧ BSrt d.ms ∧ q.ms.length ≤ 200 ∧ d.ms.length ≤ 200 ∧ apO (bfGet x q.ms) (apO (bfGet x d.ms) o) = apO (bfGet x a.ms) (apO (bfGet x b.ms) o) ∧ (ok = true → nodeFits d = true ∧ q.ms.length < a.ms.length) :=
    ⟨a, b, false, rfl, h.bf.srt, hb.bf.srt, by omega, by omega, rfl, fun k => by cases k⟩
  unfold pushN
  split
  · split
    · exact same
    · rename_i h1 h2
      have hg := goes_bf h.gd i
      have hs := goes_sub a i
      have hgl := goes_len a i
      have h3 : nodeFits (takeN b (goesN a i)) = true := by
        cases q : nodeFits (takeN b (goesN a i)) with
        | true => rfl
        | false => exact absurd (.inr q) h2
      have e1 : (takeN b (goesN a i)).ms = bfAll b.ms (goesN a i) := by
        unfold takeN; rw [if_neg (by rw [hb.lf]; simp)]
      have hbl := ball_len (goesN a i) b.ms
      have hll := less_len' a.ms (goesN a i)
      refine ⟨_, _, true, rfl, (less_bf h.bf _).srt, by rw [e1]; exact (bf_all hb.bf hg.ok).srt, by show (bfLess _ _).length ≤ _; omega, by rw [e1]; omega, ?_, fun _ => ⟨h3, ?_⟩⟩
      · show apO (bfGet x (bfLess a.ms (goesN a i))) _ = _
        rw [e1, get_ball hx o hb.bf hg.ok]
        exact keep_value h.bf hs hx _
      · exact less_lt h.bf.srt hs (fun k => h2 (.inl k))
  · exact same
theorem split_inner {a : Nd} (h : Par a) {b : Nd} (hb : Par b) {j : Nat} (hps : ∀ k ∈ b.ps, kidBy keyCmp k a.ps = j) {x : Key} (hx : x.ok = true) (hxj : kidBy keyCmp x a.ps = j) (hcut : (splitI a b (j : Int) 253).2.2.2 = true) (o : Option Vl) :
    ∃ q d n, splitI a b (j : Int) 253 = (q, d, n, true) ∧ nodeFits q = true ∧ nodeFits d = true ∧ nodeFits n = true ∧ q.ks.length = a.ks.length + 1 ∧ d.ks.length = 2 ∧ n.ks.length = 2 ∧ BSrt q.ms ∧ q.ms.length ≤ 200 ∧ BSrt d.ms ∧ BSrt n.ms ∧ d.ms.length ≤ 200 ∧ n.ms.length ≤ 200 ∧
      ∃ i, ∃ hi : i < q.ks.length, kidBy refCmp x q.ps = i ∧ q.ps.length ≤ 4 ∧ apO (bfGet x q.ms) (apO (bfGet x (if q.ks[i] = 253 then n else d).ms) o) = apO (bfGet x a.ms) (apO (bfGet x b.ms) o) := by
  have hma := h.ms
  have hmb := hb.ms
  by_cases hp : partsOk a (j : Int) 253 ∧ b.leaf = false
  · rw [splitI_yes hp] at hcut ⊢
    have hjk : j < a.ks.length := by have := hp.1.2.2.2.1; omega
    have h4 := hp.1.2.1
    cases hq : (halvI b).2.2.2 with
    | false => rw [hq, if_neg (by simp)] at hcut; cases hcut
    | true =>
      obtain ⟨d, n, X, hh, fd, fn, kd, kn, hX, hXm, ⟨y, hy, hyX⟩, bd, bn, ld, ln, hget⟩ := inner_two hb.bf hb.rs hb.nod (fun k hk => by have := hb.kid k hk; omega) hb.sum hq
      rw [hh, if_pos rfl]
      obtain ⟨q, e1, f1, f2, f3, i, hi, f4, f5, f6⟩ := kid_put h h.bf h.sum (id := 253) ⟨by omega, by omega⟩ hjk h4 hX hx (hps X hXm) hxj (hps y hy) hyX
      rw [← h.eta] at e1
      refine ⟨q, d, n, by rw [← e1], f1, fd, fn, f3, kd, kn, ?_, ?_, bd.srt, bn.srt, by omega, by omega, i, hi, f4, f6, ?_⟩
      · rw [f2]; exact h.bf.srt
      · rw [f2]; omega
      · rw [f2, hget x]
        by_cases c : X.rank ≤ x.rank
        · rw [if_pos (f5.2 c), if_pos c]
        · rw [if_neg (fun k => c (f5.1 k)), if_neg c]
  · rw [splitI_no hp] at hcut
    cases hcut
theorem kidI_par {c : List Int} {v : Int} {m : List Int} {cuts : List Key} {j : Nat} (h : (kidI (innerN c v m) cuts j).leaf = false) : Par (kidI (innerN c v m) cuts j) ∧ (∀ k ∈ (kidI (innerN c v m) cuts j).ps, kidBy keyCmp k cuts = j) := by
  have hp := innerN_par c v m
  generalize innerN c v m = n at *
  unfold kidI at h ⊢
  split
  · rename_i h1; rw [if_pos h1] at h; cases h
  · rename_i h1
    have hsub : List.Sublist (kidPs cuts j n.ps) n.ps := List.filter_sublist
    have hl := hsub.length_le
    have h2 := hp.len
    have h4 := hp.four
    have hpos : 0 < (kidPs cuts j n.ps).length := List.length_pos_iff.2 h1
    refine ⟨⟨rfl, rfl, part_bf hp.bf _ _, hp.rs.sub hsub, ?_, ?_, ?_, hp.nod.sublist (List.take_sublist _ _), fun k hk => hp.kid k (List.mem_of_mem_take hk), Int.le_trans (part_sum hp.bf.srt _ _) hp.sum, Nat.le_trans (part_len _ _ _) hp.ms⟩, fun k hk => of_decide_eq_true (List.mem_filter.1 hk).2⟩
    · show (n.ks.take ((kidPs cuts j n.ps).length + 1)).length = (kidPs cuts j n.ps).length + 1; rw [List.length_take]; omega
    · show 2 ≤ (n.ks.take _).length; rw [List.length_take]; omega
    · show (n.ks.take _).length ≤ 4; rw [List.length_take]; omega
end Go.Proofs.YtonjbnoeoececaaGreat

namespace Go.Proofs.YtonjbnoeoececaaGreat
open Go Go.RowKit
set_option linter.unusedVariables false
set_option linter.unusedSimpArgs false
set_option maxRecDepth 100000

theorem place_nat (i : Int) (n : Nat) (h : 0 < n) : ∃ j : Nat, i % (n : Int) = (j : Int) ∧ j < n := by
  have h1 := Int.emod_nonneg i (show (n : Int) ≠ 0 by omega)
  have h2 := Int.emod_lt_of_pos i (show (0 : Int) < (n : Int) by omega)
  exact ⟨(i % (n : Int)).toNat, by omega, by omega⟩
attribute [local irreducible] OpOK AWops AW CondB Go2 AFn thenA inBlockA noGotoA orderOk wantedA
set_option maxRecDepth 100000 in
set_option maxHeartbeats 16000000 in
theorem a_actKeeps (p l e : List Int) (i k : Int) (hpl : p.length ≤ 17592186044400) (hp : ∀ n ∈ p, -9223372036854775808 ≤ n ∧ n ≤ 9223372036854775807) (hl : ∀ n ∈ l, -9223372036854775808 ≤ n ∧ n ≤ 9223372036854775807) (he : ∀ n ∈ e, -9223372036854775808 ≤ n ∧ n ≤ 9223372036854775807) (hi : -9223372036854775808 ≤ i ∧ i ≤ 9223372036854775807) (hk : -9223372036854775808 ≤ k ∧ k ≤ 9223372036854775807) : AFn Tryz.prog 6 [intsA p, intsA l, intsA e, intA i, intA k] (boolA true) := by
  have c1 := a_inner p 50 l hpl hp (by omega) hl
  have hP := innerN_par p 50 l
  generalize innerN p 50 l = a at *
  have hgd := hP.gd
  have hkl := hP.len
  have hk4 := hP.four
  have hk2 := hP.two
  have hma := hP.ms
  have c2 := a_lplace i (a.ks.length : Nat) (by omega) (by omega) hi
  obtain ⟨j, hj, hjl⟩ := place_nat i a.ks.length (by omega)
  rw [hj] at c2
  have c3 := a_kidleaf a hgd j (by omega) e he
  have hlf : Lf (kidEs a.ps j (leafN e).es) := ⟨fun y hy => (leafN_gd e).lf.ok y (List.mem_filter.1 hy).1, (leafN_gd e).lf.srt.sublist List.filter_sublist⟩
  have hes : eSum (kidEs a.ps j (leafN e).es) ≤ 248 := Int.le_trans (eSum_sub (leafN_ebd e) List.filter_sublist) (leafN_sum e)
  have hel : (kidEs a.ps j (leafN e).es).length ≤ 80 := Nat.le_trans (List.length_filter_le _ _) (leafN_lens e).1
  have hek : ∀ y ∈ kidEs a.ps j (leafN e).es, kidBy keyCmp y.key a.ps = j := fun y hy => of_decide_eq_true (List.mem_filter.1 hy).2
  generalize kidEs a.ps j (leafN e).es = es at *
  have c4 := a_lkey k hk
  have hx := lawKey_ok k
  generalize lawKey k = x at *
  have c5 := a_value10 (leafOf es) hlf.srt (by show es.length ≤ _; omega) x [a] (fun y hy => by rw [List.mem_singleton.1 hy]; exact ⟨hP.bf.srt, by omega⟩) (by simp)
  rw [show valN x (lfGet x (leafOf es).es) [a] = apO (bfGet x a.ms) (lfGet x es) from rfl] at c5
  have c6 := a_refkid a.ps x (by omega)
  rw [kidBy_ref hP.rs hx] at c6
  have hbg := leafOf_gd hlf (by omega : es.length ≤ 100000)
  have cpush := a_actpush a (leafOf es) hgd hbg (j : Int)
  have csplit := a_splitleaf a (leafOf es) hgd hbg (by omega) (by show es.length + _ ≤ _; omega) (by show 0 + _ ≤ _; omega) (j : Int) 254
  have smp := push_sm hgd hbg (j : Int)
  have sms := splitL_sm hgd hbg (j : Int) 254
  unfold tup4 at csplit
  have csa := a_sames a hgd.Sm
  have csb := a_sames (leafOf es) hbg.Sm
  by_cases hxj : kidBy keyCmp x a.ps = j
  · have hkp := fun h => push_keeps hP hlf hx (j : Int) h
    have hks := fun h => split_keeps hP hlf hes hek hx hxj h
    have hss := fun h => splitL_same (p := a) (c := leafOf es) (i := (j : Int)) (id := 254) h
    generalize apO (bfGet x a.ms) (lfGet x es) = V at *
    generalize leafOf es = b at *
    rw [hxj] at c6
    cases hok : (pushN a b (j : Int)).2.2 with
    | false =>
      rw [hok] at cpush
      generalize (pushN a b (j : Int)).1 = w1 at *
      generalize (pushN a b (j : Int)).2.1 = w2 at *
      cases hcut : (splitL a b (j : Int) 254).2.2.2 with
      | false =>
        rw [hss hcut] at csplit
        dsimp only at csplit
        refine AFn_intro Tryz.func6 rfl Tryz.ntmps6 rfl (by simp) [_] rfl fun E hE => ?_; have hnt : (!true) = false := rfl; have hnf : (!false) = true := rfl
        have dda := acall Tryz.func13 (c1) (by decide +kernel) (by decide +kernel)
        have ddb := acall Tryz.func25 (c2) (by decide +kernel) (by decide +kernel)
        have ddc := acall Tryz.func26 (c3) (by decide +kernel) (by decide +kernel)
        have ddd := acall Tryz.func27 (c4) (by decide +kernel) (by decide +kernel)
        have dde := acall Tryz.func28 (c5) (by decide +kernel) (by decide +kernel)
        have ddf := acall Tryz.func29 (c6) (by decide +kernel) (by decide +kernel)
        have ddg := acall Tryz.func16 (a_awake10) (by decide +kernel) (by decide +kernel)
        have ddh := acall Tryz.func17 (cpush) (by decide +kernel) (by decide +kernel)
        have ddi := acall Tryz.func19 (csplit) (by decide +kernel) (by decide +kernel)
        have ddj := acall Tryz.func14 (csa) (by decide +kernel) (by decide +kernel)
        have ddk := acall Tryz.func14 (csb) (by decide +kernel) (by decide +kernel)
        refine wI ?_
        exact fin ⟨res_of rfl rfl rfl, trivial⟩
      | true =>
        obtain ⟨q2, c2', n2, e2, g1, g2, g3, g4, g5, g6, g7, g8, g9, ga, t, ht, gb, gc, gd⟩ := hks hcut
        rw [e2] at csplit sms
        dsimp only at csplit sms
        have h1 := a_ref09fits q2 sms.1
        have h2 := a_ref09fits c2' sms.2.1
        have h3 := a_ref09fits n2 sms.2.2
        rw [g1] at h1
        rw [g2] at h2
        rw [g3] at h3
        have h4 := a_refkid q2.ps x (by omega)
        rw [gb] at h4
        have h5 := a_value10 c2' g7 (by omega) x [q2] (fun y hy => by rw [List.mem_singleton.1 hy]; exact ⟨g5, by omega⟩) (by simp)
        have h6 := a_value10 n2 g8 (by omega) x [q2] (fun y hy => by rw [List.mem_singleton.1 hy]; exact ⟨g5, by omega⟩) (by simp)
        rw [show valN x (lfGet x c2'.es) [q2] = apO (bfGet x q2.ms) (lfGet x c2'.es) from rfl] at h5
        rw [show valN x (lfGet x n2.es) [q2] = apO (bfGet x q2.ms) (lfGet x n2.es) from rfl] at h6
        by_cases hc : q2.ks[t] = 254
        · rw [if_pos hc] at gd
          rw [gd] at h6
          refine AFn_intro Tryz.func6 rfl Tryz.ntmps6 rfl (by simp) [_] rfl fun E hE => ?_; have hnt : (!true) = false := rfl; have hnf : (!false) = true := rfl
          have dda := acall Tryz.func13 (c1) (by decide +kernel) (by decide +kernel)
          have ddb := acall Tryz.func25 (c2) (by decide +kernel) (by decide +kernel)
          have ddc := acall Tryz.func26 (c3) (by decide +kernel) (by decide +kernel)
          have ddd := acall Tryz.func27 (c4) (by decide +kernel) (by decide +kernel)
          have dde := acall Tryz.func28 (c5) (by decide +kernel) (by decide +kernel)
          have ddf := acall Tryz.func29 (c6) (by decide +kernel) (by decide +kernel)
          have ddg := acall Tryz.func16 (a_awake10) (by decide +kernel) (by decide +kernel)
          have ddh := acall Tryz.func17 (cpush) (by decide +kernel) (by decide +kernel)
          have ddi := acall Tryz.func19 (csplit) (by decide +kernel) (by decide +kernel)
          have ddj := acall Tryz.func15 (h1) (by decide +kernel) (by decide +kernel)
          have ddk := acall Tryz.func15 (h2) (by decide +kernel) (by decide +kernel)
          have ddl := acall Tryz.func15 (h3) (by decide +kernel) (by decide +kernel)
          have ddm := acall Tryz.func29 (h4) (by decide +kernel) (by decide +kernel)
          have ddn := acall Tryz.func28 (h6) (by decide +kernel) (by decide +kernel)
          refine wI ?_
          refine Wri 146 (t : Nat) rfl (Int.emod_eq_of_lt (by omega) (by omega)) ?_
          refine wI ?_
          exact fin ⟨res_of rfl rfl rfl, trivial⟩
        · rw [if_neg hc] at gd
          rw [gd] at h5
          refine AFn_intro Tryz.func6 rfl Tryz.ntmps6 rfl (by simp) [_] rfl fun E hE => ?_; have hnt : (!true) = false := rfl; have hnf : (!false) = true := rfl
          have dda := acall Tryz.func13 (c1) (by decide +kernel) (by decide +kernel)
          have ddb := acall Tryz.func25 (c2) (by decide +kernel) (by decide +kernel)
          have ddc := acall Tryz.func26 (c3) (by decide +kernel) (by decide +kernel)
          have ddd := acall Tryz.func27 (c4) (by decide +kernel) (by decide +kernel)
          have dde := acall Tryz.func28 (c5) (by decide +kernel) (by decide +kernel)
          have ddf := acall Tryz.func29 (c6) (by decide +kernel) (by decide +kernel)
          have ddg := acall Tryz.func16 (a_awake10) (by decide +kernel) (by decide +kernel)
          have ddh := acall Tryz.func17 (cpush) (by decide +kernel) (by decide +kernel)
          have ddi := acall Tryz.func19 (csplit) (by decide +kernel) (by decide +kernel)
          have ddj := acall Tryz.func15 (h1) (by decide +kernel) (by decide +kernel)
          have ddk := acall Tryz.func15 (h2) (by decide +kernel) (by decide +kernel)
          have ddl := acall Tryz.func15 (h3) (by decide +kernel) (by decide +kernel)
          have ddm := acall Tryz.func29 (h4) (by decide +kernel) (by decide +kernel)
          have ddn := acall Tryz.func28 (h5) (by decide +kernel) (by decide +kernel)
          refine wI ?_
          refine Wri 146 (t : Nat) rfl (Int.emod_eq_of_lt (by omega) (by omega)) ?_
          refine wI ?_
          exact fin ⟨res_of rfl rfl rfl, trivial⟩
    | true =>
      obtain ⟨q, c, e1, f1', f2', f3, f4, f5, f6, f7⟩ := hkp hok
      rw [e1] at cpush smp
      dsimp only at cpush smp
      have f1 := a_ref09fits q smp.1
      have f2 := a_ref09fits c smp.2
      rw [f1'] at f1
      rw [f2'] at f2
      have v1 := a_value10 c f5 (by omega) x [q] (fun y hy => by rw [List.mem_singleton.1 hy]; exact ⟨f3, by omega⟩) (by simp)
      rw [show valN x (lfGet x c.es) [q] = apO (bfGet x q.ms) (lfGet x c.es) from rfl, f7] at v1
      have n1 : ¬ (opA V).1 ≠ (opA V).1 := fun h => h rfl
      have n2 : ¬ (opA V).2 ≠ (opA V).2 := fun h => h rfl
      cases hcut : (splitL a b (j : Int) 254).2.2.2 with
      | false =>
        rw [hss hcut] at csplit
        dsimp only at csplit
        refine AFn_intro Tryz.func6 rfl Tryz.ntmps6 rfl (by simp) [_] rfl fun E hE => ?_; have hnt : (!true) = false := rfl; have hnf : (!false) = true := rfl
        have dda := acall Tryz.func13 (c1) (by decide +kernel) (by decide +kernel)
        have ddb := acall Tryz.func25 (c2) (by decide +kernel) (by decide +kernel)
        have ddc := acall Tryz.func26 (c3) (by decide +kernel) (by decide +kernel)
        have ddd := acall Tryz.func27 (c4) (by decide +kernel) (by decide +kernel)
        have dde := acall Tryz.func28 (c5) (by decide +kernel) (by decide +kernel)
        have ddf := acall Tryz.func29 (c6) (by decide +kernel) (by decide +kernel)
        have ddg := acall Tryz.func16 (a_awake10) (by decide +kernel) (by decide +kernel)
        have ddh := acall Tryz.func17 (cpush) (by decide +kernel) (by decide +kernel)
        have ddi := acall Tryz.func28 (v1) (by decide +kernel) (by decide +kernel)
        have ddj := acall Tryz.func15 (f1) (by decide +kernel) (by decide +kernel)
        have ddk := acall Tryz.func15 (f2) (by decide +kernel) (by decide +kernel)
        have ddl := acall Tryz.func19 (csplit) (by decide +kernel) (by decide +kernel)
        have ddm := acall Tryz.func14 (csa) (by decide +kernel) (by decide +kernel)
        have ddn := acall Tryz.func14 (csb) (by decide +kernel) (by decide +kernel)
        refine wI ?_
        exact fin ⟨res_of rfl rfl rfl, trivial⟩
      | true =>
        obtain ⟨q2, c2', n2, e2, g1, g2, g3, g4, g5, g6, g7, g8, g9, ga, t, ht, gb, gc, gd⟩ := hks hcut
        rw [e2] at csplit sms
        dsimp only at csplit sms
        have h1 := a_ref09fits q2 sms.1
        have h2 := a_ref09fits c2' sms.2.1
        have h3 := a_ref09fits n2 sms.2.2
        rw [g1] at h1
        rw [g2] at h2
        rw [g3] at h3
        have h4 := a_refkid q2.ps x (by omega)
        rw [gb] at h4
        have h5 := a_value10 c2' g7 (by omega) x [q2] (fun y hy => by rw [List.mem_singleton.1 hy]; exact ⟨g5, by omega⟩) (by simp)
        have h6 := a_value10 n2 g8 (by omega) x [q2] (fun y hy => by rw [List.mem_singleton.1 hy]; exact ⟨g5, by omega⟩) (by simp)
        rw [show valN x (lfGet x c2'.es) [q2] = apO (bfGet x q2.ms) (lfGet x c2'.es) from rfl] at h5
        rw [show valN x (lfGet x n2.es) [q2] = apO (bfGet x q2.ms) (lfGet x n2.es) from rfl] at h6
        by_cases hc : q2.ks[t] = 254
        · rw [if_pos hc] at gd
          rw [gd] at h6
          refine AFn_intro Tryz.func6 rfl Tryz.ntmps6 rfl (by simp) [_] rfl fun E hE => ?_; have hnt : (!true) = false := rfl; have hnf : (!false) = true := rfl
          have dda := acall Tryz.func13 (c1) (by decide +kernel) (by decide +kernel)
          have ddb := acall Tryz.func25 (c2) (by decide +kernel) (by decide +kernel)
          have ddc := acall Tryz.func26 (c3) (by decide +kernel) (by decide +kernel)
          have ddd := acall Tryz.func27 (c4) (by decide +kernel) (by decide +kernel)
          have dde := acall Tryz.func28 (c5) (by decide +kernel) (by decide +kernel)
          have ddf := acall Tryz.func29 (c6) (by decide +kernel) (by decide +kernel)
          have ddg := acall Tryz.func16 (a_awake10) (by decide +kernel) (by decide +kernel)
          have ddh := acall Tryz.func17 (cpush) (by decide +kernel) (by decide +kernel)
          have ddi := acall Tryz.func28 (v1) (by decide +kernel) (by decide +kernel)
          have ddj := acall Tryz.func15 (f1) (by decide +kernel) (by decide +kernel)
          have ddk := acall Tryz.func15 (f2) (by decide +kernel) (by decide +kernel)
          have ddl := acall Tryz.func19 (csplit) (by decide +kernel) (by decide +kernel)
          have ddm := acall Tryz.func15 (h1) (by decide +kernel) (by decide +kernel)
          have ddn := acall Tryz.func15 (h2) (by decide +kernel) (by decide +kernel)
          have ddo := acall Tryz.func15 (h3) (by decide +kernel) (by decide +kernel)
          have ddp := acall Tryz.func29 (h4) (by decide +kernel) (by decide +kernel)
          have ddq := acall Tryz.func28 (h6) (by decide +kernel) (by decide +kernel)
          refine wI ?_
          refine Wri 146 (t : Nat) rfl (Int.emod_eq_of_lt (by omega) (by omega)) ?_
          refine wI ?_
          exact fin ⟨res_of rfl rfl rfl, trivial⟩
        · rw [if_neg hc] at gd
          rw [gd] at h5
          refine AFn_intro Tryz.func6 rfl Tryz.ntmps6 rfl (by simp) [_] rfl fun E hE => ?_; have hnt : (!true) = false := rfl; have hnf : (!false) = true := rfl
          have dda := acall Tryz.func13 (c1) (by decide +kernel) (by decide +kernel)
          have ddb := acall Tryz.func25 (c2) (by decide +kernel) (by decide +kernel)
          have ddc := acall Tryz.func26 (c3) (by decide +kernel) (by decide +kernel)
          have ddd := acall Tryz.func27 (c4) (by decide +kernel) (by decide +kernel)
          have dde := acall Tryz.func28 (c5) (by decide +kernel) (by decide +kernel)
          have ddf := acall Tryz.func29 (c6) (by decide +kernel) (by decide +kernel)
          have ddg := acall Tryz.func16 (a_awake10) (by decide +kernel) (by decide +kernel)
          have ddh := acall Tryz.func17 (cpush) (by decide +kernel) (by decide +kernel)
          have ddi := acall Tryz.func28 (v1) (by decide +kernel) (by decide +kernel)
          have ddj := acall Tryz.func15 (f1) (by decide +kernel) (by decide +kernel)
          have ddk := acall Tryz.func15 (f2) (by decide +kernel) (by decide +kernel)
          have ddl := acall Tryz.func19 (csplit) (by decide +kernel) (by decide +kernel)
          have ddm := acall Tryz.func15 (h1) (by decide +kernel) (by decide +kernel)
          have ddn := acall Tryz.func15 (h2) (by decide +kernel) (by decide +kernel)
          have ddo := acall Tryz.func15 (h3) (by decide +kernel) (by decide +kernel)
          have ddp := acall Tryz.func29 (h4) (by decide +kernel) (by decide +kernel)
          have ddq := acall Tryz.func28 (h5) (by decide +kernel) (by decide +kernel)
          refine wI ?_
          refine Wri 146 (t : Nat) rfl (Int.emod_eq_of_lt (by omega) (by omega)) ?_
          refine wI ?_
          exact fin ⟨res_of rfl rfl rfl, trivial⟩
  · clear cpush csplit csa csb smp sms hbg
    generalize apO (bfGet x a.ms) (lfGet x es) = V at *
    generalize leafOf es = b at *
    have hne : ((kidBy keyCmp x a.ps : Nat) : Int) ≠ (j : Int) := by omega
    refine AFn_intro Tryz.func6 rfl Tryz.ntmps6 rfl (by simp) [_] rfl fun E hE => ?_; have hnt : (!true) = false := rfl; have hnf : (!false) = true := rfl
    have dda := acall Tryz.func13 (c1) (by decide +kernel) (by decide +kernel)
    have ddb := acall Tryz.func25 (c2) (by decide +kernel) (by decide +kernel)
    have ddc := acall Tryz.func26 (c3) (by decide +kernel) (by decide +kernel)
    have ddd := acall Tryz.func27 (c4) (by decide +kernel) (by decide +kernel)
    have dde := acall Tryz.func28 (c5) (by decide +kernel) (by decide +kernel)
    have ddf := acall Tryz.func29 (c6) (by decide +kernel) (by decide +kernel)
    have ddg := acall Tryz.func16 (a_awake10) (by decide +kernel) (by decide +kernel)
    refine wI ?_
    exact fin ⟨res_of rfl rfl rfl, trivial⟩
set_option maxRecDepth 100000 in
set_option maxHeartbeats 16000000 in
theorem a_actInner (p l c m : List Int) (i k v : Int) (hpl : p.length ≤ 17592186044400) (hp : ∀ n ∈ p, -9223372036854775808 ≤ n ∧ n ≤ 9223372036854775807) (hl : ∀ n ∈ l, -9223372036854775808 ≤ n ∧ n ≤ 9223372036854775807) (hcl : c.length ≤ 17592186044400) (hc : ∀ n ∈ c, -9223372036854775808 ≤ n ∧ n ≤ 9223372036854775807) (hm : ∀ n ∈ m, -9223372036854775808 ≤ n ∧ n ≤ 9223372036854775807) (hi : -9223372036854775808 ≤ i ∧ i ≤ 9223372036854775807) (hk : -9223372036854775808 ≤ k ∧ k ≤ 9223372036854775807) (hv : -9223372036854775808 ≤ v ∧ v ≤ 9223372036854775807) : AFn Tryz.prog 7 [intsA p, intsA l, intsA c, intsA m, intA i, intA k, intA v] (boolA true) := by
  have c1 := a_inner p 50 l hpl hp (by omega) hl
  have hP := innerN_par p 50 l
  generalize innerN p 50 l = a at *
  have hgd := hP.gd
  have hkl := hP.len
  have hk4 := hP.four
  have hk2 := hP.two
  have hma := hP.ms
  have c2 := a_lplace i (a.ks.length : Nat) (by omega) (by omega) hi
  obtain ⟨j, hj, hjl⟩ := place_nat i a.ks.length (by omega)
  rw [hj] at c2
  have c3 := a_kidinner a hgd j (by omega) c m hcl hc hm
  have hB := @kidI_par c 11 m a.ps j
  generalize kidI (innerN c 11 m) a.ps j = b at *
  have c4 := a_lkey k hk
  have hx := lawKey_ok k
  generalize lawKey k = x at *
  have cv := a_lval v hv
  generalize lawVl v = V at *
  cases hlf : b.leaf with
  | true =>
    refine AFn_intro Tryz.func7 rfl Tryz.ntmps7 rfl (by simp) [_] rfl fun E hE => ?_; have hnt : (!true) = false := rfl; have hnf : (!false) = true := rfl
    have dda := acall Tryz.func13 (c1) (by decide +kernel) (by decide +kernel)
    have ddb := acall Tryz.func25 (c2) (by decide +kernel) (by decide +kernel)
    have ddc := acall Tryz.func26 (c3) (by decide +kernel) (by decide +kernel)
    have ddd := acall Tryz.func27 (c4) (by decide +kernel) (by decide +kernel)
    have dde := acall Tryz.func16 (a_awake10) (by decide +kernel) (by decide +kernel)
    refine wI ?_
    exact fin ⟨res_of rfl rfl rfl, trivial⟩
  | false =>
    obtain ⟨hB, hbp⟩ := hB hlf
    have hmb := hB.ms
    have c6 := a_refkid a.ps x (by omega)
    rw [kidBy_ref hP.rs hx] at c6
    by_cases hxj : kidBy keyCmp x a.ps = j
    · rw [hxj] at c6
      have c5 := a_valueL x V [b, a] (fun y hy => by rcases List.mem_cons.1 hy with h | h; rw [h]; exact ⟨hB.bf.srt, by omega⟩; rw [List.mem_singleton.1 h]; exact ⟨hP.bf.srt, by omega⟩) (by simp)
      rw [show valN x (some V) [b, a] = apO (bfGet x a.ms) (apO (bfGet x b.ms) (some V)) from rfl] at c5
      have cpush := a_actpush a b hgd hB.gd (j : Int)
      have csplit := a_splitinner a b hgd hB.gd (by omega) (j : Int) 253
      have smp := push_sm hgd hB.gd (j : Int)
      have sms := splitI_sm hgd hB.gd (j : Int) 253
      unfold tup4 at csplit
      have hss := fun h => splitI_same (p := a) (c := b) (i := (j : Int)) (id := 253) h
      have hks := fun h => split_inner hP hB hbp hx hxj h (some V)
      obtain ⟨q, d, ok, e1, f1, f2, f3, f4, f5, f6⟩ := push_inner hP hB hx (j : Int) (some V)
      rw [e1] at cpush smp
      dsimp only at cpush smp
      have v1 := a_valueL x V [d, q] (fun y hy => by rcases List.mem_cons.1 hy with h | h; rw [h]; exact ⟨f2, by omega⟩; rw [List.mem_singleton.1 h]; exact ⟨f1, by omega⟩) (by simp)
      rw [show valN x (some V) [d, q] = apO (bfGet x q.ms) (apO (bfGet x d.ms) (some V)) from rfl, f5] at v1
      generalize apO (bfGet x a.ms) (apO (bfGet x b.ms) (some V)) = V2 at *
      have fd := a_ref09fits d smp.2
      have n1 : ¬ (opA V2).1 ≠ (opA V2).1 := fun h => h rfl
      have n2 : ¬ (opA V2).2 ≠ (opA V2).2 := fun h => h rfl
      cases ok with
      | false =>
        cases hcut : (splitI a b (j : Int) 253).2.2.2 with
        | false =>
          rw [hss hcut] at csplit
          dsimp only at csplit
          refine AFn_intro Tryz.func7 rfl Tryz.ntmps7 rfl (by simp) [_] rfl fun E hE => ?_; have hnt : (!true) = false := rfl; have hnf : (!false) = true := rfl
          have dda := acall Tryz.func13 (c1) (by decide +kernel) (by decide +kernel)
          have ddb := acall Tryz.func25 (c2) (by decide +kernel) (by decide +kernel)
          have ddc := acall Tryz.func26 (c3) (by decide +kernel) (by decide +kernel)
          have ddd := acall Tryz.func27 (c4) (by decide +kernel) (by decide +kernel)
          have dde := acall Tryz.func16 (a_awake10) (by decide +kernel) (by decide +kernel)
          have ddf := acall Tryz.func30 (cv) (by decide +kernel) (by decide +kernel)
          have ddg := acall Tryz.func29 (c6) (by decide +kernel) (by decide +kernel)
          have ddh := acall Tryz.func28 (c5) (by decide +kernel) (by decide +kernel)
          have ddi := acall Tryz.func17 (cpush) (by decide +kernel) (by decide +kernel)
          have ddj := acall Tryz.func28 (v1) (by decide +kernel) (by decide +kernel)
          have ddk := acall Tryz.func21 (csplit) (by decide +kernel) (by decide +kernel)
          refine wI ?_
          exact fin ⟨res_of rfl rfl rfl, trivial⟩
        | true =>
          obtain ⟨q2, d2, n2, e2, g1, g2, g3, g4, g5, g6, g7, g8, g9, ga, gb, gc, t, ht, gd, ge, gf⟩ := hks hcut
          rw [e2] at csplit sms
          dsimp only at csplit sms
          have h1 := a_ref09fits q2 sms.1
          have h2 := a_ref09fits d2 sms.2.1
          have h3 := a_ref09fits n2 sms.2.2
          rw [g1] at h1
          rw [g2] at h2
          rw [g3] at h3
          have h4 := a_refkid q2.ps x (by omega)
          rw [gd] at h4
          have h5 := a_valueL x V [d2, q2] (fun y hy => by rcases List.mem_cons.1 hy with h | h; rw [h]; exact ⟨g9, by omega⟩; rw [List.mem_singleton.1 h]; exact ⟨g7, by omega⟩) (by simp)
          have h6 := a_valueL x V [n2, q2] (fun y hy => by rcases List.mem_cons.1 hy with h | h; rw [h]; exact ⟨ga, by omega⟩; rw [List.mem_singleton.1 h]; exact ⟨g7, by omega⟩) (by simp)
          rw [show valN x (some V) [d2, q2] = apO (bfGet x q2.ms) (apO (bfGet x d2.ms) (some V)) from rfl] at h5
          rw [show valN x (some V) [n2, q2] = apO (bfGet x q2.ms) (apO (bfGet x n2.ms) (some V)) from rfl] at h6
          by_cases hc : q2.ks[t] = 253
          · rw [if_pos hc] at gf
            rw [gf] at h6
            refine AFn_intro Tryz.func7 rfl Tryz.ntmps7 rfl (by simp) [_] rfl fun E hE => ?_; have hnt : (!true) = false := rfl; have hnf : (!false) = true := rfl
            have dda := acall Tryz.func13 (c1) (by decide +kernel) (by decide +kernel)
            have ddb := acall Tryz.func25 (c2) (by decide +kernel) (by decide +kernel)
            have ddc := acall Tryz.func26 (c3) (by decide +kernel) (by decide +kernel)
            have ddd := acall Tryz.func27 (c4) (by decide +kernel) (by decide +kernel)
            have dde := acall Tryz.func16 (a_awake10) (by decide +kernel) (by decide +kernel)
            have ddf := acall Tryz.func30 (cv) (by decide +kernel) (by decide +kernel)
            have ddg := acall Tryz.func29 (c6) (by decide +kernel) (by decide +kernel)
            have ddh := acall Tryz.func28 (c5) (by decide +kernel) (by decide +kernel)
            have ddi := acall Tryz.func17 (cpush) (by decide +kernel) (by decide +kernel)
            have ddj := acall Tryz.func28 (v1) (by decide +kernel) (by decide +kernel)
            have ddk := acall Tryz.func21 (csplit) (by decide +kernel) (by decide +kernel)
            have ddl := acall Tryz.func15 (h1) (by decide +kernel) (by decide +kernel)
            have ddm := acall Tryz.func15 (h2) (by decide +kernel) (by decide +kernel)
            have ddn := acall Tryz.func15 (h3) (by decide +kernel) (by decide +kernel)
            have ddo := acall Tryz.func29 (h4) (by decide +kernel) (by decide +kernel)
            have ddp := acall Tryz.func28 (h6) (by decide +kernel) (by decide +kernel)
            refine wI ?_
            refine Wri 143 (t : Nat) rfl (Int.emod_eq_of_lt (by omega) (by omega)) ?_
            refine wI ?_
            exact fin ⟨res_of rfl rfl rfl, trivial⟩
          · rw [if_neg hc] at gf
            rw [gf] at h5
            refine AFn_intro Tryz.func7 rfl Tryz.ntmps7 rfl (by simp) [_] rfl fun E hE => ?_; have hnt : (!true) = false := rfl; have hnf : (!false) = true := rfl
            have dda := acall Tryz.func13 (c1) (by decide +kernel) (by decide +kernel)
            have ddb := acall Tryz.func25 (c2) (by decide +kernel) (by decide +kernel)
            have ddc := acall Tryz.func26 (c3) (by decide +kernel) (by decide +kernel)
            have ddd := acall Tryz.func27 (c4) (by decide +kernel) (by decide +kernel)
            have dde := acall Tryz.func16 (a_awake10) (by decide +kernel) (by decide +kernel)
            have ddf := acall Tryz.func30 (cv) (by decide +kernel) (by decide +kernel)
            have ddg := acall Tryz.func29 (c6) (by decide +kernel) (by decide +kernel)
            have ddh := acall Tryz.func28 (c5) (by decide +kernel) (by decide +kernel)
            have ddi := acall Tryz.func17 (cpush) (by decide +kernel) (by decide +kernel)
            have ddj := acall Tryz.func28 (v1) (by decide +kernel) (by decide +kernel)
            have ddk := acall Tryz.func21 (csplit) (by decide +kernel) (by decide +kernel)
            have ddl := acall Tryz.func15 (h1) (by decide +kernel) (by decide +kernel)
            have ddm := acall Tryz.func15 (h2) (by decide +kernel) (by decide +kernel)
            have ddn := acall Tryz.func15 (h3) (by decide +kernel) (by decide +kernel)
            have ddo := acall Tryz.func29 (h4) (by decide +kernel) (by decide +kernel)
            have ddp := acall Tryz.func28 (h5) (by decide +kernel) (by decide +kernel)
            refine wI ?_
            refine Wri 143 (t : Nat) rfl (Int.emod_eq_of_lt (by omega) (by omega)) ?_
            refine wI ?_
            exact fin ⟨res_of rfl rfl rfl, trivial⟩
      | true =>
        obtain ⟨fd', fl⟩ := f6 rfl
        rw [fd'] at fd
        cases hcut : (splitI a b (j : Int) 253).2.2.2 with
        | false =>
          rw [hss hcut] at csplit
          dsimp only at csplit
          refine AFn_intro Tryz.func7 rfl Tryz.ntmps7 rfl (by simp) [_] rfl fun E hE => ?_; have hnt : (!true) = false := rfl; have hnf : (!false) = true := rfl
          have dda := acall Tryz.func13 (c1) (by decide +kernel) (by decide +kernel)
          have ddb := acall Tryz.func25 (c2) (by decide +kernel) (by decide +kernel)
          have ddc := acall Tryz.func26 (c3) (by decide +kernel) (by decide +kernel)
          have ddd := acall Tryz.func27 (c4) (by decide +kernel) (by decide +kernel)
          have dde := acall Tryz.func16 (a_awake10) (by decide +kernel) (by decide +kernel)
          have ddf := acall Tryz.func30 (cv) (by decide +kernel) (by decide +kernel)
          have ddg := acall Tryz.func29 (c6) (by decide +kernel) (by decide +kernel)
          have ddh := acall Tryz.func28 (c5) (by decide +kernel) (by decide +kernel)
          have ddi := acall Tryz.func17 (cpush) (by decide +kernel) (by decide +kernel)
          have ddj := acall Tryz.func28 (v1) (by decide +kernel) (by decide +kernel)
          have ddk := acall Tryz.func15 (fd) (by decide +kernel) (by decide +kernel)
          have ddl := acall Tryz.func21 (csplit) (by decide +kernel) (by decide +kernel)
          refine wI ?_
          exact fin ⟨res_of rfl rfl rfl, trivial⟩
        | true =>
          obtain ⟨q2, d2, n2, e2, g1, g2, g3, g4, g5, g6, g7, g8, g9, ga, gb, gc, t, ht, gd, ge, gf⟩ := hks hcut
          rw [e2] at csplit sms
          dsimp only at csplit sms
          have h1 := a_ref09fits q2 sms.1
          have h2 := a_ref09fits d2 sms.2.1
          have h3 := a_ref09fits n2 sms.2.2
          rw [g1] at h1
          rw [g2] at h2
          rw [g3] at h3
          have h4 := a_refkid q2.ps x (by omega)
          rw [gd] at h4
          have h5 := a_valueL x V [d2, q2] (fun y hy => by rcases List.mem_cons.1 hy with h | h; rw [h]; exact ⟨g9, by omega⟩; rw [List.mem_singleton.1 h]; exact ⟨g7, by omega⟩) (by simp)
          have h6 := a_valueL x V [n2, q2] (fun y hy => by rcases List.mem_cons.1 hy with h | h; rw [h]; exact ⟨ga, by omega⟩; rw [List.mem_singleton.1 h]; exact ⟨g7, by omega⟩) (by simp)
          rw [show valN x (some V) [d2, q2] = apO (bfGet x q2.ms) (apO (bfGet x d2.ms) (some V)) from rfl] at h5
          rw [show valN x (some V) [n2, q2] = apO (bfGet x q2.ms) (apO (bfGet x n2.ms) (some V)) from rfl] at h6
          by_cases hc : q2.ks[t] = 253
          · rw [if_pos hc] at gf
            rw [gf] at h6
            refine AFn_intro Tryz.func7 rfl Tryz.ntmps7 rfl (by simp) [_] rfl fun E hE => ?_; have hnt : (!true) = false := rfl; have hnf : (!false) = true := rfl
            have dda := acall Tryz.func13 (c1) (by decide +kernel) (by decide +kernel)
            have ddb := acall Tryz.func25 (c2) (by decide +kernel) (by decide +kernel)
            have ddc := acall Tryz.func26 (c3) (by decide +kernel) (by decide +kernel)
            have ddd := acall Tryz.func27 (c4) (by decide +kernel) (by decide +kernel)
            have dde := acall Tryz.func16 (a_awake10) (by decide +kernel) (by decide +kernel)
            have ddf := acall Tryz.func30 (cv) (by decide +kernel) (by decide +kernel)
            have ddg := acall Tryz.func29 (c6) (by decide +kernel) (by decide +kernel)
            have ddh := acall Tryz.func28 (c5) (by decide +kernel) (by decide +kernel)
            have ddi := acall Tryz.func17 (cpush) (by decide +kernel) (by decide +kernel)
            have ddj := acall Tryz.func28 (v1) (by decide +kernel) (by decide +kernel)
            have ddk := acall Tryz.func15 (fd) (by decide +kernel) (by decide +kernel)
            have ddl := acall Tryz.func21 (csplit) (by decide +kernel) (by decide +kernel)
            have ddm := acall Tryz.func15 (h1) (by decide +kernel) (by decide +kernel)
            have ddn := acall Tryz.func15 (h2) (by decide +kernel) (by decide +kernel)
            have ddo := acall Tryz.func15 (h3) (by decide +kernel) (by decide +kernel)
            have ddp := acall Tryz.func29 (h4) (by decide +kernel) (by decide +kernel)
            have ddq := acall Tryz.func28 (h6) (by decide +kernel) (by decide +kernel)
            refine wI ?_
            refine Wri 143 (t : Nat) rfl (Int.emod_eq_of_lt (by omega) (by omega)) ?_
            refine wI ?_
            exact fin ⟨res_of rfl rfl rfl, trivial⟩
          · rw [if_neg hc] at gf
            rw [gf] at h5
            refine AFn_intro Tryz.func7 rfl Tryz.ntmps7 rfl (by simp) [_] rfl fun E hE => ?_; have hnt : (!true) = false := rfl; have hnf : (!false) = true := rfl
            have dda := acall Tryz.func13 (c1) (by decide +kernel) (by decide +kernel)
            have ddb := acall Tryz.func25 (c2) (by decide +kernel) (by decide +kernel)
            have ddc := acall Tryz.func26 (c3) (by decide +kernel) (by decide +kernel)
            have ddd := acall Tryz.func27 (c4) (by decide +kernel) (by decide +kernel)
            have dde := acall Tryz.func16 (a_awake10) (by decide +kernel) (by decide +kernel)
            have ddf := acall Tryz.func30 (cv) (by decide +kernel) (by decide +kernel)
            have ddg := acall Tryz.func29 (c6) (by decide +kernel) (by decide +kernel)
            have ddh := acall Tryz.func28 (c5) (by decide +kernel) (by decide +kernel)
            have ddi := acall Tryz.func17 (cpush) (by decide +kernel) (by decide +kernel)
            have ddj := acall Tryz.func28 (v1) (by decide +kernel) (by decide +kernel)
            have ddk := acall Tryz.func15 (fd) (by decide +kernel) (by decide +kernel)
            have ddl := acall Tryz.func21 (csplit) (by decide +kernel) (by decide +kernel)
            have ddm := acall Tryz.func15 (h1) (by decide +kernel) (by decide +kernel)
            have ddn := acall Tryz.func15 (h2) (by decide +kernel) (by decide +kernel)
            have ddo := acall Tryz.func15 (h3) (by decide +kernel) (by decide +kernel)
            have ddp := acall Tryz.func29 (h4) (by decide +kernel) (by decide +kernel)
            have ddq := acall Tryz.func28 (h5) (by decide +kernel) (by decide +kernel)
            refine wI ?_
            refine Wri 143 (t : Nat) rfl (Int.emod_eq_of_lt (by omega) (by omega)) ?_
            refine wI ?_
            exact fin ⟨res_of rfl rfl rfl, trivial⟩
    · have hne : ((kidBy keyCmp x a.ps : Nat) : Int) ≠ (j : Int) := by omega
      refine AFn_intro Tryz.func7 rfl Tryz.ntmps7 rfl (by simp) [_] rfl fun E hE => ?_; have hnt : (!true) = false := rfl; have hnf : (!false) = true := rfl
      have dda := acall Tryz.func13 (c1) (by decide +kernel) (by decide +kernel)
      have ddb := acall Tryz.func25 (c2) (by decide +kernel) (by decide +kernel)
      have ddc := acall Tryz.func26 (c3) (by decide +kernel) (by decide +kernel)
      have ddd := acall Tryz.func27 (c4) (by decide +kernel) (by decide +kernel)
      have dde := acall Tryz.func16 (a_awake10) (by decide +kernel) (by decide +kernel)
      have ddf := acall Tryz.func29 (c6) (by decide +kernel) (by decide +kernel)
      refine wI ?_
      exact fin ⟨res_of rfl rfl rfl, trivial⟩
theorem actKeeps_walk (v0 : Value) (l0 : List (Int)) (v1 : Value) (l1 : List (Int)) (v2 : Value) (l2 : List (Int)) (n3 : Int) (n4 : Int) (w : World) (s0 : Sl ie 1 w v0 l0) (g0 : ∀ n ∈ l0, -9223372036854775808 ≤ n ∧ n ≤ 9223372036854775807) (z0 : l0.length ≤ 17592186043904) (s1 : Sl ie 1 w v1 l1) (g1 : ∀ n ∈ l1, -9223372036854775808 ≤ n ∧ n ≤ 9223372036854775807) (z1 : l1.length ≤ 17592186043904) (s2 : Sl ie 1 w v2 l2) (g2 : ∀ n ∈ l2, -9223372036854775808 ≤ n ∧ n ≤ 9223372036854775807) (z2 : l2.length ≤ 17592186043904) (b3 : -9223372036854775808 ≤ n3 ∧ n3 ≤ 9223372036854775807) (b4 : -9223372036854775808 ≤ n4 ∧ n4 ≤ 9223372036854775807) :
    Calls Tryz.prog 6 #[v0, v1, v2, .int .i64 n3, .int .i64 n4] w (Is w (.bool true)) :=
  law_of (a_actKeeps l0 l1 l2 n3 n4 (by omega) g0 g1 g2 b3 b4) (rdp_cons rfl (ints_in s0) (rdp_cons rfl (ints_in s1) (rdp_cons rfl (ints_in s2) (rdp_cons rfl int_in (rdp_cons rfl int_in rdp_nil')))))
theorem actInner_walk (v0 : Value) (l0 : List (Int)) (v1 : Value) (l1 : List (Int)) (v2 : Value) (l2 : List (Int)) (v3 : Value) (l3 : List (Int)) (n4 : Int) (n5 : Int) (n6 : Int) (w : World) (s0 : Sl ie 1 w v0 l0) (g0 : ∀ n ∈ l0, -9223372036854775808 ≤ n ∧ n ≤ 9223372036854775807) (z0 : l0.length ≤ 17592186043904) (s1 : Sl ie 1 w v1 l1) (g1 : ∀ n ∈ l1, -9223372036854775808 ≤ n ∧ n ≤ 9223372036854775807) (z1 : l1.length ≤ 17592186043904) (s2 : Sl ie 1 w v2 l2) (g2 : ∀ n ∈ l2, -9223372036854775808 ≤ n ∧ n ≤ 9223372036854775807) (z2 : l2.length ≤ 17592186043904) (s3 : Sl ie 1 w v3 l3) (g3 : ∀ n ∈ l3, -9223372036854775808 ≤ n ∧ n ≤ 9223372036854775807) (z3 : l3.length ≤ 17592186043904) (b4 : -9223372036854775808 ≤ n4 ∧ n4 ≤ 9223372036854775807) (b5 : -9223372036854775808 ≤ n5 ∧ n5 ≤ 9223372036854775807) (b6 : -9223372036854775808 ≤ n6 ∧ n6 ≤ 9223372036854775807) :
    Calls Tryz.prog 7 #[v0, v1, v2, v3, .int .i64 n4, .int .i64 n5, .int .i64 n6] w (Is w (.bool true)) :=
  law_of (a_actInner l0 l1 l2 l3 n4 n5 n6 (by omega) g0 g1 (by omega) g2 g3 b4 b5 b6) (rdp_cons rfl (ints_in s0) (rdp_cons rfl (ints_in s1) (rdp_cons rfl (ints_in s2) (rdp_cons rfl (ints_in s3) (rdp_cons rfl int_in (rdp_cons rfl int_in (rdp_cons rfl int_in rdp_nil')))))))
end Go.Proofs.YtonjbnoeoececaaGreat
