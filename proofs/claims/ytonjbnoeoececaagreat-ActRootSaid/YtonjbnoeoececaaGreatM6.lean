/-
  M6: several texts as one: LawAct2. No condition beyond those that each theorem states.
-/
import Derived.Test.YtonjbnoeoececaaGreatM5
namespace Go.Proofs.YtonjbnoeoececaaGreat
open Go Go.RowKit
set_option linter.unusedVariables false
set_option linter.unusedSimpArgs false
set_option maxRecDepth 100000

theorem leafN_sum (l : List Int) : eSum (leafN l).es ≤ 248 := entsF_sum l 248 (by omega) 80
theorem cmp_ge {a b : Key} (ha : a.ok = true) (hb : b.ok = true) : refCmp a b ≥ 0 ↔ b.rank ≤ a.rank := by
  rw [refCmp_rank ha hb]
  have := sgn_neg a.rank b.rank
  omega
theorem get_self (x : Key) (v : Vl) : lfGet x [⟨x, v⟩] = some v := by
  unfold lfGet
  rw [List.find?_cons_of_pos (by simp)]
  rfl
theorem low_wk (E : Ent) (H : Hp) : Wk H (nodeA true (entsA [E]) nilA nilA nilA) (leafOf [E]).av :=
  Wk.agg (.cons (Wk.data rfl) (.cons (Wk.data rfl) (.cons Wk.nil (.cons Wk.nil (.cons Wk.nil .nil)))))
theorem a_valueL (x : Key) (V : Vl) (ups : List Nd) (hu : ∀ u ∈ ups, BSrt u.ms ∧ u.ms.length ≤ 1000000) (hul : ups.length ≤ 1000000) : AFn Tryz.prog 28 [nodeA true (entsA [⟨x, V⟩]) nilA nilA nilA, x.av, nodesA ups] (.tup [(opA (valN x (some V) ups)).1.av, boolA (opA (valN x (some V) ups)).2]) := by
  have h := a_value10 (leafOf [⟨x, V⟩]) (List.pairwise_singleton _ _) (by simp [leafOf]) x ups hu hul
  rw [show lfGet x (leafOf [⟨x, V⟩]).es = some V from get_self x V] at h
  exact AFn_weak h (fun H => .cons (low_wk _ H) (.cons (Wk.data rfl) (.cons (Wk.data rfl) .nil)))
theorem root_fits (X : Key) (hX : X.ok = true) : nodeFits ⟨false, [], [7, 8], [X], []⟩ = true :=
  inner_fits (fan_ok_of (by simp) (by simp) (by simp) (by simp) (fun k hk => by simp at hk; omega) (rise_one hX)) bf_nil (by simp [bSum])
theorem innerN_kid4 (p : List Int) (v : Int) (l : List Int) : (innerN p v l).ks.length ≤ 4 ∧ 2 ≤ (innerN p v l).ks.length ∧ (innerN p v l).ks.Nodup ∧ ∀ k ∈ (innerN p v l).ks, 1 ≤ k ∧ k < 240 := by
  have h1 := innerN_kids p v l
  have h2 := piv3 p
  have h4 : 1 ≤ (innerN p v l).ps.length := pivK_some p 16 3 (by omega)
  refine ⟨by rw [h1]; show (pivK _ _).length + 1 ≤ 4; omega, by omega, kidsL_nodup v _, fun k hk => ?_⟩
  have h3 := kidsL_mem v _ k hk
  omega
theorem root_q (X : Key) : ∃ q : Nd, (⟨false, [], [7, 8], [X], []⟩ : Nd) = q ∧ q.ks.length = 2 ∧ q.ps.length = 1 ∧ q.ms.length = 0 ∧ ∃ h : 0 < q.ps.length, q.ps[0] = X := ⟨_, rfl, rfl, rfl, rfl, Nat.one_pos, rfl⟩
attribute [local irreducible] OpOK AWops AW CondB Go2 AFn thenA inBlockA noGotoA orderOk wantedA
set_option maxRecDepth 100000 in
set_option maxHeartbeats 8000000 in
theorem a_actRoot (e c m : List Int) (inner : Bool) (k v : Int) (he : ∀ n ∈ e, -9223372036854775808 ≤ n ∧ n ≤ 9223372036854775807) (hcl : c.length ≤ 17592186044390) (hc : ∀ n ∈ c, -9223372036854775808 ≤ n ∧ n ≤ 9223372036854775807) (hm : ∀ n ∈ m, -9223372036854775808 ≤ n ∧ n ≤ 9223372036854775807) (hk : -9223372036854775808 ≤ k ∧ k ≤ 9223372036854775807) (hv : -9223372036854775808 ≤ v ∧ v ≤ 9223372036854775807) : AFn Tryz.prog 8 [intsA e, intsA c, intsA m, boolA inner, intA k, intA v] (boolA true) := by
  have c1 := a_lleaf e he
  have ckey := a_lkey k hk
  have hkok := lawKey_ok k
  have cval := a_lval v hv
  generalize lawKey k = x at *
  generalize lawVl v = V at *
  cases inner with
  | false =>
    have hg := leafN_gd e
    have cs := a_splitroot (leafN e) hg 7 8
    have csr := a_sames (leafN e) hg.Sm
    have hel := (leafN_lens e).1
    have hes := leafN_sum e
    have hlf := hg.lf
    have h0 : halvN (leafN e) = halvL (leafN e).es := by unfold halvN; rw [if_pos (show (leafN e).leaf = true from rfl)]
    by_cases h2 : 2 ≤ (leafN e).es.length
    · obtain ⟨A, D, X, hh, hA, hD, sA, sD, hX, _, _, lA, lD, hget⟩ := leaf_two hlf h2 (by omega)
      rw [splitR_yes ⟨by omega, ⟨by omega, by omega⟩, by omega, by omega⟩, h0, hh, if_pos rfl] at cs
      unfold tup4 at cs
      have fq := a_ref09fits ⟨false, [], [7, 8], [X], []⟩ ⟨by simp, by simp, by simp, by simp⟩
      have fx := a_ref09fits (leafOf A) ⟨by show A.length ≤ _; omega, Nat.zero_le _, Nat.zero_le _, Nat.zero_le _⟩
      have fy := a_ref09fits (leafOf D) ⟨by show D.length ≤ _; omega, Nat.zero_le _, Nat.zero_le _, Nat.zero_le _⟩
      rw [root_fits X hX] at fq
      rw [leafOf_fits' hA sA] at fx
      rw [leafOf_fits' hD sD] at fy
      have ff := a_ref07find (leafN e).es x hlf.srt (by omega)
      have fA := a_ref07find (leafOf A).es x hA.srt (by show A.length ≤ _; omega)
      have fD := a_ref07find (leafOf D).es x hD.srt (by show D.length ≤ _; omega)
      have hgx := hget x hkok
      replace hgx : lfGet x (leafN e).es = if X.rank ≤ x.rank then lfGet x (leafOf D).es else lfGet x (leafOf A).es := hgx
      obtain ⟨q, hq, q1, q2, q3, q4, q5⟩ := root_q X
      rw [hq] at cs fq
      have cc := a_refcmp x (q.ps[0]'q4)
      have hcmp := cmp_ge hkok hX
      rw [← q5] at hcmp hgx
      dsimp only at cs
      clear hh hA hD sA sD hq hget hlf hg h0 hel hes lA lD q5 hX
      generalize leafOf A = a at *
      generalize leafOf D = d at *
      generalize leafN e = r at *
      by_cases hc : (q.ps[0]'q4).rank ≤ x.rank
      · have hcm := hcmp.2 hc
        rw [if_pos hc] at hgx
        rw [← hgx] at fD
        generalize (opA (lfGet x r.es)).1 = o1 at *
        generalize (opA (lfGet x r.es)).2 = o2 at *
        clear hgx hcmp fA
        refine AFn_intro Tryz.func8 rfl Tryz.ntmps8 rfl (by simp) [_] rfl fun E hE => ?_; have hnt : (!true) = false := rfl; have hnf : (!false) = true := rfl
        have dda := acall Tryz.func11 (c1) (by decide +kernel) (by decide +kernel)
        have ddb := acall Tryz.func23 (cs) (by decide +kernel) (by decide +kernel)
        have ddc := acall Tryz.func14 (csr) (by decide +kernel) (by decide +kernel)
        have ddd := acall Tryz.func16 (a_awake10) (by decide +kernel) (by decide +kernel)
        have dde := acall Tryz.func27 (ckey) (by decide +kernel) (by decide +kernel)
        have ddf := acall Tryz.func30 (cval) (by decide +kernel) (by decide +kernel)
        have ddg := acall Tryz.func15 (fq) (by decide +kernel) (by decide +kernel)
        have ddh := acall Tryz.func15 (fx) (by decide +kernel) (by decide +kernel)
        have ddi := acall Tryz.func15 (fy) (by decide +kernel) (by decide +kernel)
        have ddj := acall Tryz.func31 (cc) (by decide +kernel) (by decide +kernel)
        have ddk := acall Tryz.func32 (ff) (by decide +kernel) (by decide +kernel)
        have ddl := acall Tryz.func32 (fD) (by decide +kernel) (by decide +kernel)
        refine wI ?_
        exact fin ⟨res_of rfl rfl rfl, trivial⟩
      · have hcm : ¬ refCmp x (q.ps[0]'q4) ≥ 0 := fun h => hc (hcmp.1 h)
        rw [if_neg hc] at hgx
        rw [← hgx] at fA
        generalize (opA (lfGet x r.es)).1 = o1 at *
        generalize (opA (lfGet x r.es)).2 = o2 at *
        clear hgx hcmp fD
        refine AFn_intro Tryz.func8 rfl Tryz.ntmps8 rfl (by simp) [_] rfl fun E hE => ?_; have hnt : (!true) = false := rfl; have hnf : (!false) = true := rfl
        have dda := acall Tryz.func11 (c1) (by decide +kernel) (by decide +kernel)
        have ddb := acall Tryz.func23 (cs) (by decide +kernel) (by decide +kernel)
        have ddc := acall Tryz.func14 (csr) (by decide +kernel) (by decide +kernel)
        have ddd := acall Tryz.func16 (a_awake10) (by decide +kernel) (by decide +kernel)
        have dde := acall Tryz.func27 (ckey) (by decide +kernel) (by decide +kernel)
        have ddf := acall Tryz.func30 (cval) (by decide +kernel) (by decide +kernel)
        have ddg := acall Tryz.func15 (fq) (by decide +kernel) (by decide +kernel)
        have ddh := acall Tryz.func15 (fx) (by decide +kernel) (by decide +kernel)
        have ddi := acall Tryz.func15 (fy) (by decide +kernel) (by decide +kernel)
        have ddj := acall Tryz.func31 (cc) (by decide +kernel) (by decide +kernel)
        have ddk := acall Tryz.func32 (ff) (by decide +kernel) (by decide +kernel)
        have ddl := acall Tryz.func32 (fA) (by decide +kernel) (by decide +kernel)
        refine wI ?_
        exact fin ⟨res_of rfl rfl rfl, trivial⟩
    · have e1 : halvL (leafN e).es = (ndZ, ndZ, Key.zero, false) := by unfold halvL; rw [if_neg h2]
      rw [splitR_yes ⟨by omega, ⟨by omega, by omega⟩, by omega, by omega⟩, h0, e1, if_neg (by simp)] at cs
      unfold tup4 at cs
      have h2' : (leafN e).es.length < 2 := by omega
      dsimp only at cs
      clear hes hlf hg h0 e1
      generalize leafN e = r at *
      refine AFn_intro Tryz.func8 rfl Tryz.ntmps8 rfl (by simp) [_] rfl fun E hE => ?_; have hnt : (!true) = false := rfl; have hnf : (!false) = true := rfl
      have d1 := acall Tryz.func11 (c1) (by decide +kernel) (by decide +kernel)
      have d2 := acall Tryz.func23 (cs) (by decide +kernel) (by decide +kernel)
      have d3 := acall Tryz.func14 (csr) (by decide +kernel) (by decide +kernel)
      have d4 := acall Tryz.func16 (a_awake10) (by decide +kernel) (by decide +kernel)
      refine wI ?_
      exact fin ⟨res_of rfl rfl rfl, trivial⟩
  | true =>
    have c2 := a_inner ([24, 16, 8] ++ c) 90 m (by simp; omega) (fun n hn => by rcases List.mem_append.1 hn with h | h; simp at h; omega; exact hc n h) (by omega) hm
    have hg := innerN_gd ([24, 16, 8] ++ c) 90 m
    have cs := a_splitroot (innerN ([24, 16, 8] ++ c) 90 m) hg 7 8
    have csr := a_sames (innerN ([24, 16, 8] ++ c) 90 m) hg.Sm
    have hk4 := innerN_kid4 ([24, 16, 8] ++ c) 90 m
    have hkp := innerN_kids ([24, 16, 8] ++ c) 90 m
    have hsum := innerN_sum ([24, 16, 8] ++ c) 90 m
    have h0 : halvN (innerN ([24, 16, 8] ++ c) 90 m) = halvI (innerN ([24, 16, 8] ++ c) 90 m) := by unfold halvN; rw [if_neg (show ¬ (innerN ([24, 16, 8] ++ c) 90 m).leaf = true from by simp [innerN])]
    have hms := (innerN_lens ([24, 16, 8] ++ c) 90 m).2.1
    generalize innerN ([24, 16, 8] ++ c) 90 m = r at *
    generalize leafN e = r0 at *
    cases hq : (halvI r).2.2.2 with
    | false =>
      have e1 := halvI_no hq
      rw [splitR_yes ⟨by omega, ⟨by omega, by omega⟩, by omega, by omega⟩, h0, e1, if_neg (by simp)] at cs
      unfold tup4 at cs
      have h4 : r.ks.length < 4 := by
        have hne : ¬ (r.ks.length = 4 ∧ r.ps.length = 3) := fun hc => by
          have e : fanHal r.ks r.ps = (r.ks.take 2, r.ps.take 1, r.ps.getD 1 Key.zero, r.ks.drop 2, r.ps.drop 2, true) := by unfold fanHal; rw [if_pos hc]
          have ha : (halvI r).2.2.2 = (if (fanHal r.ks r.ps).2.2.2.2.2 = true then ((⟨false, [], (fanHal r.ks r.ps).1, (fanHal r.ks r.ps).2.1, bfPart r.ms [(fanHal r.ks r.ps).2.2.1] 0⟩, ⟨false, [], (fanHal r.ks r.ps).2.2.2.1, (fanHal r.ks r.ps).2.2.2.2.1, bfPart r.ms [(fanHal r.ks r.ps).2.2.1] 1⟩, (fanHal r.ks r.ps).2.2.1, true) : Nd × Nd × Key × Bool) else (ndZ, ndZ, Key.zero, false)).2.2.2 := rfl
          rw [ha, e, if_pos rfl] at hq
          cases hq
        have := hk4.1
        omega
      dsimp only at cs
      clear hg h0 e1 hsum hkp hk4
      refine AFn_intro Tryz.func8 rfl Tryz.ntmps8 rfl (by simp) [_] rfl fun E hE => ?_; have hnt : (!true) = false := rfl; have hnf : (!false) = true := rfl
      have d1 := acall Tryz.func11 (c1) (by decide +kernel) (by decide +kernel)
      have d0 := acall Tryz.func13 (c2) (by decide +kernel) (by decide +kernel)
      have d2 := acall Tryz.func23 (cs) (by decide +kernel) (by decide +kernel)
      have d3 := acall Tryz.func14 (csr) (by decide +kernel) (by decide +kernel)
      have d4 := acall Tryz.func16 (a_awake10) (by decide +kernel) (by decide +kernel)
      refine wI ?_
      refine Was 32 (AV.sl (some 32) 1 (List.map intA [24, 16, 8])) rfl ?_
      refine wI ?_
      exact fin ⟨res_of rfl rfl rfl, trivial⟩
    | true =>
      obtain ⟨a, d, X, hh, fa, fd, _, _, hX, _, _, ba, bd, la, ld, hget⟩ := inner_two hg.bf hg.rs hk4.2.2.1 (fun k hk => by have := hk4.2.2.2 k hk; omega) hsum hq
      rw [splitR_yes ⟨by omega, ⟨by omega, by omega⟩, by omega, by omega⟩, h0, hh, if_pos rfl] at cs
      unfold tup4 at cs
      have hsm := halvI_sm hg
      rw [hh] at hsm
      have fq := a_ref09fits ⟨false, [], [7, 8], [X], []⟩ ⟨by simp, by simp, by simp, by simp⟩
      have fx := a_ref09fits a hsm.1
      have fy := a_ref09fits d hsm.2
      rw [root_fits X hX] at fq
      rw [fa] at fx
      rw [fd] at fy
      have hgx := hget x
      obtain ⟨q, hq', q1, q2, q3, q4, q5⟩ := root_q X
      rw [hq'] at cs fq
      have cc := a_refcmp x (q.ps[0]'q4)
      have hcmp := cmp_ge hkok hX
      rw [← q5] at hcmp hgx
      have v1 := a_valueL x V [r] (fun y hy => by rw [List.mem_singleton.1 hy]; exact ⟨hg.bf.srt, by omega⟩) (by simp)
      have va := a_valueL x V [a] (fun y hy => by rw [List.mem_singleton.1 hy]; exact ⟨ba.srt, by omega⟩) (by simp)
      have vd := a_valueL x V [d] (fun y hy => by rw [List.mem_singleton.1 hy]; exact ⟨bd.srt, by omega⟩) (by simp)
      have hval : ∀ u : Nd, valN x (some V) [u] = apO (bfGet x u.ms) (some V) := fun u => rfl
      rw [hval] at v1 va vd
      dsimp only at cs
      clear hh hget hg h0 hsm fa fd hq' hk4 hkp hsum hval ba bd la ld hX q5
      by_cases hc : (q.ps[0]'q4).rank ≤ x.rank
      · have hcm := hcmp.2 hc
        rw [if_pos hc] at hgx
        rw [← hgx] at vd
        generalize (opA (apO (bfGet x r.ms) (some V))).1 = o1 at *
        generalize (opA (apO (bfGet x r.ms) (some V))).2 = o2 at *
        clear hgx hcmp va
        refine AFn_intro Tryz.func8 rfl Tryz.ntmps8 rfl (by simp) [_] rfl fun E hE => ?_; have hnt : (!true) = false := rfl; have hnf : (!false) = true := rfl
        have dda := acall Tryz.func11 (c1) (by decide +kernel) (by decide +kernel)
        have ddb := acall Tryz.func23 (cs) (by decide +kernel) (by decide +kernel)
        have ddc := acall Tryz.func14 (csr) (by decide +kernel) (by decide +kernel)
        have ddd := acall Tryz.func16 (a_awake10) (by decide +kernel) (by decide +kernel)
        have dde := acall Tryz.func27 (ckey) (by decide +kernel) (by decide +kernel)
        have ddf := acall Tryz.func30 (cval) (by decide +kernel) (by decide +kernel)
        have ddg := acall Tryz.func15 (fq) (by decide +kernel) (by decide +kernel)
        have ddh := acall Tryz.func15 (fx) (by decide +kernel) (by decide +kernel)
        have ddi := acall Tryz.func15 (fy) (by decide +kernel) (by decide +kernel)
        have ddj := acall Tryz.func31 (cc) (by decide +kernel) (by decide +kernel)
        have ddk := acall Tryz.func13 (c2) (by decide +kernel) (by decide +kernel)
        have ddl := acall Tryz.func28 (v1) (by decide +kernel) (by decide +kernel)
        have ddm := acall Tryz.func28 (vd) (by decide +kernel) (by decide +kernel)
        refine wI ?_
        refine Was 32 (AV.sl (some 32) 1 (List.map intA [24, 16, 8])) rfl ?_
        refine wI ?_
        exact fin ⟨res_of rfl rfl rfl, trivial⟩
      · have hcm : ¬ refCmp x (q.ps[0]'q4) ≥ 0 := fun h => hc (hcmp.1 h)
        rw [if_neg hc] at hgx
        rw [← hgx] at va
        generalize (opA (apO (bfGet x r.ms) (some V))).1 = o1 at *
        generalize (opA (apO (bfGet x r.ms) (some V))).2 = o2 at *
        clear hgx hcmp vd
        refine AFn_intro Tryz.func8 rfl Tryz.ntmps8 rfl (by simp) [_] rfl fun E hE => ?_; have hnt : (!true) = false := rfl; have hnf : (!false) = true := rfl
        have dda := acall Tryz.func11 (c1) (by decide +kernel) (by decide +kernel)
        have ddb := acall Tryz.func23 (cs) (by decide +kernel) (by decide +kernel)
        have ddc := acall Tryz.func14 (csr) (by decide +kernel) (by decide +kernel)
        have ddd := acall Tryz.func16 (a_awake10) (by decide +kernel) (by decide +kernel)
        have dde := acall Tryz.func27 (ckey) (by decide +kernel) (by decide +kernel)
        have ddf := acall Tryz.func30 (cval) (by decide +kernel) (by decide +kernel)
        have ddg := acall Tryz.func15 (fq) (by decide +kernel) (by decide +kernel)
        have ddh := acall Tryz.func15 (fx) (by decide +kernel) (by decide +kernel)
        have ddi := acall Tryz.func15 (fy) (by decide +kernel) (by decide +kernel)
        have ddj := acall Tryz.func31 (cc) (by decide +kernel) (by decide +kernel)
        have ddk := acall Tryz.func13 (c2) (by decide +kernel) (by decide +kernel)
        have ddl := acall Tryz.func28 (v1) (by decide +kernel) (by decide +kernel)
        have ddm := acall Tryz.func28 (va) (by decide +kernel) (by decide +kernel)
        refine wI ?_
        refine Was 32 (AV.sl (some 32) 1 (List.map intA [24, 16, 8])) rfl ?_
        refine wI ?_
        exact fin ⟨res_of rfl rfl rfl, trivial⟩
theorem actRoot_walk (v0 : Value) (l0 : List (Int)) (v1 : Value) (l1 : List (Int)) (v2 : Value) (l2 : List (Int)) (c3 : Bool) (n4 : Int) (n5 : Int) (w : World) (s0 : Sl ie 1 w v0 l0) (g0 : ∀ n ∈ l0, -9223372036854775808 ≤ n ∧ n ≤ 9223372036854775807) (z0 : l0.length ≤ 17592186043904) (s1 : Sl ie 1 w v1 l1) (g1 : ∀ n ∈ l1, -9223372036854775808 ≤ n ∧ n ≤ 9223372036854775807) (z1 : l1.length ≤ 17592186043904) (s2 : Sl ie 1 w v2 l2) (g2 : ∀ n ∈ l2, -9223372036854775808 ≤ n ∧ n ≤ 9223372036854775807) (z2 : l2.length ≤ 17592186043904) (b4 : -9223372036854775808 ≤ n4 ∧ n4 ≤ 9223372036854775807) (b5 : -9223372036854775808 ≤ n5 ∧ n5 ≤ 9223372036854775807) :
    Calls Tryz.prog 8 #[v0, v1, v2, .bool c3, .int .i64 n4, .int .i64 n5] w (Is w (.bool true)) :=
  law_of (a_actRoot l0 l1 l2 c3 n4 n5 g0 (by omega) g1 g2 b4 b5) (rdp_cons rfl (ints_in s0) (rdp_cons rfl (ints_in s1) (rdp_cons rfl (ints_in s2) (rdp_cons rfl (Rdv_v.2 ⟨rfl, rfl⟩) (rdp_cons rfl int_in (rdp_cons rfl int_in rdp_nil'))))))
end Go.Proofs.YtonjbnoeoececaaGreat
