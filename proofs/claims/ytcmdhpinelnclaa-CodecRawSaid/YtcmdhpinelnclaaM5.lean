/-
  M5: several texts as one: Codec6, Codec7, Codec8, NodeEq, AbsIfc, NodeWalks, NodeFits, Codec4, Codec5, LawVal, LawMsgs, LawEnts, NodeLaw, NodeWalks2, NodeFacts, Codec9, Codec10, Codec11, Codec12, Codec13, CodecRT, StructIn, NodeIn. No condition beyond those that each theorem states.
-/
import Derived.Test.YtcmdhpinelnclaaM4
import Derived.Laws.IdiomStrings
import Derived.OpenShut
import Derived.Deep.Slices
import Derived.Deep.Strs
import Derived.WideShapes
namespace Go.Proofs.Ytcmdhpinelnclaa
open Go Go.RowKit
set_option linter.unusedVariables false
set_option linter.unusedSimpArgs false
set_option maxRecDepth 100000

/-! ### plain law -/
/-- where a reader stands, and whether it went beyond -/
structure Rst where
  pos : Nat
  bad : Bool
deriving DecidableEq
/-- how many bytes come -/
def cnt (b : List (BitVec 8)) (i : Nat) : Nat := (b.getD i 0#8).toNat
theorem cnt_le (b : List (BitVec 8)) (i : Nat) : cnt b i ≤ 255 := by unfold cnt; have := (b.getD i 0#8).isLt; omega
theorem numAt_one (b : List (BitVec 8)) (i : Nat) : (numAt b i 1).toInt = (cnt b i : Int) := by
  have key : numAt b i 1 = (b.getD i 0#8).setWidth 64 := by
    unfold numAt
    by_cases h : i + 1 ≤ b.length
    · rw [if_pos h]
      have e : seg b i 1 = [b[i]'(by omega)] := by
        unfold seg
        rw [List.drop_eq_getElem_cons (by omega)]
        rfl
      rw [e, List.getD_eq_getElem?_getD, List.getElem?_eq_getElem (by omega)]
      simp [leNum]
    · rw [if_neg h, List.getD_eq_getElem?_getD, List.getElem?_eq_none (by omega)]
      rfl
  rw [key, BitVec.toInt_eq_toNat_cond, BitVec.toNat_setWidth]
  unfold cnt
  have := (b.getD i 0#8).isLt
  split <;> omega
def stN (b : List (BitVec 8)) (s : Rst) (w : Nat) : Rst := ⟨s.pos + w, s.bad || !decide (s.pos + w ≤ b.length)⟩
def takeOk (b : List (BitVec 8)) (i m : Nat) : Bool := decide (cnt b i ≤ m) && decide (i + 1 + cnt b i ≤ b.length)
def takeS (b : List (BitVec 8)) (s : Rst) (m : Nat) : List (BitVec 8) := if takeOk b s.pos m = true then seg b (s.pos + 1) (cnt b s.pos) else []
def stT (b : List (BitVec 8)) (s : Rst) (m : Nat) : Rst := if takeOk b s.pos m = true then ⟨s.pos + 1 + cnt b s.pos, s.bad⟩ else ⟨s.pos + 1, true⟩
theorem seg_length {b : List (BitVec 8)} {i n : Nat} (h : i + n ≤ b.length) : (seg b i n).length = n := by unfold seg; rw [List.length_take, List.length_drop]; omega
theorem seg_cut (b : List (BitVec 8)) (i n : Nat) : (b.take (i + n)).drop i = seg b i n := by unfold seg; rw [List.drop_take]; congr 1; omega
/-! ### readings -/
def rdB (b : List (BitVec 8)) (p : Nat) (bad : Bool) : AV := .agg 3 [bytesA b, intA (p : Nat), boolA bad]
abbrev rdA (b : List (BitVec 8)) (s : Rst) : AV := rdB b s.pos s.bad
abbrev bxR (b : List (BitVec 8)) (s : Rst) : List (Nat × Bx) := [(1000, .var (rdA b s))]
theorem padded_list (m : Nat) (l : List (BitVec 8)) (h : l.length ≤ m) : (padded m l).toList = l ++ List.replicate (m - l.length) 0#8 := by
  apply List.ext_getElem?
  intro i
  by_cases hi : i < m
  · have e1 : (padded m l).toList[i]? = some (l.getD i 0#8) := by
      rw [List.getElem?_eq_getElem (by simp [hi])]
      simp [padded_get m l i hi]
    rw [e1, List.getD_eq_getElem?_getD]
    by_cases hl : i < l.length
    · rw [List.getElem?_append_left hl, List.getElem?_eq_getElem hl]; rfl
    · rw [List.getElem?_append_right (by omega), List.getElem?_eq_none (by omega), List.getElem?_replicate, if_pos (by omega)]; rfl
  · rw [List.getElem?_eq_none (by simp; omega), List.getElem?_eq_none (by simp; omega)]
section
variable {E : Env} {nt : Nat} {ops : Array Oper} {T : Nat → Option AV} {H : Hp} {d : Option Nat} {ty : TypeId} {pos : String} {af : Array Edge} {gd : Option (Nat × Bool)}
/-- bytes copied into a key's, a value's array -/
theorem ob_copyK {x y : Operand} {t tx e : TypeId} {bytes : Nat} {ea : Bool} {g : Nat} {tok : Option Nat} {ys : List (BitVec 8)} (hd : dOk nt d = true) (hs : tabT.ti t = some (.sl e 1 bytes ea)) (hx : evalO T x = some (.seg g 1 1 [1] 8 8)) (hy : evalO T y = some (.sl tok 1 (ys.map byteA))) (hg : H g = some (.var Key.zero.av)) (hl : ys.length ≤ 8) :
    OpOK Try.prog E nt ops ⟨d, .call { callee := .builtin .copy, args := #[x, y], argTypes := #[t, tx] }, ty, pos, af, gd⟩ T H [g] ⟨.v (.int .i64 (ys.length : Nat)), [(g, .var (Key.av ⟨0, padded 8 ys⟩))]⟩ := by
  have hmin : min (ys.map byteA).length 8 = ys.length := by rw [List.length_map]; omega
  have h := ok_copy tabT (E := E) (nt := nt) (ops := ops) (T := T) (H := H) (d := d) (ty := ty) (pos := pos) (af := af) (gd := gd) (x := x) (y := y) (t := t) (tx := tx) (g := g) (off := 1) (len := 8) (cap := 8) (m := 8) (p := [1]) (z := Key.zero.av) (z' := Key.av ⟨0, padded 8 ys⟩) (xs := (List.replicate 8 0#8).map byteA) hd hs hx hy srcn_sl hg rfl rfl (by simp) (by
    rw [hmin]
    show some _ = some _
    congr 1
    unfold Key.av vecA
    rw [padded_list 8 ys hl]
    simp only [List.map_append, List.map_replicate, List.drop_replicate, List.take_of_length_le (Nat.le_of_eq (List.length_map byteA))]
    rfl)
  rwa [hmin] at h
theorem ob_copyV {x y : Operand} {t tx e : TypeId} {bytes : Nat} {ea : Bool} {g : Nat} {tok : Option Nat} {ys : List (BitVec 8)} (hd : dOk nt d = true) (hs : tabT.ti t = some (.sl e 1 bytes ea)) (hx : evalO T x = some (.seg g 1 1 [1] 16 16)) (hy : evalO T y = some (.sl tok 1 (ys.map byteA))) (hg : H g = some (.var Vl.zero.av)) (hl : ys.length ≤ 16) :
    OpOK Try.prog E nt ops ⟨d, .call { callee := .builtin .copy, args := #[x, y], argTypes := #[t, tx] }, ty, pos, af, gd⟩ T H [g] ⟨.v (.int .i64 (ys.length : Nat)), [(g, .var (Vl.av ⟨0, padded 16 ys⟩))]⟩ := by
  have hmin : min (ys.map byteA).length 16 = ys.length := by rw [List.length_map]; omega
  have h := ok_copy tabT (E := E) (nt := nt) (ops := ops) (T := T) (H := H) (d := d) (ty := ty) (pos := pos) (af := af) (gd := gd) (x := x) (y := y) (t := t) (tx := tx) (g := g) (off := 1) (len := 16) (cap := 16) (m := 16) (p := [1]) (z := Vl.zero.av) (z' := Vl.av ⟨0, padded 16 ys⟩) (xs := (List.replicate 16 0#8).map byteA) hd hs hx hy srcn_sl hg rfl rfl (by simp) (by
    rw [hmin]
    show some _ = some _
    congr 1
    unfold Vl.av vecA
    rw [padded_list 16 ys hl]
    simp only [List.map_append, List.map_replicate, List.drop_replicate, List.take_of_length_le (Nat.le_of_eq (List.length_map byteA))]
    rfl)
  rwa [hmin] at h
end
attribute [local irreducible] OpOK AWops AW CondB Go2 AFn thenA inBlockA noGotoA orderOk wantedA
set_option maxRecDepth 100000 in
set_option maxHeartbeats 4000000 in
theorem c_rnum (b : List (BitVec 8)) (s : Rst) (w : Nat) (hb : b.length ≤ 1000000) (hs : s.pos ≤ 1000000) (h1 : 1 ≤ w) (h8 : w ≤ 8) :
    CFn Try.prog 60 [.ptr 1000 0 [], intA (w : Nat)] (bxR b s) (u64A (numAt b s.pos w)) (bxR b (stN b s w)) := by
  obtain ⟨p, bad⟩ := s
  have c0 := a_num b p w h1 h8 (by omega) (by dsimp only at hs; omega)
  dsimp only at hs
  unfold stN bxR rdA
  dsimp only
  cases bad
  · by_cases h : p + w ≤ b.length
    · rw [decide_eq_true h] at c0 ⊢
      refine CFn_intro Try.func60 rfl Try.ntmps60 rfl (by simp) [_] rfl fun E hE => ?_; have hnt : (!true) = false := rfl; have hnf : (!false) = true := rfl
      have d0 := acall Try.func84 (c0) (by decide +kernel) (by decide +kernel)
      refine wY ?_
      exact finc ⟨⟨(by repeat' (first | exact True.intro | rfl | apply And.intro)), rfl⟩, rc_of rfl rfl rfl, trivial⟩
    · rw [decide_eq_false h] at c0 ⊢
      refine CFn_intro Try.func60 rfl Try.ntmps60 rfl (by simp) [_] rfl fun E hE => ?_; have hnt : (!true) = false := rfl; have hnf : (!false) = true := rfl
      have d0 := acall Try.func84 (c0) (by decide +kernel) (by decide +kernel)
      refine wY ?_
      exact finc ⟨⟨(by repeat' (first | exact True.intro | rfl | apply And.intro)), rfl⟩, rc_of rfl rfl rfl, trivial⟩
  · refine CFn_intro Try.func60 rfl Try.ntmps60 rfl (by simp) [_] rfl fun E hE => ?_; have hnt : (!true) = false := rfl; have hnf : (!false) = true := rfl
    have d0 := acall Try.func84 (c0) (by decide +kernel) (by decide +kernel)
    refine wY ?_
    exact finc ⟨⟨(by repeat' (first | exact True.intro | rfl | apply And.intro)), rfl⟩, rc_of rfl rfl rfl, trivial⟩
set_option maxRecDepth 100000 in
set_option maxHeartbeats 4000000 in
theorem c_rbytesK (b : List (BitVec 8)) (s : Rst) (hb : b.length ≤ 1000000) (hs : s.pos ≤ 900000) :
    CFn Try.prog 61 [.ptr 1000 0 [], .seg 1001 1 1 [1] 8 8] (bxR b s ++ [(1001, .var Key.zero.av)]) (intA ((takeS b s 8).length : Nat)) (bxR b (stT b s 8) ++ [(1001, .var (Key.av ⟨0, padded 8 (takeS b s 8)⟩))]) := by
  have c0 := c_rnum b s 1 hb (by omega) (by omega) (by omega)
  have hc := numAt_one b s.pos
  have hcl := cnt_le b s.pos
  have hz : Key.av ⟨0, padded 8 []⟩ = Key.zero.av := by unfold Key.av vecA Key.zero; rw [padded_list 8 [] (by simp)]; rfl
  obtain ⟨p, bad⟩ := s
  unfold stN bxR rdA at c0
  unfold takeS stT takeOk bxR rdA
  dsimp only at hs hc hcl c0 ⊢
  by_cases k1 : cnt b p ≤ 8
  · by_cases k2 : p + 1 + cnt b p ≤ b.length
    · rw [decide_eq_true k1, decide_eq_true k2]
      simp only [Bool.and_self, if_true]
      have hlt : p + 1 ≤ b.length := by omega
      rw [decide_eq_true hlt] at c0
      simp only [Bool.not_true, Bool.or_false] at c0
      have hl := seg_length (b := b) (i := p + 1) (n := cnt b p) k2
      have hcut := seg_cut b (p + 1) (cnt b p)
      have g1 : ¬ ((8 : Nat) : Int) < (cnt b p : Nat) := by omega
      have g2 : ¬ (b.length : Int) - ((p + 1 : Nat) : Int) < (cnt b p : Nat) := by omega
      rw [hl]
      refine CFn_intro Try.func61 rfl Try.ntmps61 rfl (by simp) [_] rfl fun E hE => ?_; have hnt : (!true) = false := rfl; have hnf : (!false) = true := rfl
      have d0 := ccall Try.func60 (c0) (by decide +kernel) (by decide +kernel)
      refine wY ?_
      (apply WcN [1000] [1000]; (focus (exact o_ccall [(1000, 1000)] d0 rfl rfl rfl rfl (by repeat (first | exact .nil | refine .cons (.inl ⟨rfl, rfl⟩) ?_ | refine .cons (.inr ⟨rfl, fun _ => Wk.tok⟩) ?_)) (by repeat' (first | exact True.intro | rfl | apply And.intro)) (by repeat' (first | exact True.intro | rfl | apply And.intro)) rfl rfl rfl)); (focus (exact rfl)); (focus (exact rfl)); (focus (first | exact want_n | exact want_g rfl (by with_reducible rfl))))
      refine wSY ?_
      rw [hc]
      refine wY ?_
      rw [hcut]
      (apply Wb; (focus (exact ob_copyK rfl rfl rfl rfl rfl (by omega))); (focus (first | exact want_n | exact want_g rfl (by with_reducible rfl))))
      refine wY ?_
      exact finc ⟨⟨(by repeat' (first | exact True.intro | rfl | apply And.intro)), rfl⟩, rc_of rfl rfl rfl, trivial⟩
    · rw [decide_eq_true k1, decide_eq_false k2]
      simp only [Bool.and_false, Bool.false_eq_true, if_false]
      rw [hz]
      have g1 : ¬ ((8 : Nat) : Int) < (cnt b p : Nat) := by omega
      have g2 : (b.length : Int) - ((p + 1 : Nat) : Int) < (cnt b p : Nat) := by omega
      refine CFn_intro Try.func61 rfl Try.ntmps61 rfl (by simp) [_] rfl fun E hE => ?_; have hnt : (!true) = false := rfl; have hnf : (!false) = true := rfl
      have d0 := ccall Try.func60 (c0) (by decide +kernel) (by decide +kernel)
      refine wY ?_
      (apply WcN [1000] [1000]; (focus (exact o_ccall [(1000, 1000)] d0 rfl rfl rfl rfl (by repeat (first | exact .nil | refine .cons (.inl ⟨rfl, rfl⟩) ?_ | refine .cons (.inr ⟨rfl, fun _ => Wk.tok⟩) ?_)) (by repeat' (first | exact True.intro | rfl | apply And.intro)) (by repeat' (first | exact True.intro | rfl | apply And.intro)) rfl rfl rfl)); (focus (exact rfl)); (focus (exact rfl)); (focus (first | exact want_n | exact want_g rfl (by with_reducible rfl))))
      refine wSY ?_
      rw [hc]
      refine wY ?_
      exact finc ⟨⟨(by repeat' (first | exact True.intro | rfl | apply And.intro)), rfl⟩, rc_of rfl rfl rfl, trivial⟩
  · rw [decide_eq_false k1]
    simp only [Bool.false_and, Bool.false_eq_true, if_false]
    rw [hz]
    have g1 : ((8 : Nat) : Int) < (cnt b p : Nat) := by omega
    refine CFn_intro Try.func61 rfl Try.ntmps61 rfl (by simp) [_] rfl fun E hE => ?_; have hnt : (!true) = false := rfl; have hnf : (!false) = true := rfl
    have d0 := ccall Try.func60 (c0) (by decide +kernel) (by decide +kernel)
    refine wY ?_
    (apply WcN [1000] [1000]; (focus (exact o_ccall [(1000, 1000)] d0 rfl rfl rfl rfl (by repeat (first | exact .nil | refine .cons (.inl ⟨rfl, rfl⟩) ?_ | refine .cons (.inr ⟨rfl, fun _ => Wk.tok⟩) ?_)) (by repeat' (first | exact True.intro | rfl | apply And.intro)) (by repeat' (first | exact True.intro | rfl | apply And.intro)) rfl rfl rfl)); (focus (exact rfl)); (focus (exact rfl)); (focus (first | exact want_n | exact want_g rfl (by with_reducible rfl))))
    refine wSY ?_
    rw [hc]
    refine wY ?_
    exact finc ⟨⟨(by repeat' (first | exact True.intro | rfl | apply And.intro)), rfl⟩, rc_of rfl rfl rfl, trivial⟩
set_option maxRecDepth 100000 in
set_option maxHeartbeats 4000000 in
theorem c_rbytesV (b : List (BitVec 8)) (s : Rst) (hb : b.length ≤ 1000000) (hs : s.pos ≤ 900000) :
    CFn Try.prog 61 [.ptr 1000 0 [], .seg 1001 1 1 [1] 16 16] (bxR b s ++ [(1001, .var Vl.zero.av)]) (intA ((takeS b s 16).length : Nat)) (bxR b (stT b s 16) ++ [(1001, .var (Vl.av ⟨0, padded 16 (takeS b s 16)⟩))]) := by
  have c0 := c_rnum b s 1 hb (by omega) (by omega) (by omega)
  have hc := numAt_one b s.pos
  have hcl := cnt_le b s.pos
  have hz : Vl.av ⟨0, padded 16 []⟩ = Vl.zero.av := by unfold Vl.av vecA Vl.zero; rw [padded_list 16 [] (by simp)]; rfl
  obtain ⟨p, bad⟩ := s
  unfold stN bxR rdA at c0
  unfold takeS stT takeOk bxR rdA
  dsimp only at hs hc hcl c0 ⊢
  by_cases k1 : cnt b p ≤ 16
  · by_cases k2 : p + 1 + cnt b p ≤ b.length
    · rw [decide_eq_true k1, decide_eq_true k2]
      simp only [Bool.and_self, if_true]
      have hlt : p + 1 ≤ b.length := by omega
      rw [decide_eq_true hlt] at c0
      simp only [Bool.not_true, Bool.or_false] at c0
      have hl := seg_length (b := b) (i := p + 1) (n := cnt b p) k2
      have hcut := seg_cut b (p + 1) (cnt b p)
      have g1 : ¬ ((16 : Nat) : Int) < (cnt b p : Nat) := by omega
      have g2 : ¬ (b.length : Int) - ((p + 1 : Nat) : Int) < (cnt b p : Nat) := by omega
      rw [hl]
      refine CFn_intro Try.func61 rfl Try.ntmps61 rfl (by simp) [_] rfl fun E hE => ?_; have hnt : (!true) = false := rfl; have hnf : (!false) = true := rfl
      have d0 := ccall Try.func60 (c0) (by decide +kernel) (by decide +kernel)
      refine wY ?_
      (apply WcN [1000] [1000]; (focus (exact o_ccall [(1000, 1000)] d0 rfl rfl rfl rfl (by repeat (first | exact .nil | refine .cons (.inl ⟨rfl, rfl⟩) ?_ | refine .cons (.inr ⟨rfl, fun _ => Wk.tok⟩) ?_)) (by repeat' (first | exact True.intro | rfl | apply And.intro)) (by repeat' (first | exact True.intro | rfl | apply And.intro)) rfl rfl rfl)); (focus (exact rfl)); (focus (exact rfl)); (focus (first | exact want_n | exact want_g rfl (by with_reducible rfl))))
      refine wSY ?_
      rw [hc]
      refine wY ?_
      rw [hcut]
      (apply Wb; (focus (exact ob_copyV rfl rfl rfl rfl rfl (by omega))); (focus (first | exact want_n | exact want_g rfl (by with_reducible rfl))))
      refine wY ?_
      exact finc ⟨⟨(by repeat' (first | exact True.intro | rfl | apply And.intro)), rfl⟩, rc_of rfl rfl rfl, trivial⟩
    · rw [decide_eq_true k1, decide_eq_false k2]
      simp only [Bool.and_false, Bool.false_eq_true, if_false]
      rw [hz]
      have g1 : ¬ ((16 : Nat) : Int) < (cnt b p : Nat) := by omega
      have g2 : (b.length : Int) - ((p + 1 : Nat) : Int) < (cnt b p : Nat) := by omega
      refine CFn_intro Try.func61 rfl Try.ntmps61 rfl (by simp) [_] rfl fun E hE => ?_; have hnt : (!true) = false := rfl; have hnf : (!false) = true := rfl
      have d0 := ccall Try.func60 (c0) (by decide +kernel) (by decide +kernel)
      refine wY ?_
      (apply WcN [1000] [1000]; (focus (exact o_ccall [(1000, 1000)] d0 rfl rfl rfl rfl (by repeat (first | exact .nil | refine .cons (.inl ⟨rfl, rfl⟩) ?_ | refine .cons (.inr ⟨rfl, fun _ => Wk.tok⟩) ?_)) (by repeat' (first | exact True.intro | rfl | apply And.intro)) (by repeat' (first | exact True.intro | rfl | apply And.intro)) rfl rfl rfl)); (focus (exact rfl)); (focus (exact rfl)); (focus (first | exact want_n | exact want_g rfl (by with_reducible rfl))))
      refine wSY ?_
      rw [hc]
      refine wY ?_
      exact finc ⟨⟨(by repeat' (first | exact True.intro | rfl | apply And.intro)), rfl⟩, rc_of rfl rfl rfl, trivial⟩
  · rw [decide_eq_false k1]
    simp only [Bool.false_and, Bool.false_eq_true, if_false]
    rw [hz]
    have g1 : ((16 : Nat) : Int) < (cnt b p : Nat) := by omega
    refine CFn_intro Try.func61 rfl Try.ntmps61 rfl (by simp) [_] rfl fun E hE => ?_; have hnt : (!true) = false := rfl; have hnf : (!false) = true := rfl
    have d0 := ccall Try.func60 (c0) (by decide +kernel) (by decide +kernel)
    refine wY ?_
    (apply WcN [1000] [1000]; (focus (exact o_ccall [(1000, 1000)] d0 rfl rfl rfl rfl (by repeat (first | exact .nil | refine .cons (.inl ⟨rfl, rfl⟩) ?_ | refine .cons (.inr ⟨rfl, fun _ => Wk.tok⟩) ?_)) (by repeat' (first | exact True.intro | rfl | apply And.intro)) (by repeat' (first | exact True.intro | rfl | apply And.intro)) rfl rfl rfl)); (focus (exact rfl)); (focus (exact rfl)); (focus (first | exact want_n | exact want_g rfl (by with_reducible rfl))))
    refine wSY ?_
    rw [hc]
    refine wY ?_
    exact finc ⟨⟨(by repeat' (first | exact True.intro | rfl | apply And.intro)), rfl⟩, rc_of rfl rfl rfl, trivial⟩
end Go.Proofs.Ytcmdhpinelnclaa

namespace Go.Proofs.Ytcmdhpinelnclaa
open Go Go.RowKit
set_option linter.unusedVariables false
set_option linter.unusedSimpArgs false
set_option maxRecDepth 100000

/-! ### plain law -/
def rdKey (b : List (BitVec 8)) (s : Rst) : Key × Rst := (mkKey (takeS b s 8), stT b s 8)
def rdVl (b : List (BitVec 8)) (s : Rst) : Vl × Rst := (mkVl (takeS b s 16), stT b s 16)
def rdKid (b : List (BitVec 8)) (s : Rst) : Int × Rst := ((numAt b s.pos 4).toInt, stN b s 4)
def rdEnt (b : List (BitVec 8)) (s : Rst) : Ent × Rst := (⟨(rdKey b s).1, (rdVl b (rdKey b s).2).1⟩, (rdVl b (rdKey b s).2).2)
def rdRest (b : List (BitVec 8)) (k : Int) (s : Rst) : (Vl × BitVec 64) × Rst := if k = 1 then (((rdVl b s).1, 0#64), (rdVl b s).2) else if k = 3 then ((Vl.zero, numAt b s.pos 8), stN b s 8) else ((Vl.zero, 0#64), s)
def msK (b : List (BitVec 8)) (s : Rst) : Int := (numAt b s.pos 1).toInt
def msS1 (b : List (BitVec 8)) (s : Rst) : Rst := stN b s 1
def msS2 (b : List (BitVec 8)) (s : Rst) : Rst := stN b (msS1 b s) 8
def msS3 (b : List (BitVec 8)) (s : Rst) : Rst := (rdKey b (msS2 b s)).2
def rdMsg (b : List (BitVec 8)) (s : Rst) : Msg × Rst := (⟨msK b s, numAt b (msS1 b s).pos 8, (rdKey b (msS2 b s)).1, (rdRest b (msK b s) (msS3 b s)).1.1, (rdRest b (msK b s) (msS3 b s)).1.2⟩, (rdRest b (msK b s) (msS3 b s)).2)
theorem stT_pos (b : List (BitVec 8)) (s : Rst) (m : Nat) : (stT b s m).pos ≤ s.pos + 1 + m := by
  unfold stT takeOk
  split
  · rename_i h
    rw [Bool.and_eq_true, decide_eq_true_eq, decide_eq_true_eq] at h
    show s.pos + 1 + cnt b s.pos ≤ _
    omega
  · show s.pos + 1 ≤ _; omega
theorem rdKey_pos (b : List (BitVec 8)) (s : Rst) : (rdKey b s).2.pos ≤ s.pos + 9 := stT_pos b s 8
theorem rdVl_pos (b : List (BitVec 8)) (s : Rst) : (rdVl b s).2.pos ≤ s.pos + 17 := stT_pos b s 16
theorem rdKid_pos (b : List (BitVec 8)) (s : Rst) : (rdKid b s).2.pos ≤ s.pos + 40 := by show s.pos + 4 ≤ _; omega
theorem rdEnt_pos (b : List (BitVec 8)) (s : Rst) : (rdEnt b s).2.pos ≤ s.pos + 40 := by
  have h1 := rdKey_pos b s
  have h2 := rdVl_pos b (rdKey b s).2
  show (rdVl b (rdKey b s).2).2.pos ≤ _
  omega
theorem rdRest_pos (b : List (BitVec 8)) (k : Int) (s : Rst) : (rdRest b k s).2.pos ≤ s.pos + 17 := by
  unfold rdRest
  split
  · exact rdVl_pos b s
  · split
    · show s.pos + 8 ≤ _; omega
    · show s.pos ≤ _; omega
theorem rdMsg_pos (b : List (BitVec 8)) (s : Rst) : (rdMsg b s).2.pos ≤ s.pos + 40 := by
  have h1 := rdKey_pos b (msS2 b s)
  have h2 := rdRest_pos b (msK b s) (msS3 b s)
  have h3 : (msS2 b s).pos = s.pos + 1 + 8 := rfl
  have h4 : (msS3 b s).pos = (rdKey b (msS2 b s)).2.pos := rfl
  show (rdRest b (msK b s) (msS3 b s)).2.pos ≤ _
  omega
/-- so many -/
def rdMany {α : Type} (f : Rst → α × Rst) : Nat → Rst → List α × Rst
  | 0, s => ([], s)
  | n + 1, s => ((rdMany f n s).1 ++ [(f (rdMany f n s).2).1], (f (rdMany f n s).2).2)
theorem rdMany_len {α : Type} (f : Rst → α × Rst) (s : Rst) : ∀ n, (rdMany f n s).1.length = n
  | 0 => rfl
  | n + 1 => by show ((rdMany f n s).1 ++ [_]).length = _; rw [List.length_append, rdMany_len f s n]; rfl
theorem rdMany_pos {α : Type} (f : Rst → α × Rst) (hf : ∀ s, (f s).2.pos ≤ s.pos + 40) (s : Rst) : ∀ n, (rdMany f n s).2.pos ≤ s.pos + 40 * n
  | 0 => Nat.le_refl _
  | n + 1 => by
    have h1 := rdMany_pos f hf s n
    have h2 := hf (rdMany f n s).2
    show (f (rdMany f n s).2).2.pos ≤ _
    omega
section
variable {P : Program} {E : Env} {nt : Nat} {ops : Array Oper} {T : Nat → Option AV} {H : Hp} {d : Option Nat} {ty : TypeId} {pos : String} {af : Array Edge} {gd : Option (Nat × Bool)}
theorem ok_ccallF {f : FuncId} {fn : Func} {x : Operand} {l : List Operand} {ats : Array TypeId} {firs xs ys : List AV} {y : AV} {H1 H2 : List (Nat × Bx)} (σ : Nat → Nat) (hc : CFn P f ys H1 y H2) (hd : dOk nt d = true) (hf : P.funcs[f]? = some fn) (hb : fn.body.isSome = true) (hnm : (fn.name == "runtime.NumGoroutine") = false)
    (hxf : evalO T x = some (.fn (.func f) firs [])) (hx : l.map (evalO T) = xs.map some) (hnt : xs.all notTup = true) (hw : WkGL σ H1 (firs ++ xs) ys)
    (hn : NamesOk σ H H1 H1) (hfr : FreshOk σ H H1 H2) (ho : OutB σ H1 H2 = true) (hi : nodupB (H1.map fun p => σ p.1) = true) (hy : (namesA y).all (fun g => (look g H2).isSome) = true) :
    OpOK P E nt ops ⟨d, .call { callee := .value x, args := l.toArray, argTypes := ats }, ty, pos, af, gd⟩ T H ((H1.map fun p => σ p.1)) ⟨renA σ y, outW σ H2⟩ := by
  intro T' H' ht hrh hwr B a w r K Q hK
  have hag : ∀ p ∈ H1, H' (σ p.1) = H (σ p.1) := fun p hp => hrh _ (List.mem_map.2 ⟨p, hp, rfl⟩)
  have hn' : NamesOk σ H' H1 H1 := by
    have : ∀ l : List (Nat × Bx), (∀ p ∈ l, H' (σ p.1) = H (σ p.1)) → NamesOk σ H H1 l → NamesOk σ H' H1 l := by
      intro l
      induction l with
      | nil => exact fun _ _ => trivial
      | cons p l ih =>
        obtain ⟨c, bx⟩ := p
        intro h1 ⟨h2, h3, h4⟩
        exact ⟨(h1 (c, bx) List.mem_cons_self).trans h2, h3, ih (fun p hp => h1 p (List.mem_cons_of_mem _ hp)) h4⟩
    exact this H1 hag hn
  have hfr' : FreshOk σ H' H1 H2 := by
    have : ∀ l : List (Nat × Bx), (∀ p ∈ l, H' (σ p.1) = H (σ p.1)) → FreshOk σ H H1 l → FreshOk σ H' H1 l := by
      intro l
      induction l with
      | nil => exact fun _ _ => trivial
      | cons p l ih =>
        obtain ⟨c, bx⟩ := p
        intro h1 ⟨h2, h3⟩
        refine ⟨?_, ih (fun p hp => h1 p (List.mem_cons_of_mem _ hp)) h3⟩
        cases hl : look c H1 with
        | some b1 => rw [hl] at h2; exact h2
        | none => rw [hl] at h2; exact (h1 (c, bx) List.mem_cons_self).trans h2
    exact this H2 (fun p hp => hwr (σ p.1, renB σ p.2) (List.mem_map.2 ⟨p, hp, rfl⟩)) hfr
  have hxs := args_rdp r l xs (map_agree hx (fun y hy => agree_op ht (by simp [Op.operands, Call.operands]; exact .inr hy))) (fun z hz => notTup_ne (List.all_eq_true.1 hnt z hz))
  have hfv := Rdv_one (by simp) (r.eval ((agree_op ht (x := x) (by simp [Op.operands, Call.operands])).trans hxf)) rfl
  simp only [Rd] at hfv
  obtain ⟨c1, c2, e1, e2, e3⟩ := hfv
  simp only [Rdp] at e3
  subst e3
  injection e1 with e1
  obtain ⟨k1, k2⟩ := hw.rdp (Rdp_append e2 hxs)
  have h2 := call_boxes r.mem hc (fun _ => trivial) k1 k2 hn' hfr' ho hi hy
  unfold Oper.wp
  have he : (execOp a.eval ⟨d, .call { callee := .value x, args := l.toArray, argTypes := ats }, ty, pos, af, gd⟩).run P w = .ok (.enter f (c1 ++ l.map a.eval).toArray) w := by
    have hb' : fn.body ≠ none := by cases h : fn.body <;> simp_all
    have hn' : fn.name ≠ "runtime.NumGoroutine" := by simpa using hnm
    have ha : (c1 ++ l.map a.eval).toArray = c1.toArray ++ (l.toArray.map a.eval) := by apply Array.ext'; simp
    rw [ha]
    simp [execOp, resolve, Deferred.ofValue, e1, invoke, callFunc, hf, hn', hb']
  rw [he]
  refine Calls.mono h2 ?_
  rintro e w' ⟨v, B', rfl, h3, h4, h5⟩
  refine hK B' _ w' ((h3.rel r.nt r.df fun s z hs => ?_).put hd h4)
  obtain ⟨v0, q1, q2⟩ := r.tmp s z hs
  exact ⟨v0, q1, h5 _ _ q2⟩
/-- a method value -/
theorem ok_mkfnF {f : FuncId} {l : List Operand} {xs : List AV} (hd : dOk nt d = true) (hx : l.map (evalO T) = xs.map some) (hnt : xs.all notTup = true) : OpOK P E nt ops ⟨d, .makeFunc (.func f) l.toArray #[], ty, pos, af, gd⟩ T H [] ⟨.fn (.func f) xs [], []⟩ :=
  ok_val hd fun B T' H' a w r ht hh => by
    have hxs := args_rdp r l xs (map_agree hx (fun y hy => ht y (by simp [Op.operands]; exact hy))) (fun z hz => notTup_ne (List.all_eq_true.1 hnt z hz))
    refine ⟨.func (.func f) (l.map a.eval).toArray #[], by simp [execOp, Instr.makeFunc], ?_⟩
    rw [Rdv_not (by simp)]
    exact ⟨[_], by simp only [Rd]; exact ⟨l.map a.eval, [], rfl, hxs, by simp [Rdp]⟩, rfl⟩
end
section
variable {E : Env} {nt : Nat} {ops : Array Oper} {T : Nat → Option AV} {H : Hp} {d : Option Nat} {ty : TypeId} {pos : String} {af : Array Edge} {gd : Option (Nat × Bool)}
/-- a call with boxes whose result is plain data -/
theorem o_ccalld {f : FuncId} {x : Operand} {l : List Operand} {ats : Array TypeId} {caps xs ys : List AV} {y : AV} {H1 H2 : List (Nat × Bx)} (s : List (Nat × Nat)) (hc : CCall f ys H1 y H2) (hyd : dataA y = true) (hd : dOk nt d = true)
    (hxf : evalO T x = some (.fn (.func f) [] caps)) (hx : argsA T l = some xs) (hnt : xs.all notTup = true) (hw : WkGL (sg s) H1 (xs ++ caps) ys)
    (hn : NamesOk (sg s) H H1 H1) (hfr : FreshOk (sg s) H H1 H2) (ho : OutB (sg s) H1 H2 = true) (hi : nodupB (H1.map fun p => sg s p.1) = true) :
    OpOK Try.prog E nt ops ⟨d, .call { callee := .value x, args := l.toArray, argTypes := ats }, ty, pos, af, gd⟩ T H ((H1.map fun p => sg s p.1)) ⟨y, outW (sg s) H2⟩ := by
  obtain ⟨h1, h2⟩ := ren_data (sg s) y hyd
  have := o_ccall (E := E) (nt := nt) (ops := ops) (T := T) (H := H) (d := d) (ty := ty) (pos := pos) (af := af) (gd := gd) (ats := ats) s hc hd hxf hx hnt hw hn hfr ho hi (by rw [h2]; rfl)
  rwa [h1] at this
theorem o_ccalldF {f : FuncId} {x : Operand} {l : List Operand} {ats : Array TypeId} {firs xs ys : List AV} {y : AV} {H1 H2 : List (Nat × Bx)} (s : List (Nat × Nat)) (hc : CCall f ys H1 y H2) (hyd : dataA y = true) (hd : dOk nt d = true)
    (hxf : evalO T x = some (.fn (.func f) firs [])) (hx : argsA T l = some xs) (hnt : xs.all notTup = true) (hw : WkGL (sg s) H1 (firs ++ xs) ys)
    (hn : NamesOk (sg s) H H1 H1) (hfr : FreshOk (sg s) H H1 H2) (ho : OutB (sg s) H1 H2 = true) (hi : nodupB (H1.map fun p => sg s p.1) = true) :
    OpOK Try.prog E nt ops ⟨d, .call { callee := .value x, args := l.toArray, argTypes := ats }, ty, pos, af, gd⟩ T H ((H1.map fun p => sg s p.1)) ⟨y, outW (sg s) H2⟩ := by
  obtain ⟨h1, h2⟩ := ren_data (sg s) y hyd
  obtain ⟨fn, k1, k2, k3, k4⟩ := hc
  have := ok_ccallF (E := E) (nt := nt) (ops := ops) (T := T) (H := H) (d := d) (ty := ty) (pos := pos) (af := af) (gd := gd) (ats := ats) (sg s) k4 hd k1 k2 k3 hxf (argsA_map hx) hnt hw hn hfr ho hi (by rw [h2]; rfl)
  rwa [h1] at this
theorem o_mkfnF {f : FuncId} {l : List Operand} {xs : List AV} (hd : dOk nt d = true) (hx : argsA T l = some xs) (hnt : xs.all notTup = true) :
    OpOK Try.prog E nt ops ⟨d, .makeFunc (.func f) l.toArray #[], ty, pos, af, gd⟩ T H [] ⟨.fn (.func f) xs [], []⟩ := ok_mkfnF hd (argsA_map hx) hnt
end
attribute [local irreducible] OpOK AWops AW CondB Go2 AFn thenA inBlockA noGotoA orderOk wantedA
set_option maxRecDepth 100000 in
set_option maxHeartbeats 4000000 in
theorem c_rkey (b : List (BitVec 8)) (s : Rst) (hb : b.length ≤ 1000000) (hs : s.pos ≤ 800000) :
    CFn Try.prog 33 [.ptr 1000 0 []] (bxR b s) (rdKey b s).1.av (bxR b (rdKey b s).2) := by
  have c0 := c_rbytesK b s hb (by omega)
  unfold rdKey mkKey
  dsimp only
  refine CFn_intro Try.func33 rfl Try.ntmps33 rfl (by simp) [_] rfl fun E hE => ?_; have hnt : (!true) = false := rfl; have hnf : (!false) = true := rfl
  have d0 := ccall Try.func61 (c0) (by decide +kernel) (by decide +kernel)
  refine wY ?_
  (apply WcN [1000, 3] [1000, 3]; (focus (exact o_ccall [(1000, 1000), (1001, 3)] d0 rfl rfl rfl rfl (by repeat (first | exact .nil | refine .cons (.inl ⟨rfl, rfl⟩) ?_ | refine .cons (.inr ⟨rfl, fun _ => Wk.tok⟩) ?_)) (by repeat' (first | exact True.intro | rfl | apply And.intro)) (by repeat' (first | exact True.intro | rfl | apply And.intro)) rfl rfl rfl)); (focus (exact rfl)); (focus (exact rfl)); (focus (first | exact want_n | exact want_g rfl (by with_reducible rfl))))
  refine wY ?_
  exact finc ⟨⟨(by repeat' (first | exact True.intro | rfl | apply And.intro)), rfl⟩, rc_var rfl rfl rfl rfl, trivial⟩
set_option maxRecDepth 100000 in
set_option maxHeartbeats 4000000 in
theorem c_rvl (b : List (BitVec 8)) (s : Rst) (hb : b.length ≤ 1000000) (hs : s.pos ≤ 800000) :
    CFn Try.prog 59 [.ptr 1000 0 []] (bxR b s) (rdVl b s).1.av (bxR b (rdVl b s).2) := by
  have c0 := c_rbytesV b s hb (by omega)
  unfold rdVl mkVl
  dsimp only
  refine CFn_intro Try.func59 rfl Try.ntmps59 rfl (by simp) [_] rfl fun E hE => ?_; have hnt : (!true) = false := rfl; have hnf : (!false) = true := rfl
  have d0 := ccall Try.func61 (c0) (by decide +kernel) (by decide +kernel)
  refine wY ?_
  (apply WcN [1000, 3] [1000, 3]; (focus (exact o_ccall [(1000, 1000), (1001, 3)] d0 rfl rfl rfl rfl (by repeat (first | exact .nil | refine .cons (.inl ⟨rfl, rfl⟩) ?_ | refine .cons (.inr ⟨rfl, fun _ => Wk.tok⟩) ?_)) (by repeat' (first | exact True.intro | rfl | apply And.intro)) (by repeat' (first | exact True.intro | rfl | apply And.intro)) rfl rfl rfl)); (focus (exact rfl)); (focus (exact rfl)); (focus (first | exact want_n | exact want_g rfl (by with_reducible rfl))))
  refine wY ?_
  exact finc ⟨⟨(by repeat' (first | exact True.intro | rfl | apply And.intro)), rfl⟩, rc_var rfl rfl rfl rfl, trivial⟩
set_option maxRecDepth 100000 in
set_option maxHeartbeats 4000000 in
theorem c_rkid (b : List (BitVec 8)) (s : Rst) (hb : b.length ≤ 1000000) (hs : s.pos ≤ 700000) :
    CFn Try.prog 31 [.ptr 1000 0 []] (bxR b s) (intA (rdKid b s).1) (bxR b (rdKid b s).2) := by
  have c0 := c_rnum b s 4 hb (by omega) (by omega) (by omega)
  unfold rdKid
  dsimp only
  refine CFn_intro Try.func31 rfl Try.ntmps31 rfl (by simp) [_] rfl fun E hE => ?_; have hnt : (!true) = false := rfl; have hnf : (!false) = true := rfl
  have d0 := ccall Try.func60 (c0) (by decide +kernel) (by decide +kernel)
  refine wY ?_
  (apply WcN [1000] [1000]; (focus (exact o_ccall [(1000, 1000)] d0 rfl rfl rfl rfl (by repeat (first | exact .nil | refine .cons (.inl ⟨rfl, rfl⟩) ?_ | refine .cons (.inr ⟨rfl, fun _ => Wk.tok⟩) ?_)) (by repeat' (first | exact True.intro | rfl | apply And.intro)) (by repeat' (first | exact True.intro | rfl | apply And.intro)) rfl rfl rfl)); (focus (exact rfl)); (focus (exact rfl)); (focus (first | exact want_n | exact want_g rfl (by with_reducible rfl))))
  refine wY ?_
  exact finc ⟨⟨(by repeat' (first | exact True.intro | rfl | apply And.intro)), rfl⟩, rc_of rfl rfl rfl, trivial⟩
set_option maxRecDepth 100000 in
set_option maxHeartbeats 4000000 in
theorem c_rent (b : List (BitVec 8)) (s : Rst) (hb : b.length ≤ 1000000) (hs : s.pos ≤ 700000) :
    CFn Try.prog 29 [.ptr 1000 0 []] (bxR b s) (rdEnt b s).1.av (bxR b (rdEnt b s).2) := by
  have c0 := c_rkey b s hb (by omega)
  have c1 := c_rvl b (rdKey b s).2 hb (by have := rdKey_pos b s; omega)
  unfold rdEnt
  dsimp only
  refine CFn_intro Try.func29 rfl Try.ntmps29 rfl (by simp) [_] rfl fun E hE => ?_; have hnt : (!true) = false := rfl; have hnf : (!false) = true := rfl
  have d0 := ccall Try.func33 (c0) (by decide +kernel) (by decide +kernel)
  have d1 := ccall Try.func59 (c1) (by decide +kernel) (by decide +kernel)
  refine wY ?_
  (apply WcN [1000] [1000]; (focus (exact o_ccalld [(1000, 1000)] d0 rfl rfl rfl rfl rfl (by repeat (first | exact .nil | refine .cons (.inl ⟨rfl, rfl⟩) ?_ | refine .cons (.inr ⟨rfl, fun _ => Wk.tok⟩) ?_)) (by repeat' (first | exact True.intro | rfl | apply And.intro)) (by repeat' (first | exact True.intro | rfl | apply And.intro)) rfl rfl)); (focus (exact rfl)); (focus (exact rfl)); (focus (first | exact want_n | exact want_g rfl (by with_reducible rfl))))
  refine wY ?_
  (apply WcN [1000] [1000]; (focus (exact o_ccalld [(1000, 1000)] d1 rfl rfl rfl rfl rfl (by repeat (first | exact .nil | refine .cons (.inl ⟨rfl, rfl⟩) ?_ | refine .cons (.inr ⟨rfl, fun _ => Wk.tok⟩) ?_)) (by repeat' (first | exact True.intro | rfl | apply And.intro)) (by repeat' (first | exact True.intro | rfl | apply And.intro)) rfl rfl)); (focus (exact rfl)); (focus (exact rfl)); (focus (first | exact want_n | exact want_g rfl (by with_reducible rfl))))
  refine wY ?_
  exact finc ⟨⟨(by repeat' (first | exact True.intro | rfl | apply And.intro)), rfl⟩, rc_var rfl rfl rfl rfl, trivial⟩
set_option maxRecDepth 100000 in
set_option maxHeartbeats 4000000 in
theorem c_rmsg (b : List (BitVec 8)) (s : Rst) (hb : b.length ≤ 1000000) (hs : s.pos ≤ 700000) :
    CFn Try.prog 35 [.ptr 1000 0 []] (bxR b s) (rdMsg b s).1.av (bxR b (rdMsg b s).2) := by
  have c0 := c_rnum b s 1 hb (by omega) (by omega) (by omega)
  have c1 := c_rnum b (msS1 b s) 8 hb (by show s.pos + 1 ≤ _; omega) (by omega) (by omega)
  have c2 := c_rkey b (msS2 b s) hb (by show s.pos + 1 + 8 ≤ _; omega)
  have hp3 : (msS3 b s).pos ≤ s.pos + 18 := by have := rdKey_pos b (msS2 b s); have h3 : (msS2 b s).pos = s.pos + 1 + 8 := rfl; show (rdKey b (msS2 b s)).2.pos ≤ _; omega
  have c3 := c_rvl b (msS3 b s) hb (by omega)
  have c4 := c_rnum b (msS3 b s) 8 hb (by omega) (by omega) (by omega)
  have c0' : CFn Try.prog 60 [.ptr 1000 0 [], intA (1 : Nat)] (bxR b s) (u64A (numAt b s.pos 1)) (bxR b (msS1 b s)) := c0
  have c1' : CFn Try.prog 60 [.ptr 1000 0 [], intA (8 : Nat)] (bxR b (msS1 b s)) (u64A (numAt b (msS1 b s).pos 8)) (bxR b (msS2 b s)) := c1
  have c2' : CFn Try.prog 33 [.ptr 1000 0 []] (bxR b (msS2 b s)) (rdKey b (msS2 b s)).1.av (bxR b (msS3 b s)) := c2
  have hk : (numAt b s.pos 1).toInt = msK b s := rfl
  unfold rdMsg rdRest
  by_cases k1 : msK b s = 1
  · rw [if_pos k1]
    dsimp only
    have n3 : ¬ msK b s = 3 := by omega
    refine CFn_intro Try.func35 rfl Try.ntmps35 rfl (by simp) [_] rfl fun E hE => ?_; have hnt : (!true) = false := rfl; have hnf : (!false) = true := rfl
    have d0 := ccall Try.func60 (c0') (by decide +kernel) (by decide +kernel)
    have d1 := ccall Try.func60 (c1') (by decide +kernel) (by decide +kernel)
    have d2 := ccall Try.func33 (c2') (by decide +kernel) (by decide +kernel)
    have d3 := ccall Try.func59 (c3) (by decide +kernel) (by decide +kernel)
    refine wY ?_
    (apply WcN [1000] [1000]; (focus (exact o_ccalld [(1000, 1000)] d0 rfl rfl rfl rfl rfl (by repeat (first | exact .nil | refine .cons (.inl ⟨rfl, rfl⟩) ?_ | refine .cons (.inr ⟨rfl, fun _ => Wk.tok⟩) ?_)) (by repeat' (first | exact True.intro | rfl | apply And.intro)) (by repeat' (first | exact True.intro | rfl | apply And.intro)) rfl rfl)); (focus (exact rfl)); (focus (exact rfl)); (focus (first | exact want_n | exact want_g rfl (by with_reducible rfl))))
    refine wSY ?_
    rw [hk]
    refine wY ?_
    (apply WcN [1000] [1000]; (focus (exact o_ccalld [(1000, 1000)] d1 rfl rfl rfl rfl rfl (by repeat (first | exact .nil | refine .cons (.inl ⟨rfl, rfl⟩) ?_ | refine .cons (.inr ⟨rfl, fun _ => Wk.tok⟩) ?_)) (by repeat' (first | exact True.intro | rfl | apply And.intro)) (by repeat' (first | exact True.intro | rfl | apply And.intro)) rfl rfl)); (focus (exact rfl)); (focus (exact rfl)); (focus (first | exact want_n | exact want_g rfl (by with_reducible rfl))))
    refine wY ?_
    (apply WcN [1000] [1000]; (focus (exact o_ccalld [(1000, 1000)] d2 rfl rfl rfl rfl rfl (by repeat (first | exact .nil | refine .cons (.inl ⟨rfl, rfl⟩) ?_ | refine .cons (.inr ⟨rfl, fun _ => Wk.tok⟩) ?_)) (by repeat' (first | exact True.intro | rfl | apply And.intro)) (by repeat' (first | exact True.intro | rfl | apply And.intro)) rfl rfl)); (focus (exact rfl)); (focus (exact rfl)); (focus (first | exact want_n | exact want_g rfl (by with_reducible rfl))))
    refine wY ?_
    (apply WcN [1000] [1000]; (focus (exact o_ccalld [(1000, 1000)] d3 rfl rfl rfl rfl rfl (by repeat (first | exact .nil | refine .cons (.inl ⟨rfl, rfl⟩) ?_ | refine .cons (.inr ⟨rfl, fun _ => Wk.tok⟩) ?_)) (by repeat' (first | exact True.intro | rfl | apply And.intro)) (by repeat' (first | exact True.intro | rfl | apply And.intro)) rfl rfl)); (focus (exact rfl)); (focus (exact rfl)); (focus (first | exact want_n | exact want_g rfl (by with_reducible rfl))))
    refine wY ?_
    exact finc ⟨⟨(by repeat' (first | exact True.intro | rfl | apply And.intro)), rfl⟩, rc_var rfl rfl rfl rfl, trivial⟩
  · rw [if_neg k1]
    by_cases k3 : msK b s = 3
    · rw [if_pos k3]
      dsimp only
      refine CFn_intro Try.func35 rfl Try.ntmps35 rfl (by simp) [_] rfl fun E hE => ?_; have hnt : (!true) = false := rfl; have hnf : (!false) = true := rfl
      have d0 := ccall Try.func60 (c0') (by decide +kernel) (by decide +kernel)
      have d1 := ccall Try.func60 (c1') (by decide +kernel) (by decide +kernel)
      have d2 := ccall Try.func33 (c2') (by decide +kernel) (by decide +kernel)
      have d3 := ccall Try.func60 (c4) (by decide +kernel) (by decide +kernel)
      refine wY ?_
      (apply WcN [1000] [1000]; (focus (exact o_ccalld [(1000, 1000)] d0 rfl rfl rfl rfl rfl (by repeat (first | exact .nil | refine .cons (.inl ⟨rfl, rfl⟩) ?_ | refine .cons (.inr ⟨rfl, fun _ => Wk.tok⟩) ?_)) (by repeat' (first | exact True.intro | rfl | apply And.intro)) (by repeat' (first | exact True.intro | rfl | apply And.intro)) rfl rfl)); (focus (exact rfl)); (focus (exact rfl)); (focus (first | exact want_n | exact want_g rfl (by with_reducible rfl))))
      refine wSY ?_
      rw [hk]
      refine wY ?_
      (apply WcN [1000] [1000]; (focus (exact o_ccalld [(1000, 1000)] d1 rfl rfl rfl rfl rfl (by repeat (first | exact .nil | refine .cons (.inl ⟨rfl, rfl⟩) ?_ | refine .cons (.inr ⟨rfl, fun _ => Wk.tok⟩) ?_)) (by repeat' (first | exact True.intro | rfl | apply And.intro)) (by repeat' (first | exact True.intro | rfl | apply And.intro)) rfl rfl)); (focus (exact rfl)); (focus (exact rfl)); (focus (first | exact want_n | exact want_g rfl (by with_reducible rfl))))
      refine wY ?_
      (apply WcN [1000] [1000]; (focus (exact o_ccalld [(1000, 1000)] d2 rfl rfl rfl rfl rfl (by repeat (first | exact .nil | refine .cons (.inl ⟨rfl, rfl⟩) ?_ | refine .cons (.inr ⟨rfl, fun _ => Wk.tok⟩) ?_)) (by repeat' (first | exact True.intro | rfl | apply And.intro)) (by repeat' (first | exact True.intro | rfl | apply And.intro)) rfl rfl)); (focus (exact rfl)); (focus (exact rfl)); (focus (first | exact want_n | exact want_g rfl (by with_reducible rfl))))
      refine wY ?_
      (apply WcN [1000] [1000]; (focus (exact o_ccalld [(1000, 1000)] d3 rfl rfl rfl rfl rfl (by repeat (first | exact .nil | refine .cons (.inl ⟨rfl, rfl⟩) ?_ | refine .cons (.inr ⟨rfl, fun _ => Wk.tok⟩) ?_)) (by repeat' (first | exact True.intro | rfl | apply And.intro)) (by repeat' (first | exact True.intro | rfl | apply And.intro)) rfl rfl)); (focus (exact rfl)); (focus (exact rfl)); (focus (first | exact want_n | exact want_g rfl (by with_reducible rfl))))
      refine wY ?_
      exact finc ⟨⟨(by repeat' (first | exact True.intro | rfl | apply And.intro)), rfl⟩, rc_var rfl rfl rfl rfl, trivial⟩
    · rw [if_neg k3]
      dsimp only
      refine CFn_intro Try.func35 rfl Try.ntmps35 rfl (by simp) [_] rfl fun E hE => ?_; have hnt : (!true) = false := rfl; have hnf : (!false) = true := rfl
      have d0 := ccall Try.func60 (c0') (by decide +kernel) (by decide +kernel)
      have d1 := ccall Try.func60 (c1') (by decide +kernel) (by decide +kernel)
      have d2 := ccall Try.func33 (c2') (by decide +kernel) (by decide +kernel)
      refine wY ?_
      (apply WcN [1000] [1000]; (focus (exact o_ccalld [(1000, 1000)] d0 rfl rfl rfl rfl rfl (by repeat (first | exact .nil | refine .cons (.inl ⟨rfl, rfl⟩) ?_ | refine .cons (.inr ⟨rfl, fun _ => Wk.tok⟩) ?_)) (by repeat' (first | exact True.intro | rfl | apply And.intro)) (by repeat' (first | exact True.intro | rfl | apply And.intro)) rfl rfl)); (focus (exact rfl)); (focus (exact rfl)); (focus (first | exact want_n | exact want_g rfl (by with_reducible rfl))))
      refine wSY ?_
      rw [hk]
      refine wY ?_
      (apply WcN [1000] [1000]; (focus (exact o_ccalld [(1000, 1000)] d1 rfl rfl rfl rfl rfl (by repeat (first | exact .nil | refine .cons (.inl ⟨rfl, rfl⟩) ?_ | refine .cons (.inr ⟨rfl, fun _ => Wk.tok⟩) ?_)) (by repeat' (first | exact True.intro | rfl | apply And.intro)) (by repeat' (first | exact True.intro | rfl | apply And.intro)) rfl rfl)); (focus (exact rfl)); (focus (exact rfl)); (focus (first | exact want_n | exact want_g rfl (by with_reducible rfl))))
      refine wY ?_
      (apply WcN [1000] [1000]; (focus (exact o_ccalld [(1000, 1000)] d2 rfl rfl rfl rfl rfl (by repeat (first | exact .nil | refine .cons (.inl ⟨rfl, rfl⟩) ?_ | refine .cons (.inr ⟨rfl, fun _ => Wk.tok⟩) ?_)) (by repeat' (first | exact True.intro | rfl | apply And.intro)) (by repeat' (first | exact True.intro | rfl | apply And.intro)) rfl rfl)); (focus (exact rfl)); (focus (exact rfl)); (focus (first | exact want_n | exact want_g rfl (by with_reducible rfl))))
      refine wY ?_
      exact finc ⟨⟨(by repeat' (first | exact True.intro | rfl | apply And.intro)), rfl⟩, rc_var rfl rfl rfl rfl, trivial⟩
end Go.Proofs.Ytcmdhpinelnclaa

namespace Go.Proofs.Ytcmdhpinelnclaa
open Go Go.RowKit
set_option linter.unusedVariables false
set_option linter.unusedSimpArgs false
set_option maxRecDepth 100000

attribute [local irreducible] OpOK AWops AW CondB Go2 AFn thenA inBlockA noGotoA orderOk wantedA
set_option maxRecDepth 100000 in
set_option maxHeartbeats 4000000 in
theorem c_some_ent (b : List (BitVec 8)) (s : Rst) (n : Int) (hb : b.length ≤ 1000000) (hs : s.pos ≤ 100000) (hn : n ≤ 1000) :
    CFn Try.prog 28 [intA n, .fn (.func 29) [.ptr 1000 0 []] []] (bxR b s) (entsA (rdMany (rdEnt b) n.toNat s).1) (bxR b (rdMany (rdEnt b) n.toNat s).2) := by
  refine CFn_intro Try.func28 rfl Try.ntmps28 rfl (by simp) [_] rfl fun E hE => ?_; have hnt : (!true) = false := rfl; have hnf : (!false) = true := rfl
  refine wY ?_
  refine AW_go (Go2.token 5 40 25 64 rfl rfl) ?_
  refine AW_loopI (fun j : Nat => ⟨[(1, .fn (.func 29) [.ptr 1000 0 []] []), (5, .sl (some 40) 26 ((rdMany (rdEnt b) j s).1.map Ent.av)), (6, intA n), (7, .v (.int .i64 (j : Nat)))], [(1000, .var (rdA b (rdMany (rdEnt b) j s).2)), (40, .tail 64 26 (rdMany (rdEnt b) j s).1.length)]⟩) (fun j => j ≤ n.toNat) (fun j => n.toNat - j) 0 (Nat.zero_le _) (by (refine Go2.sub ⟨?_, ?_, ?_⟩ <;> repeat' (first | exact True.intro | rfl | apply And.intro))) (fun j hj => ?_)
  have hp := rdMany_pos (rdEnt b) (rdEnt_pos b) s j
  have hl := rdMany_len (rdEnt b) s j
  by_cases hlt : j < n.toNat
  · have hlt' : (j : Int) < n := by omega
    have d0 := c_rent b (rdMany (rdEnt b) j s).2 hb (by omega)
    have d1 := ccall Try.func29 (d0) (by decide +kernel) (by decide +kernel)
    refine wY ?_
    (apply WcN [1000] [1000]; (focus (exact o_ccalldF [(1000, 1000)] d1 rfl rfl rfl rfl rfl (by repeat (first | exact .nil | refine .cons (.inl ⟨rfl, rfl⟩) ?_ | refine .cons (.inr ⟨rfl, fun _ => Wk.tok⟩) ?_)) (by repeat' (first | exact True.intro | rfl | apply And.intro)) (by repeat' (first | exact True.intro | rfl | apply And.intro)) rfl rfl)); (focus (exact rfl)); (focus (exact rfl)); (focus (first | exact want_n | exact want_g rfl (by with_reducible rfl))))
    refine wY ?_
    refine ⟨j + 1, by omega, by omega, ?_⟩
    rw [show rdMany (rdEnt b) (j + 1) s = ((rdMany (rdEnt b) j s).1 ++ [(rdEnt b (rdMany (rdEnt b) j s).2).1], (rdEnt b (rdMany (rdEnt b) j s).2).2) from rfl]
    (refine Go2.sub ⟨?_, ?_, ?_⟩ <;> repeat' (first | exact True.intro | rfl | apply And.intro))
  · obtain rfl : j = n.toNat := by omega
    have hlt' : ¬ ((n.toNat : Nat) : Int) < n := by omega
    refine wY ?_
    exact finc ⟨⟨(by repeat' (first | exact True.intro | rfl | apply And.intro)), rfl⟩, rc_sl rfl, trivial⟩
set_option maxRecDepth 100000 in
set_option maxHeartbeats 4000000 in
theorem c_some_kid (b : List (BitVec 8)) (s : Rst) (n : Int) (hb : b.length ≤ 1000000) (hs : s.pos ≤ 100000) (hn : n ≤ 1000) :
    CFn Try.prog 30 [intA n, .fn (.func 31) [.ptr 1000 0 []] []] (bxR b s) (intsA (rdMany (rdKid b) n.toNat s).1) (bxR b (rdMany (rdKid b) n.toNat s).2) := by
  refine CFn_intro Try.func30 rfl Try.ntmps30 rfl (by simp) [_] rfl fun E hE => ?_; have hnt : (!true) = false := rfl; have hnf : (!false) = true := rfl
  refine wY ?_
  refine AW_go (Go2.token 5 40 0 3 rfl rfl) ?_
  refine AW_loopI (fun j : Nat => ⟨[(1, .fn (.func 31) [.ptr 1000 0 []] []), (5, .sl (some 40) 1 ((rdMany (rdKid b) j s).1.map intA)), (6, intA n), (7, .v (.int .i64 (j : Nat)))], [(1000, .var (rdA b (rdMany (rdKid b) j s).2)), (40, .tail 3 1 (rdMany (rdKid b) j s).1.length)]⟩) (fun j => j ≤ n.toNat) (fun j => n.toNat - j) 0 (Nat.zero_le _) (by (refine Go2.sub ⟨?_, ?_, ?_⟩ <;> repeat' (first | exact True.intro | rfl | apply And.intro))) (fun j hj => ?_)
  have hp := rdMany_pos (rdKid b) (rdKid_pos b) s j
  have hl := rdMany_len (rdKid b) s j
  by_cases hlt : j < n.toNat
  · have hlt' : (j : Int) < n := by omega
    have d0 := c_rkid b (rdMany (rdKid b) j s).2 hb (by omega)
    have d1 := ccall Try.func31 (d0) (by decide +kernel) (by decide +kernel)
    refine wY ?_
    (apply WcN [1000] [1000]; (focus (exact o_ccalldF [(1000, 1000)] d1 rfl rfl rfl rfl rfl (by repeat (first | exact .nil | refine .cons (.inl ⟨rfl, rfl⟩) ?_ | refine .cons (.inr ⟨rfl, fun _ => Wk.tok⟩) ?_)) (by repeat' (first | exact True.intro | rfl | apply And.intro)) (by repeat' (first | exact True.intro | rfl | apply And.intro)) rfl rfl)); (focus (exact rfl)); (focus (exact rfl)); (focus (first | exact want_n | exact want_g rfl (by with_reducible rfl))))
    refine wY ?_
    refine ⟨j + 1, by omega, by omega, ?_⟩
    rw [show rdMany (rdKid b) (j + 1) s = ((rdMany (rdKid b) j s).1 ++ [(rdKid b (rdMany (rdKid b) j s).2).1], (rdKid b (rdMany (rdKid b) j s).2).2) from rfl]
    (refine Go2.sub ⟨?_, ?_, ?_⟩ <;> repeat' (first | exact True.intro | rfl | apply And.intro))
  · obtain rfl : j = n.toNat := by omega
    have hlt' : ¬ ((n.toNat : Nat) : Int) < n := by omega
    refine wY ?_
    exact finc ⟨⟨(by repeat' (first | exact True.intro | rfl | apply And.intro)), rfl⟩, rc_sl rfl, trivial⟩
set_option maxRecDepth 100000 in
set_option maxHeartbeats 4000000 in
theorem c_some_key (b : List (BitVec 8)) (s : Rst) (n : Int) (hb : b.length ≤ 1000000) (hs : s.pos ≤ 100000) (hn : n ≤ 1000) :
    CFn Try.prog 32 [intA n, .fn (.func 33) [.ptr 1000 0 []] []] (bxR b s) (keysA (rdMany (rdKey b) n.toNat s).1) (bxR b (rdMany (rdKey b) n.toNat s).2) := by
  refine CFn_intro Try.func32 rfl Try.ntmps32 rfl (by simp) [_] rfl fun E hE => ?_; have hnt : (!true) = false := rfl; have hnf : (!false) = true := rfl
  refine wY ?_
  refine AW_go (Go2.token 5 40 8 59 rfl rfl) ?_
  refine AW_loopI (fun j : Nat => ⟨[(1, .fn (.func 33) [.ptr 1000 0 []] []), (5, .sl (some 40) 9 ((rdMany (rdKey b) j s).1.map Key.av)), (6, intA n), (7, .v (.int .i64 (j : Nat)))], [(1000, .var (rdA b (rdMany (rdKey b) j s).2)), (40, .tail 59 9 (rdMany (rdKey b) j s).1.length)]⟩) (fun j => j ≤ n.toNat) (fun j => n.toNat - j) 0 (Nat.zero_le _) (by (refine Go2.sub ⟨?_, ?_, ?_⟩ <;> repeat' (first | exact True.intro | rfl | apply And.intro))) (fun j hj => ?_)
  have hp := rdMany_pos (rdKey b) (fun s => by have := rdKey_pos b s; omega) s j
  have hl := rdMany_len (rdKey b) s j
  by_cases hlt : j < n.toNat
  · have hlt' : (j : Int) < n := by omega
    have d0 := c_rkey b (rdMany (rdKey b) j s).2 hb (by omega)
    have d1 := ccall Try.func33 (d0) (by decide +kernel) (by decide +kernel)
    refine wY ?_
    (apply WcN [1000] [1000]; (focus (exact o_ccalldF [(1000, 1000)] d1 rfl rfl rfl rfl rfl (by repeat (first | exact .nil | refine .cons (.inl ⟨rfl, rfl⟩) ?_ | refine .cons (.inr ⟨rfl, fun _ => Wk.tok⟩) ?_)) (by repeat' (first | exact True.intro | rfl | apply And.intro)) (by repeat' (first | exact True.intro | rfl | apply And.intro)) rfl rfl)); (focus (exact rfl)); (focus (exact rfl)); (focus (first | exact want_n | exact want_g rfl (by with_reducible rfl))))
    refine wY ?_
    refine ⟨j + 1, by omega, by omega, ?_⟩
    rw [show rdMany (rdKey b) (j + 1) s = ((rdMany (rdKey b) j s).1 ++ [(rdKey b (rdMany (rdKey b) j s).2).1], (rdKey b (rdMany (rdKey b) j s).2).2) from rfl]
    (refine Go2.sub ⟨?_, ?_, ?_⟩ <;> repeat' (first | exact True.intro | rfl | apply And.intro))
  · obtain rfl : j = n.toNat := by omega
    have hlt' : ¬ ((n.toNat : Nat) : Int) < n := by omega
    refine wY ?_
    exact finc ⟨⟨(by repeat' (first | exact True.intro | rfl | apply And.intro)), rfl⟩, rc_sl rfl, trivial⟩
set_option maxRecDepth 100000 in
set_option maxHeartbeats 4000000 in
theorem c_some_msg (b : List (BitVec 8)) (s : Rst) (n : Int) (hb : b.length ≤ 1000000) (hs : s.pos ≤ 100000) (hn : n ≤ 1000) :
    CFn Try.prog 34 [intA n, .fn (.func 35) [.ptr 1000 0 []] []] (bxR b s) (msgsA (rdMany (rdMsg b) n.toNat s).1) (bxR b (rdMany (rdMsg b) n.toNat s).2) := by
  refine CFn_intro Try.func34 rfl Try.ntmps34 rfl (by simp) [_] rfl fun E hE => ?_; have hnt : (!true) = false := rfl; have hnf : (!false) = true := rfl
  refine wY ?_
  refine AW_go (Go2.token 5 40 28 73 rfl rfl) ?_
  refine AW_loopI (fun j : Nat => ⟨[(1, .fn (.func 35) [.ptr 1000 0 []] []), (5, .sl (some 40) 29 ((rdMany (rdMsg b) j s).1.map Msg.av)), (6, intA n), (7, .v (.int .i64 (j : Nat)))], [(1000, .var (rdA b (rdMany (rdMsg b) j s).2)), (40, .tail 73 29 (rdMany (rdMsg b) j s).1.length)]⟩) (fun j => j ≤ n.toNat) (fun j => n.toNat - j) 0 (Nat.zero_le _) (by (refine Go2.sub ⟨?_, ?_, ?_⟩ <;> repeat' (first | exact True.intro | rfl | apply And.intro))) (fun j hj => ?_)
  have hp := rdMany_pos (rdMsg b) (rdMsg_pos b) s j
  have hl := rdMany_len (rdMsg b) s j
  by_cases hlt : j < n.toNat
  · have hlt' : (j : Int) < n := by omega
    have d0 := c_rmsg b (rdMany (rdMsg b) j s).2 hb (by omega)
    have d1 := ccall Try.func35 (d0) (by decide +kernel) (by decide +kernel)
    refine wY ?_
    (apply WcN [1000] [1000]; (focus (exact o_ccalldF [(1000, 1000)] d1 rfl rfl rfl rfl rfl (by repeat (first | exact .nil | refine .cons (.inl ⟨rfl, rfl⟩) ?_ | refine .cons (.inr ⟨rfl, fun _ => Wk.tok⟩) ?_)) (by repeat' (first | exact True.intro | rfl | apply And.intro)) (by repeat' (first | exact True.intro | rfl | apply And.intro)) rfl rfl)); (focus (exact rfl)); (focus (exact rfl)); (focus (first | exact want_n | exact want_g rfl (by with_reducible rfl))))
    refine wY ?_
    refine ⟨j + 1, by omega, by omega, ?_⟩
    rw [show rdMany (rdMsg b) (j + 1) s = ((rdMany (rdMsg b) j s).1 ++ [(rdMsg b (rdMany (rdMsg b) j s).2).1], (rdMsg b (rdMany (rdMsg b) j s).2).2) from rfl]
    (refine Go2.sub ⟨?_, ?_, ?_⟩ <;> repeat' (first | exact True.intro | rfl | apply And.intro))
  · obtain rfl : j = n.toNat := by omega
    have hlt' : ¬ ((n.toNat : Nat) : Int) < n := by omega
    refine wY ?_
    exact finc ⟨⟨(by repeat' (first | exact True.intro | rfl | apply And.intro)), rfl⟩, rc_sl rfl, trivial⟩
end Go.Proofs.Ytcmdhpinelnclaa

namespace Go.Proofs.Ytcmdhpinelnclaa
open Go Go.RowKit
set_option linter.unusedVariables false
set_option linter.unusedSimpArgs false
set_option maxRecDepth 100000

attribute [local irreducible] OpOK AWops AW CondB Go2 AFn thenA inBlockA noGotoA orderOk wantedA
set_option maxRecDepth 100000 in
set_option maxHeartbeats 4000000 in
theorem a_sameEnts (a b : List Ent) (h1 : a.length ≤ 1000000000) : AFn Try.prog 39 [entsA a, entsA b] (boolA (decide (a = b))) := by
  refine AFn_intro Try.func39 rfl Try.ntmps39 rfl (by simp) [_] rfl fun E hE => ?_
  by_cases hl : a.length = b.length
  · refine wL ?_
    refine AW_loopI (fun j : Nat => ⟨[(0, entsA a), (1, entsA b), (5, intA j)], []⟩) (fun j => j ≤ a.length ∧ a.take j = b.take j) (fun j => a.length - j) 0 ⟨Nat.zero_le _, rfl⟩ (by (refine Go2.sub ⟨?_, ?_, ?_⟩ <;> repeat' (first | exact True.intro | rfl | apply And.intro))) (fun j hj => ?_)
    obtain ⟨hj, hJ⟩ := hj
    by_cases hlt : j < a.length
    · have hlt' : j < b.length := by omega
      by_cases h : a[j] = b[j]
      · have h' : ¬ a[j] ≠ b[j] := fun k => k h
        refine wL ?_
        refine ⟨j + 1, ⟨hlt, same_step a b j hlt hlt' h hJ⟩, by omega, ?_⟩
        (refine Go2.sub ⟨?_, ?_, ?_⟩ <;> repeat' (first | exact True.intro | rfl | apply And.intro))
      · have h' : a[j] ≠ b[j] := h
        rw [same_no a b j hlt hlt' h]
        refine wL ?_
        exact fin ⟨res_of rfl rfl rfl, trivial⟩
    · have : j = a.length := by omega
      subst this
      rw [List.take_length, hl, List.take_length] at hJ
      rw [decide_eq_true hJ]
      refine wL ?_
      exact fin ⟨res_of rfl rfl rfl, trivial⟩
  · rw [show decide (a = b) = false from decide_eq_false fun k => hl (by rw [k])]
    refine wL ?_
    exact fin ⟨res_of rfl rfl rfl, trivial⟩
set_option maxRecDepth 100000 in
set_option maxHeartbeats 4000000 in
theorem a_sameMsgs (a b : List Msg) (h1 : a.length ≤ 1000000000) : AFn Try.prog 42 [msgsA a, msgsA b] (boolA (decide (a = b))) := by
  refine AFn_intro Try.func42 rfl Try.ntmps42 rfl (by simp) [_] rfl fun E hE => ?_
  by_cases hl : a.length = b.length
  · refine wL ?_
    refine AW_loopI (fun j : Nat => ⟨[(0, msgsA a), (1, msgsA b), (5, intA j)], []⟩) (fun j => j ≤ a.length ∧ a.take j = b.take j) (fun j => a.length - j) 0 ⟨Nat.zero_le _, rfl⟩ (by (refine Go2.sub ⟨?_, ?_, ?_⟩ <;> repeat' (first | exact True.intro | rfl | apply And.intro))) (fun j hj => ?_)
    obtain ⟨hj, hJ⟩ := hj
    by_cases hlt : j < a.length
    · have hlt' : j < b.length := by omega
      by_cases h : a[j] = b[j]
      · have h' : ¬ a[j] ≠ b[j] := fun k => k h
        refine wL ?_
        refine ⟨j + 1, ⟨hlt, same_step a b j hlt hlt' h hJ⟩, by omega, ?_⟩
        (refine Go2.sub ⟨?_, ?_, ?_⟩ <;> repeat' (first | exact True.intro | rfl | apply And.intro))
      · have h' : a[j] ≠ b[j] := h
        rw [same_no a b j hlt hlt' h]
        refine wL ?_
        exact fin ⟨res_of rfl rfl rfl, trivial⟩
    · have : j = a.length := by omega
      subst this
      rw [List.take_length, hl, List.take_length] at hJ
      rw [decide_eq_true hJ]
      refine wL ?_
      exact fin ⟨res_of rfl rfl rfl, trivial⟩
  · rw [show decide (a = b) = false from decide_eq_false fun k => hl (by rw [k])]
    refine wL ?_
    exact fin ⟨res_of rfl rfl rfl, trivial⟩
end Go.Proofs.Ytcmdhpinelnclaa

namespace Go.Proofs.Ytcmdhpinelnclaa
open Go Go.RowKit
set_option linter.unusedVariables false
set_option linter.unusedSimpArgs false
set_option maxRecDepth 100000

theorem run_method {P : Program} {t : TypeId} {v : Value} {name : String} {f : FuncId} {F : Array Field} (n : Nat) (h : (P.info? t).bind (fun i => (i.methods.find? (·.name == name)).map fun m => (m.path.toList.length, m.func)) = some (0, some (f, false))) (hu : P.underlying t = some (.struct F)) (w : World) : (Go.method (n + 1) t v name).run P w = .ok (f, v) w := by
  cases hi : P.info? t with
  | none => rw [hi] at h; cases h
  | some i =>
    rw [hi] at h
    simp only [Option.bind_some] at h
    cases hm : i.methods.find? (·.name == name) with
    | none => rw [hm] at h; cases h
    | some m =>
      rw [hm] at h
      simp only [Option.map_some, Option.some.injEq, Prod.mk.injEq] at h
      obtain ⟨h1, h2⟩ := h
      have h3 : m.path.toList = [] := List.eq_nil_of_length_eq_zero h1
      unfold Go.method
      simp [typeInfo, hi, hm, h2, h3, Go.follow, Go.receiverAt, run_underlying hu, Go.Place.get]
section
variable {P : Program} {E : Env} {nt : Nat} {ops : Array Oper} {T : Nat → Option AV} {H : Hp} {d : Option Nat} {ty : TypeId} {pos : String} {af : Array Edge} {gd : Option (Nat × Bool)}
theorem ok_mkifc {t : TypeId} {x : Operand} {y : AV} {F : Array Field} (hu : P.underlying t = some (.struct F)) (hd : dOk nt d = true) (hx : evalO T x = some y) (hnt : notTup y = true) : OpOK P E nt ops ⟨d, .makeInterface t x, ty, pos, af, gd⟩ T H [] ⟨.ifc t y, []⟩ :=
  ok_val hd fun B T' H' a w r ht hh => by
    have h1 := r.eval ((ht x (by simp [Op.operands])).trans hx)
    rw [Rdv_not (notTup_ne hnt)] at h1
    obtain ⟨c, h2, h3⟩ := h1
    refine ⟨.iface t (a.eval x), by simp [execOp, Instr.makeInterface, run_underlying hu], ?_⟩
    rw [Rdv_not (by simp)]
    exact ⟨[_], by simp only [Rd]; exact ⟨c, h2, rfl⟩, by rw [h3]; rfl⟩
/-- of that type -/
theorem ok_assert_y {t xt : TypeId} {x : Operand} {y : AV} {F : Array Field} (hu : P.underlying t = some (.struct F)) (hd : dOk nt d = true) (hx : evalO T x = some (.ifc t y)) (hnt : notTup y = true) : OpOK P E nt ops ⟨d, .typeAssert x xt t true, ty, pos, af, gd⟩ T H [] ⟨.tup [y, boolA true], []⟩ :=
  ok_val hd fun B T' H' a w r ht hh => by
    have h1 := Rdv_one (by simp) (r.eval ((ht x (by simp [Op.operands])).trans hx)) rfl
    simp only [Rd] at h1
    obtain ⟨c, h2, h3⟩ := h1
    injection h3 with h3
    refine ⟨.tuple #[pack y c, .bool true], by simp [execOp, h3, Instr.typeAssert, run_underlying hu], ?_⟩
    rw [Rdv_tup]
    refine ⟨[pack y c, .bool true], rfl, ?_⟩
    simp only [Rdp]
    exact ⟨c, [.bool true], rfl, h2, [.bool true], [], rfl, (rd_v rfl).2 rfl, rfl⟩
def isAggV : Value → Bool
  | .agg _ => true
  | _ => false
/-- of another one -/
theorem ok_assert_n {t s xt : TypeId} {x : Operand} {y : AV} {n : Nat} {fs : List AV} {F : Array Field} (hu : P.underlying t = some (.struct F)) (hd : dOk nt d = true) (hx : evalO T x = some (.ifc s y)) (hne : Nat.beq s t = false) (hz : ZeroOk P t (.agg n fs)) (hzv : ((P.info? t).bind (·.zero)).map isAggV = some true) : OpOK P E nt ops ⟨d, .typeAssert x xt t true, ty, pos, af, gd⟩ T H [] ⟨.tup [.agg n fs, boolA false], []⟩ :=
  ok_val hd fun B T' H' a w r ht hh => by
    have h1 := Rdv_one (by simp) (r.eval ((ht x (by simp [Op.operands])).trans hx)) rfl
    simp only [Rd] at h1
    obtain ⟨c, h2, h3⟩ := h1
    injection h3 with h3
    obtain ⟨i, zv, z1, z2, z3⟩ := hz
    have hst : ¬ s = t := fun e => by subst e; simp at hne
    have hzr := Rd_free (B := B) (H := H') _ (z3 (unst E B H') w)
    refine ⟨.tuple #[zv, .bool false], by simp [execOp, h3, Instr.typeAssert, run_underlying hu, hst, zeroValue, typeInfo, z1, z2], ?_⟩
    rw [Rdv_tup]
    refine ⟨[zv, .bool false], rfl, ?_⟩
    simp only [Rdp]
    refine ⟨zv.cells.toList, [.bool false], ?_, hzr, [.bool false], [], rfl, (rd_v rfl).2 rfl, rfl⟩
    rw [z1] at hzv
    simp only [Option.bind_some, z2, Option.map_some, Option.some.injEq] at hzv
    cases zv <;> first | rfl | cases hzv
theorem ok_invoke {f : FuncId} {fn : Func} {t : TypeId} {x : Operand} {name : String} {l : List Operand} {ats : Array TypeId} {v y : AV} {xs ys : List AV} {F : Array Field} (hd : dOk nt d = true) (hf : P.funcs[f]? = some fn) (hb : fn.body.isSome = true) (hnm : (fn.name == "runtime.NumGoroutine") = false)
    (hu : P.underlying t = some (.struct F)) (hm : (P.info? t).bind (fun i => (i.methods.find? (·.name == name)).map fun m => (m.path.toList.length, m.func)) = some (0, some (f, false))) (hxf : evalO T x = some (.ifc t v)) (hvd : dataA v = true) (hx : l.map (evalO T) = xs.map some) (hc : AFn P f (v :: ys) y) (hw : ∀ H', WkL H' xs ys) (hnt : xs.all notTup = true) :
    OpOK P E nt ops ⟨d, .call { callee := .invoke x name, args := l.toArray, argTypes := ats }, ty, pos, af, gd⟩ T H [] ⟨y, []⟩ := by
  intro T' H' ht _ _ B a w r K Q hK
  have hxs := args_rdp r l xs (map_agree hx (fun y hy => agree_op ht (by simp [Op.operands, Call.operands]; exact .inr hy))) (fun z hz => notTup_ne (List.all_eq_true.1 hnt z hz))
  have hys := (hw H').rdp hxs
  have hfv := Rdv_one (by simp) (r.eval ((agree_op ht (x := x) (by simp [Op.operands, Call.operands])).trans hxf)) rfl
  simp only [Rd] at hfv
  obtain ⟨c, e1, e2⟩ := hfv
  injection e2 with e2
  have hall : Rdp (unst E B H') w (v :: ys) B0 H0 (pack v c :: l.map a.eval) := by
    simp only [Rdp]
    exact ⟨c, _, rfl, Rd_data v hvd e1, hys⟩
  have h2 := hc _ w _ hall
  unfold Oper.wp
  have he : (execOp a.eval ⟨d, .call { callee := .invoke x name, args := l.toArray, argTypes := ats }, ty, pos, af, gd⟩).run P w = .ok (.enter f (pack v c :: l.map a.eval).toArray) w := by
    have hb' : fn.body ≠ none := by cases h : fn.body <;> simp_all
    have hn' : fn.name ≠ "runtime.NumGoroutine" := by simpa using hnm
    have hmr := run_method (v := pack v c) (P.types.size + Made.depth - 1) hm hu w
    rw [show P.types.size + Made.depth - 1 + 1 = P.types.size + Made.depth from by simp [Made.depth]] at hmr
    have ha : (pack v c :: l.map a.eval).toArray = #[pack v c] ++ (l.toArray.map a.eval) := by apply Array.ext'; simp
    rw [ha]
    simp [execOp, resolve, e2, invoke, callMethod, hmr, callFunc, hf, hn', hb']
    exact List.take_of_length_le (by simp)
  rw [he]
  refine Calls.mono h2 ?_
  rintro e w' ⟨u, rfl, h3, h4⟩
  exact hK B _ w' ((r.ext h4).put hd (Rdv_free (Rdv_sub (fun b o h => ⟨r.unst_lt h, h⟩) h3)))
end
section
variable {E : Env} {nt : Nat} {ops : Array Oper} {T : Nat → Option AV} {H : Hp} {d : Option Nat} {ty : TypeId} {pos : String} {af : Array Edge} {gd : Option (Nat × Bool)}
noncomputable def isStructB (t : TypeId) : Bool := match Try.prog.underlying t with
  | some (.struct _) => true
  | _ => false
theorem isStruct_eq {t : TypeId} (h : isStructB t = true) : ∃ F, Try.prog.underlying t = some (.struct F) := by
  unfold isStructB at h
  split at h
  · rename_i F e; exact ⟨F, e⟩
  · cases h
theorem o_mkifc {t : TypeId} {x : Operand} {y : AV} (hd : dOk nt d = true) (hx : evalO T x = some y) (hnt : notTup y = true) (hu : isStructB t = true) : OpOK Try.prog E nt ops ⟨d, .makeInterface t x, ty, pos, af, gd⟩ T H [] ⟨.ifc t y, []⟩ := by
  obtain ⟨F, hF⟩ := isStruct_eq hu
  exact ok_mkifc hF hd hx hnt
theorem o_asy {t xt : TypeId} {x : Operand} {y : AV} (hd : dOk nt d = true) (hx : evalO T x = some (.ifc t y)) (hnt : notTup y = true) (hu : isStructB t = true) : OpOK Try.prog E nt ops ⟨d, .typeAssert x xt t true, ty, pos, af, gd⟩ T H [] ⟨.tup [y, boolA true], []⟩ := by
  obtain ⟨F, hF⟩ := isStruct_eq hu
  exact ok_assert_y hF hd hx hnt
theorem o_asn {t s xt : TypeId} {x : Operand} {y : AV} {n : Nat} {fs : List AV} (hd : dOk nt d = true) (hx : evalO T x = some (.ifc s y)) (hne : Nat.beq s t = false) (hz : zeroT t = some (.agg n fs)) (hu : isStructB t = true) (hzv : ((Try.prog.info? t).bind (·.zero)).map isAggV = some true) : OpOK Try.prog E nt ops ⟨d, .typeAssert x xt t true, ty, pos, af, gd⟩ T H [] ⟨.tup [.agg n fs, boolA false], []⟩ := by
  obtain ⟨F, hF⟩ := isStruct_eq hu
  exact ok_assert_n hF hd hx hne (zeroT_ok hz) hzv
/-- a method by name: the function that stands for it -/
def MCall (t : TypeId) (name : String) (args : List AV) (r : AV) : Prop := ∃ f fn F, Try.prog.funcs[f]? = some fn ∧ fn.body.isSome = true ∧ (fn.name == "runtime.NumGoroutine") = false ∧ Try.prog.underlying t = some (.struct F) ∧ (Try.prog.info? t).bind (fun i => (i.methods.find? (·.name == name)).map fun m => (m.path.toList.length, m.func)) = some (0, some (f, false)) ∧ AFn Try.prog f args r
theorem mcall {t : TypeId} {name : String} {f : FuncId} {fn : Func} {args : List AV} {r : AV} (hf : Try.prog.funcs[f]? = some fn) (hc : AFn Try.prog f args r) (hb : fn.body.isSome = true) (hn : (fn.name == "runtime.NumGoroutine") = false) (hu : isStructB t = true) (hm : (Try.prog.info? t).bind (fun i => (i.methods.find? (·.name == name)).map fun m => (m.path.toList.length, m.func)) = some (0, some (f, false))) : MCall t name args r := by
  obtain ⟨F, hF⟩ := isStruct_eq hu
  exact ⟨f, fn, F, hf, hb, hn, hF, hm, hc⟩
theorem o_minv {t : TypeId} {x : Operand} {name : String} {l : List Operand} {ats : Array TypeId} {v y : AV} {xs ys : List AV} (hd : dOk nt d = true) (hxf : evalO T x = some (.ifc t v)) (hvd : dataA v = true) (hx : argsA T l = some xs) (hw : weakA xs = some ys) (hnt : xs.all notTup = true) (hc : MCall t name (v :: ys) y) :
    OpOK Try.prog E nt ops ⟨d, .call { callee := .invoke x name, args := l.toArray, argTypes := ats }, ty, pos, af, gd⟩ T H [] ⟨y, []⟩ := by
  obtain ⟨f, fn, F, h1, h2, h3, h4, h5, h6⟩ := hc
  exact ok_invoke hd h1 h2 h3 h4 h5 hxf hvd (argsA_map hx) h6 (fun _ => weakA_wkl _ _ hw) hnt
end
end Go.Proofs.Ytcmdhpinelnclaa

namespace Go.Proofs.Ytcmdhpinelnclaa
open Go Go.RowKit
set_option linter.unusedVariables false
set_option linter.unusedSimpArgs false
set_option maxRecDepth 100000

structure Nd.Sm (n : Nd) : Prop where
  es : n.es.length ≤ 100000000
  ks : n.ks.length ≤ 100000000
  ps : n.ps.length ≤ 100000000
  ms : n.ms.length ≤ 100000000
def Nd.kind (n : Nd) : TypeId := if n.leaf = true then 107 else 108
attribute [local irreducible] OpOK AWops AW CondB Go2 AFn thenA inBlockA noGotoA orderOk wantedA
set_option maxRecDepth 100000 in
set_option maxHeartbeats 4000000 in
theorem a_leafright (n : Nd) (h : n.Sm) : AFn Try.prog 111 [n.av] (boolA (leafOk keyCmp n)) := by
  obtain ⟨lf, es, ks, ps, ms⟩ := n
  dsimp only [Nd.av]
  refine AFn_intro Try.func111 rfl Try.ntmps111 rfl (by simp) [_] rfl fun E hE => ?_
  obtain ⟨h1, h2, h3, h4⟩ := h
  unfold leafOk
  dsimp only at h1 h2 h3 h4 ⊢
  have c1 := a_leafcheck es h1
  cases q : entsOkB keyCmp es with
  | false =>
    rw [q] at c1
    have d1 := acall Try.func113 (c1) (by decide +kernel) (by decide +kernel)
    refine wI ?_
    exact fin ⟨res_of rfl rfl rfl, trivial⟩
  | true =>
    rw [q] at c1
    have d1 := acall Try.func113 (c1) (by decide +kernel) (by decide +kernel)
    by_cases c : ks.length + ps.length + ms.length = 0
    · rw [decide_eq_true c]
      refine wI ?_
      exact fin ⟨res_yes rfl (by omega), trivial⟩
    · rw [decide_eq_false c]
      refine wI ?_
      exact fin ⟨res_no rfl (by omega), trivial⟩
set_option maxRecDepth 100000 in
set_option maxHeartbeats 4000000 in
theorem a_innerright (n : Nd) (h : n.Sm) : AFn Try.prog 124 [n.av] (boolA (innerOk keyCmp n)) := by
  obtain ⟨lf, es, ks, ps, ms⟩ := n
  dsimp only [Nd.av]
  refine AFn_intro Try.func124 rfl Try.ntmps124 rfl (by simp) [_] rfl fun E hE => ?_
  obtain ⟨h1, h2, h3, h4⟩ := h
  unfold innerOk
  dsimp only at h1 h2 h3 h4 ⊢
  have c1 := a_fancheck ks ps
  have c2 := a_bufcheck ms h4
  by_cases c : es.length = 0
  · rw [decide_eq_true c]
    cases q : fanOkBy keyCmp ks ps with
    | false =>
      rw [q] at c1
      have d1 := acall Try.func126 (c1) (by decide +kernel) (by decide +kernel)
      refine wI ?_
      exact fin ⟨res_of rfl rfl rfl, trivial⟩
    | true =>
      rw [q] at c1
      have d1 := acall Try.func126 (c1) (by decide +kernel) (by decide +kernel)
      have d2 := acall Try.func127 (c2) (by decide +kernel) (by decide +kernel)
      refine wI ?_
      exact fin ⟨res_of rfl rfl rfl, trivial⟩
  · rw [decide_eq_false c]
    refine wI ?_
    exact fin ⟨res_of rfl rfl rfl, trivial⟩
set_option maxRecDepth 100000 in
set_option maxHeartbeats 4000000 in
theorem a_leafbytesM (n : Nd) (h : n.Sm) (hb : EBd n.es) : AFn Try.prog 110 [n.av] (intA (eSum n.es)) := by
  refine AFn_intro Try.func110 rfl Try.ntmps110 rfl (by simp) [_] rfl fun E hE => ?_
  have d1 := acall Try.func112 (a_leafbytes n.es hb h.es) (by decide +kernel) (by decide +kernel)
  refine wI ?_
  exact fin ⟨res_of rfl rfl rfl, trivial⟩
set_option maxRecDepth 100000 in
set_option maxHeartbeats 4000000 in
theorem a_innerbytesM (n : Nd) (h : n.Sm) : AFn Try.prog 123 [n.av] (intA (bSum n.ms)) := by
  refine AFn_intro Try.func123 rfl Try.ntmps123 rfl (by simp) [_] rfl fun E hE => ?_
  have d1 := acall Try.func125 (a_bufbytes n.ms h.ms) (by decide +kernel) (by decide +kernel)
  refine wI ?_
  exact fin ⟨res_of rfl rfl rfl, trivial⟩
set_option maxRecDepth 100000 in
set_option maxHeartbeats 4000000 in
theorem a_of_leaf (es : List Ent) (ks : List Int) (ps : List Key) (ms : List Msg) : AFn Try.prog 67 [Nd.av ⟨true, es, ks, ps, ms⟩] (.ifc 107 (Nd.av ⟨true, es, ks, ps, ms⟩)) := by
  dsimp only [Nd.av]
  refine AFn_intro Try.func67 rfl Try.ntmps67 rfl (by simp) [_] rfl fun E hE => ?_
  refine wI ?_
  exact fin ⟨res_of rfl rfl rfl, trivial⟩
set_option maxRecDepth 100000 in
set_option maxHeartbeats 4000000 in
theorem a_of_inner (es : List Ent) (ks : List Int) (ps : List Key) (ms : List Msg) : AFn Try.prog 67 [Nd.av ⟨false, es, ks, ps, ms⟩] (.ifc 108 (Nd.av ⟨false, es, ks, ps, ms⟩)) := by
  dsimp only [Nd.av]
  refine AFn_intro Try.func67 rfl Try.ntmps67 rfl (by simp) [_] rfl fun E hE => ?_
  refine wI ?_
  exact fin ⟨res_of rfl rfl rfl, trivial⟩
set_option maxRecDepth 100000 in
set_option maxHeartbeats 4000000 in
theorem a_nodecheck (n : Nd) (h : n.Sm) : AFn Try.prog 68 [n.av] (boolA (nodeOk keyCmp n)) := by
  obtain ⟨lf, es, ks, ps, ms⟩ := n
  dsimp only [Nd.av]
  refine AFn_intro Try.func68 rfl Try.ntmps68 rfl (by simp) [_] rfl fun E hE => ?_
  cases lf with
  | true =>
    have d1 := acall Try.func67 (a_of_leaf es ks ps ms) (by decide +kernel) (by decide +kernel)
    have d2 := mcall (t := 107) (name := "orangery/node.right") Try.func111 (a_leafright _ h) (by decide +kernel) (by decide +kernel) (by decide +kernel) (by decide +kernel)
    refine wI ?_
    exact fin ⟨res_of rfl rfl rfl, trivial⟩
  | false =>
    have d1 := acall Try.func67 (a_of_inner es ks ps ms) (by decide +kernel) (by decide +kernel)
    have d2 := mcall (t := 108) (name := "orangery/node.right") Try.func124 (a_innerright _ h) (by decide +kernel) (by decide +kernel) (by decide +kernel) (by decide +kernel)
    refine wI ?_
    exact fin ⟨res_of rfl rfl rfl, trivial⟩
set_option maxRecDepth 100000 in
set_option maxHeartbeats 4000000 in
theorem a_nodebytes (n : Nd) (h : n.Sm) (hb : n.leaf = true → EBd n.es) : AFn Try.prog 69 [n.av] (intA (ndBytes n)) := by
  obtain ⟨lf, es, ks, ps, ms⟩ := n
  dsimp only [Nd.av]
  refine AFn_intro Try.func69 rfl Try.ntmps69 rfl (by simp) [_] rfl fun E hE => ?_
  cases lf with
  | true =>
    have d1 := acall Try.func67 (a_of_leaf es ks ps ms) (by decide +kernel) (by decide +kernel)
    have d2 := mcall (t := 107) (name := "orangery/node.bytes") Try.func110 (a_leafbytesM _ h (hb rfl)) (by decide +kernel) (by decide +kernel) (by decide +kernel) (by decide +kernel)
    refine wI ?_
    exact fin ⟨res_of rfl rfl rfl, trivial⟩
  | false =>
    have d1 := acall Try.func67 (a_of_inner es ks ps ms) (by decide +kernel) (by decide +kernel)
    have d2 := mcall (t := 108) (name := "orangery/node.bytes") Try.func123 (a_innerbytesM _ h) (by decide +kernel) (by decide +kernel) (by decide +kernel) (by decide +kernel)
    refine wI ?_
    exact fin ⟨res_of rfl rfl rfl, trivial⟩
set_option maxRecDepth 100000 in
set_option maxHeartbeats 4000000 in
theorem a_nodefits (n : Nd) (h : n.Sm) : AFn Try.prog 44 [n.av] (boolA (nodeFits n)) := by
  refine AFn_intro Try.func44 rfl Try.ntmps44 rfl (by simp) [_] rfl fun E hE => ?_
  have c1 := a_nodecheck n h
  have c2 := fun hb => a_nodebytes n h hb
  unfold nodeFits
  have hq := @nodeOk_ebd n
  cases q : nodeOk keyCmp n with
  | false =>
    rw [q] at c1
    have e1 := acall Try.func68 (c1) (by decide +kernel) (by decide +kernel)
    obtain ⟨lf, es, ks, ps, ms⟩ := n
    cases lf with
    | true =>
      have d1 := acall Try.func67 (a_of_leaf es ks ps ms) (by decide +kernel) (by decide +kernel)
      refine wI ?_
      exact fin ⟨res_of rfl rfl rfl, trivial⟩
    | false =>
      have d1 := acall Try.func67 (a_of_inner es ks ps ms) (by decide +kernel) (by decide +kernel)
      refine wI ?_
      exact fin ⟨res_of rfl rfl rfl, trivial⟩
  | true =>
    rw [q] at c1
    have c3 := c2 (hq q)
    have e1 := acall Try.func68 (c1) (by decide +kernel) (by decide +kernel)
    have e2 := acall Try.func69 (c3) (by decide +kernel) (by decide +kernel)
    obtain ⟨lf, es, ks, ps, ms⟩ := n
    cases lf with
    | true =>
      have d1 := acall Try.func67 (a_of_leaf es ks ps ms) (by decide +kernel) (by decide +kernel)
      refine wI ?_
      exact fin ⟨res_of rfl rfl rfl, trivial⟩
    | false =>
      have d1 := acall Try.func67 (a_of_inner es ks ps ms) (by decide +kernel) (by decide +kernel)
      refine wI ?_
      exact fin ⟨res_of rfl rfl rfl, trivial⟩
set_option maxRecDepth 100000 in
set_option maxHeartbeats 4000000 in
theorem a_ref09check (n : Nd) (h : n.Sm) : AFn Try.prog 47 [n.av] (boolA (nodeOk keyCmp n)) := by
  rw [← nodeOk_ref]
  obtain ⟨lf, es, ks, ps, ms⟩ := n
  dsimp only [Nd.av]
  refine AFn_intro Try.func47 rfl Try.ntmps47 rfl (by simp) [_] rfl fun E hE => ?_
  obtain ⟨h1, h2, h3, h4⟩ := h
  unfold nodeOk leafOk innerOk
  dsimp only at h1 h2 h3 h4 ⊢
  cases lf with
  | true =>
    rw [if_pos rfl]
    have c1 := a_ref07check es h1
    cases q : entsOkB refCmp es with
    | false =>
      rw [q] at c1
      have d1 := acall Try.func71 (c1) (by decide +kernel) (by decide +kernel)
      refine wI ?_
      exact fin ⟨res_of rfl rfl rfl, trivial⟩
    | true =>
      rw [q] at c1
      have d1 := acall Try.func71 (c1) (by decide +kernel) (by decide +kernel)
      by_cases e1 : ks.length = 0
      · by_cases e2 : ps.length = 0
        · by_cases e3 : ms.length = 0
          · rw [decide_eq_true (by omega : ks.length + ps.length + ms.length = 0)]
            refine wI ?_
            exact fin ⟨res_yes rfl (by omega), trivial⟩
          · rw [decide_eq_false (by omega : ¬ ks.length + ps.length + ms.length = 0)]
            refine wI ?_
            exact fin ⟨res_no rfl (by omega), trivial⟩
        · rw [decide_eq_false (by omega : ¬ ks.length + ps.length + ms.length = 0)]
          refine wI ?_
          exact fin ⟨res_of rfl rfl rfl, trivial⟩
      · rw [decide_eq_false (by omega : ¬ ks.length + ps.length + ms.length = 0)]
        refine wI ?_
        exact fin ⟨res_of rfl rfl rfl, trivial⟩
  | false =>
    rw [if_neg (by simp)]
    have c1 := a_reffancheck ks ps
    have c2 := a_ref06check ms h4
    by_cases c : es.length = 0
    · rw [decide_eq_true c]
      cases q : fanOkBy refCmp ks ps with
      | false =>
        rw [q] at c1
        have d1 := acall Try.func72 (c1) (by decide +kernel) (by decide +kernel)
        refine wI ?_
        exact fin ⟨res_of rfl rfl rfl, trivial⟩
      | true =>
        rw [q] at c1
        have d1 := acall Try.func72 (c1) (by decide +kernel) (by decide +kernel)
        have d2 := acall Try.func73 (c2) (by decide +kernel) (by decide +kernel)
        refine wI ?_
        exact fin ⟨res_of rfl rfl rfl, trivial⟩
    · rw [decide_eq_false c]
      refine wI ?_
      exact fin ⟨res_of rfl rfl rfl, trivial⟩
set_option maxRecDepth 100000 in
set_option maxHeartbeats 4000000 in
theorem a_ref09bytes (n : Nd) (h : n.Sm) (hb : n.leaf = true → EBd n.es) : AFn Try.prog 48 [n.av] (intA (ndBytes n)) := by
  obtain ⟨lf, es, ks, ps, ms⟩ := n
  dsimp only [Nd.av]
  refine AFn_intro Try.func48 rfl Try.ntmps48 rfl (by simp) [_] rfl fun E hE => ?_
  cases lf with
  | true =>
    have d1 := acall Try.func52 (a_ref07bytes es (hb rfl) h.es) (by decide +kernel) (by decide +kernel)
    refine wI ?_
    exact fin ⟨res_of rfl rfl rfl, trivial⟩
  | false =>
    have d1 := acall Try.func56 (a_ref06bytes ms h.ms) (by decide +kernel) (by decide +kernel)
    refine wI ?_
    exact fin ⟨res_of rfl rfl rfl, trivial⟩
end Go.Proofs.Ytcmdhpinelnclaa

namespace Go.Proofs.Ytcmdhpinelnclaa
open Go Go.RowKit
set_option linter.unusedVariables false
set_option linter.unusedSimpArgs false
set_option maxRecDepth 100000

attribute [local irreducible] OpOK AWops AW CondB Go2 AFn thenA inBlockA noGotoA orderOk wantedA
set_option maxRecDepth 100000 in
set_option maxHeartbeats 4000000 in
theorem a_ref09fits (n : Nd) (h : n.Sm) : AFn Try.prog 21 [n.av] (boolA (nodeFits n)) := by
  have k1 := a_ref09check n h
  have k2 := fun hb => a_ref09bytes n h hb
  have hq := @nodeOk_ebd n
  obtain ⟨lf, es, ks, ps, ms⟩ := n
  dsimp only [Nd.av] at k1 k2 ⊢
  refine AFn_intro Try.func21 rfl Try.ntmps21 rfl (by simp) [_] rfl fun E hE => ?_
  have hnt : (!true) = false := rfl
  have hnf : (!false) = true := rfl
  cases q : nodeOk keyCmp ⟨lf, es, ks, ps, ms⟩ with
  | false =>
    rw [q] at k1
    have d1 := acall Try.func47 (k1) (by decide +kernel) (by decide +kernel)
    rw [show nodeFits ⟨lf, es, ks, ps, ms⟩ = false from by unfold nodeFits; rw [q]; rfl]
    refine wI ?_
    exact fin ⟨res_of rfl rfl rfl, trivial⟩
  | true =>
    have k3 := k2 (hq q)
    clear k2 hq
    rw [q] at k1
    have d1 := acall Try.func47 (k1) (by decide +kernel) (by decide +kernel)
    cases lf with
    | true =>
      rw [show ndBytes ⟨true, es, ks, ps, ms⟩ = eSum es from rfl] at k3
      rw [show nodeFits ⟨true, es, ks, ps, ms⟩ = decide (eSum es ≤ 248) from by unfold nodeFits; rw [q]; rfl]
      generalize eSum es = B at k3 ⊢
      have d2 := acall Try.func48 (k3) (by decide +kernel) (by decide +kernel)
      by_cases c : B ≤ 248
      · rw [decide_eq_true c]
        refine wI ?_
        exact fin ⟨res_of rfl rfl rfl, trivial⟩
      · rw [decide_eq_false c]
        refine wI ?_
        exact fin ⟨res_of rfl rfl rfl, trivial⟩
    | false =>
      rw [show ndBytes ⟨false, es, ks, ps, ms⟩ = bSum ms from rfl] at k3
      rw [show nodeFits ⟨false, es, ks, ps, ms⟩ = decide (bSum ms ≤ 205) from by unfold nodeFits; rw [q]; rfl]
      generalize bSum ms = B at k3 ⊢
      have d2 := acall Try.func48 (k3) (by decide +kernel) (by decide +kernel)
      refine wI ?_
      exact fin ⟨res_of rfl rfl rfl, trivial⟩
end Go.Proofs.Ytcmdhpinelnclaa

namespace Go.Proofs.Ytcmdhpinelnclaa
open Go Go.RowKit
set_option linter.unusedVariables false
set_option linter.unusedSimpArgs false
set_option maxRecDepth 100000

/-- what Encode tells -/
noncomputable def encode (n : Nd) : List (BitVec 8) × Int := if nodeFits n = true then (encB n, 0) else ([], 4)
theorem fits_sm {n : Nd} (h : nodeFits n = true) : n.Sm := by
  obtain ⟨_, _, _, h1, h2, h3, h4⟩ := fits_ndr h
  exact ⟨by omega, by omega, by omega, by omega⟩
attribute [local irreducible] OpOK AWops AW CondB Go2 AFn thenA inBlockA noGotoA orderOk wantedA
set_option maxRecDepth 100000 in
set_option maxHeartbeats 8000000 in
theorem a_cencode (n : Nd) (h : n.Sm) : AFn Try.prog 18 [n.av] (.tup [bytesA (encode n).1, intA (encode n).2]) := by
  have c0 := a_nodefits n h
  cases hf : nodeFits n with
  | false =>
    rw [hf] at c0
    unfold encode
    rw [hf, if_neg (by simp)]
    refine AFn_intro Try.func18 rfl Try.ntmps18 rfl (by simp) [_, _] rfl fun E hE => ?_; have hnt : (!true) = false := rfl; have hnf : (!false) = true := rfl
    have d0 := acall Try.func44 (c0) (by decide +kernel) (by decide +kernel)
    refine wY ?_
    exact fin ⟨res_nil rfl, res_of rfl rfl rfl, trivial⟩
  | true =>
    rw [hf] at c0
    have hr := fits_ndr hf
    have hb := body_len hf
    have hrl := rawB_len hf
    have e1 : (encode n).1 = encB n := by unfold encode; rw [if_pos hf]
    have e2 : (encode n).2 = 0 := by unfold encode; rw [if_pos hf]
    rw [e1, e2]
    clear e1 e2
    have c1 := c_cput (headB n ++ List.replicate 4 0#8) n (by simp [headB_len]) hr
    have e3 : headB n ++ List.replicate 4 0#8 ++ bodyB n ++ List.replicate (256 - ((headB n ++ List.replicate 4 0#8 ++ bodyB n).length : Int)).toNat 0#8 = rawB n := by
      unfold rawB
      congr 2
      simp only [List.length_append, headB_len, List.length_replicate]
      omega
    have hl3 : (headB n ++ List.replicate 4 0#8 ++ bodyB n).length = 8 + (bodyB n).length := by simp only [List.length_append, headB_len, List.length_replicate]
    have c2 := c_csum (rawB n)
    have hhl := headB_len n
    have hel : (encB n).length = (rawB n).length := by rw [encB_len hf, hrl]
    have hs4 := sum4_len (rawB n)
    unfold sum4 at hs4
    cases hlf : n.leaf with
    | true =>
      have eh : headB n = [1#8, BitVec.ofInt 8 (n.es.length : Nat), BitVec.ofInt 8 (n.ms.length : Nat), 0#8] := by unfold headB manyB; rw [hlf, if_pos rfl, if_pos rfl]
      obtain ⟨leaf, es, ks, ps, ms⟩ := n
      obtain rfl : leaf = true := hlf
      dsimp only at eh
      refine AFn_intro Try.func18 rfl Try.ntmps18 rfl (by simp) [_, _] rfl fun E hE => ?_; have hnt : (!true) = false := rfl; have hnf : (!false) = true := rfl
      have d0 := acall Try.func44 (c0) (by decide +kernel) (by decide +kernel)
      have d1 := ccall Try.func45 (c1) (by decide +kernel) (by decide +kernel)
      have d2 := ccall Try.func27 (c2) (by decide +kernel) (by decide +kernel)
      refine wZ ?_
      (apply Wb; (focus (exact ob_bsl (f := byteA) (z := 0#8) [1#8, BitVec.ofInt 8 (es.length : Nat), BitVec.ofInt 8 (ms.length : Nat), 0#8] rfl rfl rfl rfl (by simp only [List.map_cons, List.map_nil, byte0, byte1, byte2]; exact rfl) (by exact rfl) (by intro H'; simp only [List.map_cons, List.map_nil]; (repeat (first | exact wkl0 | refine wkd rfl ?_ | refine wkt ?_ | refine wkn ?_)); done) (by exact rfl) (by exact rfl) (by exact rfl))); (focus (first | exact want_n | exact want_g rfl (by with_reducible rfl))))
      rw [← eh]
      refine wY ?_
      (apply WcN [25] [25]; (focus (exact o_ccall [(1000, 25)] d1 rfl rfl rfl rfl (by repeat (first | exact .nil | refine .cons (.inl ⟨rfl, rfl⟩) ?_ | refine .cons (.inr ⟨rfl, fun _ => Wk.tok⟩) ?_)) (by repeat' (first | exact True.intro | rfl | apply And.intro)) (by repeat' (first | exact True.intro | rfl | apply And.intro)) rfl rfl rfl)); (focus (exact rfl)); (focus (exact rfl)); (focus (first | exact want_n | exact want_g rfl (by with_reducible rfl))))
      refine wY ?_
      rw [e3]
      (apply WvN [25]; (focus (exact o_rcall [(1000, 25)] d2 rfl rfl rfl rfl rfl (by repeat (first | exact .nil | refine .cons (.inl ⟨rfl, rfl⟩) ?_ | refine .cons (.inr ⟨rfl, fun _ => Wk.tok⟩) ?_)) (by repeat' (first | exact True.intro | rfl | apply And.intro)) (by repeat' (first | exact True.intro | rfl | apply And.intro)) rfl rfl)); (focus (exact rfl)); (focus (first | exact want_n | exact want_g rfl (by with_reducible rfl))))
      refine wRG ?_
      refine thenA_n ?_
      refine AW_go (S' := ⟨[(6, .own 25 1 (encB ⟨true, es, ks, ps, ms⟩).length .row)], [(25, .own 5 1 ((encB ⟨true, es, ks, ps, ms⟩).map byteA))]⟩) (by rw [hel]; (refine Go2.sub ⟨?_, ?_, ?_⟩ <;> repeat' (first | exact True.intro | rfl | apply And.intro))) ?_; refine AW_go (Go2.thaw (S' := ⟨[(6, .sl (some 25) 1 ((encB ⟨true, es, ks, ps, ms⟩).map byteA))], [(25, .tail 5 1 ((encB ⟨true, es, ks, ps, ms⟩).map byteA).length)]⟩) 25 rfl (by repeat' (first | exact True.intro | rfl | apply And.intro | (simp; done))) (by repeat' (first | exact True.intro | rfl | apply And.intro | (simp; done))) rfl) ?_
      refine wY ?_
      exact fin ⟨res_sl rfl, res_of rfl rfl rfl, trivial⟩
    | false =>
      have eh : headB n = [2#8, BitVec.ofInt 8 (n.ks.length : Nat), BitVec.ofInt 8 (n.ms.length : Nat), 0#8] := by unfold headB manyB; rw [hlf, if_neg (by simp), if_neg (by simp)]
      obtain ⟨leaf, es, ks, ps, ms⟩ := n
      obtain rfl : leaf = false := hlf
      dsimp only at eh
      refine AFn_intro Try.func18 rfl Try.ntmps18 rfl (by simp) [_, _] rfl fun E hE => ?_; have hnt : (!true) = false := rfl; have hnf : (!false) = true := rfl
      have d0 := acall Try.func44 (c0) (by decide +kernel) (by decide +kernel)
      have d1 := ccall Try.func45 (c1) (by decide +kernel) (by decide +kernel)
      have d2 := ccall Try.func27 (c2) (by decide +kernel) (by decide +kernel)
      refine wZ ?_
      (apply Wb; (focus (exact ob_bsl (f := byteA) (z := 0#8) [2#8, BitVec.ofInt 8 (ks.length : Nat), BitVec.ofInt 8 (ms.length : Nat), 0#8] rfl rfl rfl rfl (by simp only [List.map_cons, List.map_nil, byte0, byte1, byte2]; exact rfl) (by exact rfl) (by intro H'; simp only [List.map_cons, List.map_nil]; (repeat (first | exact wkl0 | refine wkd rfl ?_ | refine wkt ?_ | refine wkn ?_)); done) (by exact rfl) (by exact rfl) (by exact rfl))); (focus (first | exact want_n | exact want_g rfl (by with_reducible rfl))))
      rw [← eh]
      refine wY ?_
      (apply WcN [25] [25]; (focus (exact o_ccall [(1000, 25)] d1 rfl rfl rfl rfl (by repeat (first | exact .nil | refine .cons (.inl ⟨rfl, rfl⟩) ?_ | refine .cons (.inr ⟨rfl, fun _ => Wk.tok⟩) ?_)) (by repeat' (first | exact True.intro | rfl | apply And.intro)) (by repeat' (first | exact True.intro | rfl | apply And.intro)) rfl rfl rfl)); (focus (exact rfl)); (focus (exact rfl)); (focus (first | exact want_n | exact want_g rfl (by with_reducible rfl))))
      refine wY ?_
      rw [e3]
      (apply WvN [25]; (focus (exact o_rcall [(1000, 25)] d2 rfl rfl rfl rfl rfl (by repeat (first | exact .nil | refine .cons (.inl ⟨rfl, rfl⟩) ?_ | refine .cons (.inr ⟨rfl, fun _ => Wk.tok⟩) ?_)) (by repeat' (first | exact True.intro | rfl | apply And.intro)) (by repeat' (first | exact True.intro | rfl | apply And.intro)) rfl rfl)); (focus (exact rfl)); (focus (first | exact want_n | exact want_g rfl (by with_reducible rfl))))
      refine wRG ?_
      refine thenA_n ?_
      refine AW_go (S' := ⟨[(6, .own 25 1 (encB ⟨false, es, ks, ps, ms⟩).length .row)], [(25, .own 5 1 ((encB ⟨false, es, ks, ps, ms⟩).map byteA))]⟩) (by rw [hel]; (refine Go2.sub ⟨?_, ?_, ?_⟩ <;> repeat' (first | exact True.intro | rfl | apply And.intro))) ?_; refine AW_go (Go2.thaw (S' := ⟨[(6, .sl (some 25) 1 ((encB ⟨false, es, ks, ps, ms⟩).map byteA))], [(25, .tail 5 1 ((encB ⟨false, es, ks, ps, ms⟩).map byteA).length)]⟩) 25 rfl (by repeat' (first | exact True.intro | rfl | apply And.intro | (simp; done))) (by repeat' (first | exact True.intro | rfl | apply And.intro | (simp; done))) rfl) ?_
      refine wY ?_
      exact fin ⟨res_sl rfl, res_of rfl rfl rfl, trivial⟩
end Go.Proofs.Ytcmdhpinelnclaa

namespace Go.Proofs.Ytcmdhpinelnclaa
open Go Go.RowKit
set_option linter.unusedVariables false
set_option linter.unusedSimpArgs false
set_option maxRecDepth 100000

theorem put4_nil {α : Type} (xs : List α) (off : Nat) : put4 xs off [] = xs := by simp [put4]
theorem put4_set {α : Type} (xs : List α) (off : Nat) (s : List α) (j : Nat) (h : j < s.length) (hf : off + s.length ≤ xs.length) : put4 xs off (s.take (j + 1)) = (put4 xs off (s.take j)).set (off + j) s[j] := by
  apply List.ext_getElem?
  intro k
  have l1 : (s.take j).length = j := by rw [List.length_take]; omega
  have l2 : (s.take (j + 1)).length = j + 1 := by rw [List.length_take]; omega
  have l3 : (xs.take off).length = off := by rw [List.length_take]; omega
  have hp := put4_len xs off (s.take j) (by omega)
  rw [List.getElem?_set]
  unfold put4 at hp ⊢
  by_cases c1 : k < off
  · rw [if_neg (by omega), List.getElem?_append_left (by omega), List.getElem?_append_left (by omega)]
  · rw [List.getElem?_append_right (by omega), l3]
    by_cases c2 : off + j = k
    · subst c2
      rw [if_pos rfl, if_pos (by omega), List.getElem?_append_left (by omega), List.getElem?_take, if_pos (by omega)]
      rw [show off + j - off = j by omega]
      exact List.getElem?_eq_getElem h
    · rw [if_neg c2, show (xs.take off ++ (s.take j ++ xs.drop (off + (s.take j).length)))[k]? = (s.take j ++ xs.drop (off + (s.take j).length))[k - (xs.take off).length]? from List.getElem?_append_right (by omega), l3]
      by_cases c3 : k - off < j
      · rw [List.getElem?_append_left (by omega), List.getElem?_append_left (by omega), List.getElem?_take, List.getElem?_take, if_pos (by omega), if_pos (by omega)]
      · rw [List.getElem?_append_right (by omega), List.getElem?_append_right (by omega), List.getElem?_drop, List.getElem?_drop]
        congr 1
        omega
attribute [local irreducible] OpOK AWops AW CondB Go2 AFn thenA inBlockA noGotoA orderOk wantedA
set_option maxRecDepth 100000 in
set_option maxHeartbeats 16000000 in
theorem a_refencode (n : Nd) (h : n.Sm) : AFn Try.prog 20 [n.av] (.tup [bytesA (encode n).1, intA (encode n).2]) := by
  have c0 := a_ref09fits n h
  cases hf : nodeFits n with
  | false =>
    rw [hf] at c0
    unfold encode
    rw [hf, if_neg (by simp)]
    refine AFn_intro Try.func20 rfl Try.ntmps20 rfl (by simp) [_, _] rfl fun E hE => ?_; have hnt : (!true) = false := rfl; have hnf : (!false) = true := rfl
    have d0 := acall Try.func21 (c0) (by decide +kernel) (by decide +kernel)
    refine wY ?_
    exact fin ⟨res_nil rfl, res_of rfl rfl rfl, trivial⟩
  | true =>
    rw [hf] at c0
    have hn := fits_ndr hf
    have hb := body_len hf
    have hrl := rawB_len hf
    have e1 : (encode n).1 = encB n := by unfold encode; rw [if_pos hf]
    have e2 : (encode n).2 = 0 := by unfold encode; rw [if_pos hf]
    rw [e1, e2]
    clear e1 e2
    have hhl := headB_len n
    have hel : (encB n).length = (rawB n).length := by rw [encB_len hf, hrl]
    have c2 := c_refsum (rawB n)
    have c3 := a_refputnil ((sumL (rawB n)).setWidth 64) 4 (by omega) (by omega)
    obtain ⟨S4, hS4⟩ : ∃ S4, sum4 (rawB n) = S4 := ⟨_, rfl⟩
    have hs4 : S4.length = 4 := by rw [← hS4]; exact sum4_len _
    have hS4' : leBytes ((sumL (rawB n)).setWidth 64) 4 = S4 := hS4
    rw [hS4'] at c3
    have eE : put4 (rawB n) 4 S4 = encB n := by rw [← hS4]; rfl
    have eF : put4 (rawB n) 4 S4 = encB n := eE
    clear hS4 hS4'
    obtain ⟨leaf, es, ks, ps, ms⟩ := n
    obtain ⟨hes, hps, hms, hle, hlk, hlp, hlm⟩ := hn
    dsimp only at hes hps hms hle hlk hlp hlm
    obtain ⟨X0, hX0⟩ : ∃ X0, headB ⟨leaf, es, ks, ps, ms⟩ ++ List.replicate 4 0#8 = X0 := ⟨_, rfl⟩
    have x0 : X0.length = 8 := by rw [← hX0]; simp [headB_len]
    have e0 : X0 ++ bodyB ⟨leaf, es, ks, ps, ms⟩ = fl msgB (fl pivB (fl kidB (fl entB X0 es es.length) ks ks.length) ps ps.length) ms ms.length := by
      rw [fl_end, fl_end, fl_end, fl_end]; unfold bodyB; simp only [List.append_assoc]
    have b1 := fl_len entB X0 es (fun e he => entB_len (hes e he))
    generalize hX1 : fl entB X0 es es.length = X1 at e0
    have b1' : X1.length ≤ 1000 + 40 * 100000 := by have := b1 es.length; rw [hX1] at this; omega
    have b2 := fl_len kidB X1 ks (fun e he => by rw [kidB_len]; omega)
    generalize hX2 : fl kidB X1 ks ks.length = X2 at e0
    have b2' : X2.length ≤ 1000 + 80 * 100000 := by have := b2 ks.length; rw [hX2] at this; omega
    have b3 := fl_len pivB X2 ps (fun e he => pivB_len (hps e he))
    generalize hX3 : fl pivB X2 ps ps.length = X3 at e0
    have b3' : X3.length ≤ 1000 + 120 * 100000 := by have := b3 ps.length; rw [hX3] at this; omega
    have b4 := fl_len msgB X3 ms (fun e he => msgB_len (hms e he))
    generalize hX4 : fl msgB X3 ms ms.length = X4 at e0
    have x4 : X4.length = 8 + (bodyB ⟨leaf, es, ks, ps, ms⟩).length := by rw [← e0, List.length_append, x0]
    have eR : X4 ++ List.replicate (256 - X4.length) 0#8 = rawB ⟨leaf, es, ks, ps, ms⟩ := by
      rw [x4, ← e0, ← hX0]; unfold rawB; congr 2; omega
    generalize hRAW : rawB ⟨leaf, es, ks, ps, ms⟩ = RAW at *
    generalize hENC : encB ⟨leaf, es, ks, ps, ms⟩ = ENC at *
    cases leaf with
    | true =>
      have eh : X0 = [1#8, BitVec.ofInt 8 (es.length : Nat), BitVec.ofInt 8 (ms.length : Nat), 0#8, 0#8, 0#8, 0#8, 0#8] := by rw [← hX0]; rfl
      refine AFn_intro Try.func20 rfl Try.ntmps20 rfl (by simp) [_, _] rfl fun E hE => ?_; have hnt : (!true) = false := rfl; have hnf : (!false) = true := rfl
      have d0 := acall Try.func21 (c0) (by decide +kernel) (by decide +kernel)
      have dS := ccall Try.func37 (c2) (by decide +kernel) (by decide +kernel)
      have dP := acall Try.func43 (c3) (by decide +kernel) (by decide +kernel)
      refine wZ ?_
      (apply Wb; (focus (exact ob_bsl (f := byteA) (z := 0#8) [1#8, BitVec.ofInt 8 (es.length : Nat), BitVec.ofInt 8 (ms.length : Nat), 0#8, 0#8, 0#8, 0#8, 0#8] rfl rfl rfl rfl (by simp only [List.map_cons, List.map_nil, byte0, byte1, byte2]; exact rfl) (by exact rfl) (by intro H'; simp only [List.map_cons, List.map_nil]; (repeat (first | exact wkl0 | refine wkd rfl ?_ | refine wkt ?_ | refine wkn ?_)); done) (by exact rfl) (by exact rfl) (by exact rfl))); (focus (first | exact want_n | exact want_g rfl (by with_reducible rfl))))
      rw [← eh]
      refine wY ?_
      refine AW_loopI (fun j : Nat => ⟨[(1, .ptr 1 0 []), (6, .own 34 1 (fl entB X0 es j).length .row), (7, .v (.int .i64 (j : Nat)))], [(1, .var (Nd.av ⟨true, es, ks, ps, ms⟩)), (34, .own 5 1 ((fl entB X0 es j).map byteA))]⟩) (fun j => j ≤ es.length) (fun j => es.length - j) 0 (Nat.zero_le _) (by rw [fl_zero]; (refine Go2.sub ⟨?_, ?_, ?_⟩ <;> repeat' (first | exact True.intro | rfl | apply And.intro))) (fun j hj => ?_)
      by_cases hlt : j < es.length
      · have hlt' : (j : Int) < (es.length : Nat) := by omega
        have hr := hes es[j] (List.getElem_mem hlt)
        have hb := b1 j
        have hk := kyS_len hr.1
        have hv := vlS_len hr.2
        obtain ⟨⟨q1, q2⟩, q3, q4⟩ := hr
        have d0 := c_reftext (fl entB X0 es j) es[j].key.b.toList es[j].key.n (by omega) (by simp) q1 (by simp; omega)
        have d1 := c_reftext (fl entB X0 es j ++ [BitVec.ofInt 8 ((kyS es[j].key).length : Nat)] ++ kyS es[j].key) es[j].val.b.toList es[j].val.n (by simp only [List.length_append, List.length_singleton]; omega) (by simp) q3 (by simp; omega)
        have hs := fl_snoc entB X0 es j hlt
        rw [entB_split] at hs
        have d2 := ccall Try.func46 (d0) (by decide +kernel) (by decide +kernel)
        have d3 := ccall Try.func46 (d1) (by decide +kernel) (by decide +kernel)
        refine wRG ?_
        refine thenA_n ?_
        refine wRG ?_
        refine thenA_n ?_
        refine wRG ?_
        refine thenA_n ?_
        refine AW_go (Go2.frozB 8 rfl) ?_
        refine wY ?_
        (apply WcN [34] [34]; (focus (exact o_ccall [(1000, 34)] d2 rfl rfl rfl rfl (by repeat (first | exact .nil | refine .cons (.inl ⟨rfl, rfl⟩) ?_ | refine .cons (.inr ⟨rfl, fun _ => Wk.tok⟩) ?_)) (by repeat' (first | exact True.intro | rfl | apply And.intro)) (by repeat' (first | exact True.intro | rfl | apply And.intro)) rfl rfl rfl)); (focus (exact rfl)); (focus (exact rfl)); (focus (first | exact want_n | exact want_g rfl (by with_reducible rfl))))
        refine wY ?_
        (apply WcN [34] [34]; (focus (exact o_ccall [(1000, 34)] d3 rfl rfl rfl rfl (by repeat (first | exact .nil | refine .cons (.inl ⟨rfl, rfl⟩) ?_ | refine .cons (.inr ⟨rfl, fun _ => Wk.tok⟩) ?_)) (by repeat' (first | exact True.intro | rfl | apply And.intro)) (by repeat' (first | exact True.intro | rfl | apply And.intro)) rfl rfl rfl)); (focus (exact rfl)); (focus (exact rfl)); (focus (first | exact want_n | exact want_g rfl (by with_reducible rfl))))
        refine wY ?_
        refine ⟨j + 1, by omega, by omega, ?_⟩
        rw [hs]
        (refine Go2.sub ⟨?_, ?_, ?_⟩ <;> repeat' (first | exact True.intro | rfl | apply And.intro))
      obtain rfl : j = es.length := by omega
      have hlt' : ¬ (es.length : Int) < (es.length : Nat) := by omega
      rw [hX1]
      refine wY ?_
      clear hlt hlt' hj
      refine AW_loopI (fun j : Nat => ⟨[(1, .ptr 1 0 []), (6, .own 34 1 (fl kidB X1 ks j).length .row), (9, .v (.int .i64 (j : Nat)))], [(1, .var (Nd.av ⟨true, es, ks, ps, ms⟩)), (34, .own 5 1 ((fl kidB X1 ks j).map byteA))]⟩) (fun j => j ≤ ks.length) (fun j => ks.length - j) 0 (Nat.zero_le _) (by rw [fl_zero]; (refine Go2.sub ⟨?_, ?_, ?_⟩ <;> repeat' (first | exact True.intro | rfl | apply And.intro))) (fun j hj => ?_)
      by_cases hlt : j < ks.length
      · have hlt' : (j : Int) < (ks.length : Nat) := by omega
        have hb := b2 j
        have d0 := c_refput (fl kidB X1 ks j) (BitVec.ofInt 64 ks[j]) 4 (by omega) (by omega) (by omega)
        have hs : fl kidB X1 ks (j + 1) = fl kidB X1 ks j ++ leBytes (BitVec.ofInt 64 ks[j]) 4 := fl_snoc kidB X1 ks j hlt
        have d2 := ccall Try.func43 (d0) (by decide +kernel) (by decide +kernel)
        refine wY ?_
        (apply WcN [34] [34]; (focus (exact o_ccall [(1000, 34)] d2 rfl rfl rfl rfl (by repeat (first | exact .nil | refine .cons (.inl ⟨rfl, rfl⟩) ?_ | refine .cons (.inr ⟨rfl, fun _ => Wk.tok⟩) ?_)) (by repeat' (first | exact True.intro | rfl | apply And.intro)) (by repeat' (first | exact True.intro | rfl | apply And.intro)) rfl rfl rfl)); (focus (exact rfl)); (focus (exact rfl)); (focus (first | exact want_n | exact want_g rfl (by with_reducible rfl))))
        refine wY ?_
        refine ⟨j + 1, by omega, by omega, ?_⟩
        rw [hs]
        (refine Go2.sub ⟨?_, ?_, ?_⟩ <;> repeat' (first | exact True.intro | rfl | apply And.intro))
      obtain rfl : j = ks.length := by omega
      have hlt' : ¬ (ks.length : Int) < (ks.length : Nat) := by omega
      rw [hX2]
      refine wY ?_
      clear hlt hlt' hj
      refine AW_loopI (fun j : Nat => ⟨[(1, .ptr 1 0 []), (6, .own 34 1 (fl pivB X2 ps j).length .row), (10, .v (.int .i64 (j : Nat)))], [(1, .var (Nd.av ⟨true, es, ks, ps, ms⟩)), (34, .own 5 1 ((fl pivB X2 ps j).map byteA))]⟩) (fun j => j ≤ ps.length) (fun j => ps.length - j) 0 (Nat.zero_le _) (by rw [fl_zero]; (refine Go2.sub ⟨?_, ?_, ?_⟩ <;> repeat' (first | exact True.intro | rfl | apply And.intro))) (fun j hj => ?_)
      by_cases hlt : j < ps.length
      · have hlt' : (j : Int) < (ps.length : Nat) := by omega
        have hr := hps ps[j] (List.getElem_mem hlt)
        have hb := b3 j
        have hk := kyS_len hr
        obtain ⟨q1, q2⟩ := hr
        have d0 := c_reftext (fl pivB X2 ps j) ps[j].b.toList ps[j].n (by omega) (by simp) q1 (by simp; omega)
        have hs := fl_snoc pivB X2 ps j hlt
        rw [pivB_split] at hs
        have d2 := ccall Try.func46 (d0) (by decide +kernel) (by decide +kernel)
        refine wY ?_
        (apply WcN [34] [34]; (focus (exact o_ccall [(1000, 34)] d2 rfl rfl rfl rfl (by repeat (first | exact .nil | refine .cons (.inl ⟨rfl, rfl⟩) ?_ | refine .cons (.inr ⟨rfl, fun _ => Wk.tok⟩) ?_)) (by repeat' (first | exact True.intro | rfl | apply And.intro)) (by repeat' (first | exact True.intro | rfl | apply And.intro)) rfl rfl rfl)); (focus (exact rfl)); (focus (exact rfl)); (focus (first | exact want_n | exact want_g rfl (by with_reducible rfl))))
        refine wY ?_
        refine ⟨j + 1, by omega, by omega, ?_⟩
        rw [hs]
        (refine Go2.sub ⟨?_, ?_, ?_⟩ <;> repeat' (first | exact True.intro | rfl | apply And.intro))
      obtain rfl : j = ps.length := by omega
      have hlt' : ¬ (ps.length : Int) < (ps.length : Nat) := by omega
      rw [hX3]
      refine wY ?_
      clear hlt hlt' hj
      refine AW_loopI (fun j : Nat => ⟨[(1, .ptr 1 0 []), (6, .own 34 1 (fl msgB X3 ms j).length .row), (11, .v (.int .i64 (j : Nat)))], [(1, .var (Nd.av ⟨true, es, ks, ps, ms⟩)), (34, .own 5 1 ((fl msgB X3 ms j).map byteA))]⟩) (fun j => j ≤ ms.length) (fun j => ms.length - j) 0 (Nat.zero_le _) (by rw [fl_zero]; (refine Go2.sub ⟨?_, ?_, ?_⟩ <;> repeat' (first | exact True.intro | rfl | apply And.intro))) (fun j hj => ?_)
      by_cases hlt : j < ms.length
      · have hlt' : (j : Int) < (ms.length : Nat) := by omega
        have hr := hms ms[j] (List.getElem_mem hlt)
        have hb := b4 j
        have hk := kyS_len hr.1
        have hv := vlS_len hr.2
        obtain ⟨⟨q1, q2⟩, q3, q4⟩ := hr
        have d0 := c_refput (fl msgB X3 ms j ++ [BitVec.ofInt 8 ms[j].kind]) ms[j].seq 8 (by simp only [List.length_append, List.length_singleton]; omega) (by omega) (by omega)
        have d1 := c_reftext (fl msgB X3 ms j ++ [BitVec.ofInt 8 ms[j].kind] ++ leBytes ms[j].seq 8) ms[j].key.b.toList ms[j].key.n (by simp only [List.length_append, List.length_singleton, leBytes_length]; omega) (by simp) q1 (by simp; omega)
        have hs := fl_snoc msgB X3 ms j hlt
        rw [msgB_split] at hs
        obtain ⟨Y, hY⟩ : ∃ Y, fl msgB X3 ms j ++ [BitVec.ofInt 8 ms[j].kind] ++ leBytes ms[j].seq 8 ++ [BitVec.ofInt 8 ((kyS ms[j].key).length : Nat)] ++ kyS ms[j].key = Y := ⟨_, rfl⟩
        have hYl : Y.length ≤ 17000000 := by rw [← hY]; simp only [List.length_append, List.length_singleton, leBytes_length]; omega
        rw [hY] at hs
        have hY' : fl msgB X3 ms j ++ [BitVec.ofInt 8 ms[j].kind] ++ leBytes ms[j].seq 8 ++ [BitVec.ofInt 8 ((ms[j].key.b.toList.take ms[j].key.n.toNat).length : Nat)] ++ ms[j].key.b.toList.take ms[j].key.n.toNat = Y := hY
        rw [hY'] at d1
        clear hY hY'
        have d2 := ccall Try.func43 (d0) (by decide +kernel) (by decide +kernel)
        have d3 := ccall Try.func46 (d1) (by decide +kernel) (by decide +kernel)
        refine wRG ?_
        refine thenA_n ?_
        refine wRG ?_
        refine thenA_n ?_
        refine wRG ?_
        refine thenA_n ?_
        refine AW_go (Go2.frozB 12 rfl) ?_
        by_cases k1 : ms[j].kind = 1
        · have n3 : ¬ ms[j].kind = 3 := by omega
          have d4 := c_reftext Y ms[j].val.b.toList ms[j].val.n (by omega) (by simp) q3 (by simp; omega)
          have d5 := ccall Try.func46 (d4) (by decide +kernel) (by decide +kernel)
          refine wY ?_
          (apply WcN [34] [34]; (focus (exact o_ccall [(1000, 34)] d2 rfl rfl rfl rfl (by repeat (first | exact .nil | refine .cons (.inl ⟨rfl, rfl⟩) ?_ | refine .cons (.inr ⟨rfl, fun _ => Wk.tok⟩) ?_)) (by repeat' (first | exact True.intro | rfl | apply And.intro)) (by repeat' (first | exact True.intro | rfl | apply And.intro)) rfl rfl rfl)); (focus (exact rfl)); (focus (exact rfl)); (focus (first | exact want_n | exact want_g rfl (by with_reducible rfl))))
          refine wY ?_
          (apply WcN [34] [34]; (focus (exact o_ccall [(1000, 34)] d3 rfl rfl rfl rfl (by repeat (first | exact .nil | refine .cons (.inl ⟨rfl, rfl⟩) ?_ | refine .cons (.inr ⟨rfl, fun _ => Wk.tok⟩) ?_)) (by repeat' (first | exact True.intro | rfl | apply And.intro)) (by repeat' (first | exact True.intro | rfl | apply And.intro)) rfl rfl rfl)); (focus (exact rfl)); (focus (exact rfl)); (focus (first | exact want_n | exact want_g rfl (by with_reducible rfl))))
          refine wY ?_
          (apply WcN [34] [34]; (focus (exact o_ccall [(1000, 34)] d5 rfl rfl rfl rfl (by repeat (first | exact .nil | refine .cons (.inl ⟨rfl, rfl⟩) ?_ | refine .cons (.inr ⟨rfl, fun _ => Wk.tok⟩) ?_)) (by repeat' (first | exact True.intro | rfl | apply And.intro)) (by repeat' (first | exact True.intro | rfl | apply And.intro)) rfl rfl rfl)); (focus (exact rfl)); (focus (exact rfl)); (focus (first | exact want_n | exact want_g rfl (by with_reducible rfl))))
          refine wY ?_
          refine ⟨j + 1, by omega, by omega, ?_⟩
          have he : restB ms[j] = [BitVec.ofInt 8 ((vlS ms[j].val).length : Nat)] ++ vlS ms[j].val := by unfold restB tx; rw [if_pos k1]
          rw [hs, he, ← List.append_assoc Y]
          (refine Go2.sub ⟨?_, ?_, ?_⟩ <;> repeat' (first | exact True.intro | rfl | apply And.intro))
        · by_cases k3 : ms[j].kind = 3
          · have d4 := c_refput Y ms[j].add 8 (by omega) (by omega) (by omega)
            have d5 := ccall Try.func43 (d4) (by decide +kernel) (by decide +kernel)
            refine wY ?_
            (apply WcN [34] [34]; (focus (exact o_ccall [(1000, 34)] d2 rfl rfl rfl rfl (by repeat (first | exact .nil | refine .cons (.inl ⟨rfl, rfl⟩) ?_ | refine .cons (.inr ⟨rfl, fun _ => Wk.tok⟩) ?_)) (by repeat' (first | exact True.intro | rfl | apply And.intro)) (by repeat' (first | exact True.intro | rfl | apply And.intro)) rfl rfl rfl)); (focus (exact rfl)); (focus (exact rfl)); (focus (first | exact want_n | exact want_g rfl (by with_reducible rfl))))
            refine wY ?_
            (apply WcN [34] [34]; (focus (exact o_ccall [(1000, 34)] d3 rfl rfl rfl rfl (by repeat (first | exact .nil | refine .cons (.inl ⟨rfl, rfl⟩) ?_ | refine .cons (.inr ⟨rfl, fun _ => Wk.tok⟩) ?_)) (by repeat' (first | exact True.intro | rfl | apply And.intro)) (by repeat' (first | exact True.intro | rfl | apply And.intro)) rfl rfl rfl)); (focus (exact rfl)); (focus (exact rfl)); (focus (first | exact want_n | exact want_g rfl (by with_reducible rfl))))
            refine wY ?_
            (apply WcN [34] [34]; (focus (exact o_ccall [(1000, 34)] d5 rfl rfl rfl rfl (by repeat (first | exact .nil | refine .cons (.inl ⟨rfl, rfl⟩) ?_ | refine .cons (.inr ⟨rfl, fun _ => Wk.tok⟩) ?_)) (by repeat' (first | exact True.intro | rfl | apply And.intro)) (by repeat' (first | exact True.intro | rfl | apply And.intro)) rfl rfl rfl)); (focus (exact rfl)); (focus (exact rfl)); (focus (first | exact want_n | exact want_g rfl (by with_reducible rfl))))
            refine wY ?_
            refine ⟨j + 1, by omega, by omega, ?_⟩
            have he : restB ms[j] = leBytes ms[j].add 8 := by unfold restB; rw [if_neg k1, if_pos k3]
            rw [hs, he]
            (refine Go2.sub ⟨?_, ?_, ?_⟩ <;> repeat' (first | exact True.intro | rfl | apply And.intro))
          · refine wY ?_
            (apply WcN [34] [34]; (focus (exact o_ccall [(1000, 34)] d2 rfl rfl rfl rfl (by repeat (first | exact .nil | refine .cons (.inl ⟨rfl, rfl⟩) ?_ | refine .cons (.inr ⟨rfl, fun _ => Wk.tok⟩) ?_)) (by repeat' (first | exact True.intro | rfl | apply And.intro)) (by repeat' (first | exact True.intro | rfl | apply And.intro)) rfl rfl rfl)); (focus (exact rfl)); (focus (exact rfl)); (focus (first | exact want_n | exact want_g rfl (by with_reducible rfl))))
            refine wY ?_
            (apply WcN [34] [34]; (focus (exact o_ccall [(1000, 34)] d3 rfl rfl rfl rfl (by repeat (first | exact .nil | refine .cons (.inl ⟨rfl, rfl⟩) ?_ | refine .cons (.inr ⟨rfl, fun _ => Wk.tok⟩) ?_)) (by repeat' (first | exact True.intro | rfl | apply And.intro)) (by repeat' (first | exact True.intro | rfl | apply And.intro)) rfl rfl rfl)); (focus (exact rfl)); (focus (exact rfl)); (focus (first | exact want_n | exact want_g rfl (by with_reducible rfl))))
            refine wY ?_
            refine ⟨j + 1, by omega, by omega, ?_⟩
            have he : restB ms[j] = [] := by unfold restB; rw [if_neg k1, if_neg k3]
            rw [hs, he, List.append_nil]
            (refine Go2.sub ⟨?_, ?_, ?_⟩ <;> repeat' (first | exact True.intro | rfl | apply And.intro))
      obtain rfl : j = ms.length := by omega
      have hlt' : ¬ (ms.length : Int) < (ms.length : Nat) := by omega
      rw [hX4]
      refine wY ?_
      clear hlt hlt' hj
      refine AW_loopI (fun j : Nat => ⟨[(1, .ptr 1 0 []), (6, .own 34 1 (X4 ++ List.replicate j 0#8).length .row)], [(1, .var (Nd.av ⟨true, es, ks, ps, ms⟩)), (34, .own 5 1 ((X4 ++ List.replicate j 0#8).map byteA))]⟩) (fun j => j ≤ 256 - X4.length) (fun j => 256 - X4.length - j) 0 (Nat.zero_le _) (by rw [List.replicate_zero, List.append_nil]; (refine Go2.sub ⟨?_, ?_, ?_⟩ <;> repeat' (first | exact True.intro | rfl | apply And.intro))) (fun j hj => ?_)
      have hjl : (X4 ++ List.replicate j 0#8).length = X4.length + j := by rw [List.length_append, List.length_replicate]
      by_cases hlt : j < 256 - X4.length
      · have hlt' : ((X4 ++ List.replicate j 0#8).length : Int) < 256 := by omega
        have hs : X4 ++ List.replicate (j + 1) 0#8 = X4 ++ List.replicate j 0#8 ++ [0#8] := by rw [List.replicate_succ', List.append_assoc]
        refine wY ?_
        refine ⟨j + 1, by omega, by omega, ?_⟩
        rw [hs]
        (refine Go2.sub ⟨?_, ?_, ?_⟩ <;> repeat' (first | exact True.intro | rfl | apply And.intro))
      obtain rfl : j = 256 - X4.length := by omega
      have hlt' : ¬ ((X4 ++ List.replicate (256 - X4.length) 0#8).length : Int) < 256 := by omega
      rw [eR] at hlt' ⊢
      refine wY ?_
      clear hlt hlt' hj hjl
      (apply WvN [34]; (focus (exact o_rcall [(1000, 34)] dS rfl rfl rfl rfl rfl (by repeat (first | exact .nil | refine .cons (.inl ⟨rfl, rfl⟩) ?_ | refine .cons (.inr ⟨rfl, fun _ => Wk.tok⟩) ?_)) (by repeat' (first | exact True.intro | rfl | apply And.intro)) (by repeat' (first | exact True.intro | rfl | apply And.intro)) rfl rfl)); (focus (exact rfl)); (focus (first | exact want_n | exact want_g rfl (by with_reducible rfl))))
      refine wY ?_
      refine AW_loopI (fun j : Nat => ⟨[(6, .own 34 1 RAW.length .row), (13, bytesA S4), (14, .v (.int .i64 (j : Nat)))], [(34, .own 5 1 ((put4 RAW 4 (S4.take j)).map byteA))]⟩) (fun j => j ≤ 4) (fun j => 4 - j) 0 (Nat.zero_le _) (by rw [List.take_zero, put4_nil]; (refine Go2.sub ⟨?_, ?_, ?_⟩ <;> repeat' (first | exact True.intro | rfl | apply And.intro))) (fun j hj => ?_)
      have hpl : (put4 RAW 4 (S4.take j)).length = RAW.length := put4_len _ _ _ (by rw [List.length_take]; omega)
      by_cases hlt : j < 4
      · have hlt' : (j : Int) < 4 := by omega
        have hj4 : j < S4.length := by omega
        have hs := put4_set RAW 4 S4 j hj4 (by omega)
        refine wY ?_
        refine ⟨j + 1, by omega, by omega, ?_⟩
        rw [hs]
        (refine Go2.sub ⟨?_, ?_, ?_⟩ <;> repeat' (first | exact True.intro | rfl | apply And.intro))
      obtain rfl : j = 4 := by omega
      have hlt' : ¬ (((4 : Nat) : Int) < 4) := by omega
      rw [List.take_of_length_le (by omega)]
      rw [List.take_of_length_le (by omega)] at hpl
      refine wRG ?_
      refine thenA_n ?_
      refine AW_go (S' := ⟨[(6, .own 34 1 (put4 RAW 4 S4).length .row), (158, .v (.bool (decide (((4 : Nat) : Int) < 4))))], [(34, .own 5 1 ((put4 RAW 4 S4).map byteA))]⟩) (by rw [hpl]; (refine Go2.sub ⟨?_, ?_, ?_⟩ <;> repeat' (first | exact True.intro | rfl | apply And.intro))) ?_
      refine AW_go (Go2.thaw (S' := ⟨[(6, .sl (some 34) 1 ((put4 RAW 4 S4).map byteA)), (158, .v (.bool (decide (((4 : Nat) : Int) < 4))))], [(34, .tail 5 1 ((put4 RAW 4 S4).map byteA).length)]⟩) 34 rfl (by repeat' (first | exact True.intro | rfl | apply And.intro | (simp; done))) (by repeat' (first | exact True.intro | rfl | apply And.intro | (simp; done))) rfl) ?_
      rw [eE]
      refine wY ?_
      exact fin ⟨res_sl rfl, res_of rfl rfl rfl, trivial⟩
    | false =>
      have eh : X0 = [2#8, BitVec.ofInt 8 (ks.length : Nat), BitVec.ofInt 8 (ms.length : Nat), 0#8, 0#8, 0#8, 0#8, 0#8] := by rw [← hX0]; rfl
      refine AFn_intro Try.func20 rfl Try.ntmps20 rfl (by simp) [_, _] rfl fun E hE => ?_; have hnt : (!true) = false := rfl; have hnf : (!false) = true := rfl
      have d0 := acall Try.func21 (c0) (by decide +kernel) (by decide +kernel)
      have dS := ccall Try.func37 (c2) (by decide +kernel) (by decide +kernel)
      have dP := acall Try.func43 (c3) (by decide +kernel) (by decide +kernel)
      refine wZ ?_
      (apply Wb; (focus (exact ob_bsl (f := byteA) (z := 0#8) [2#8, BitVec.ofInt 8 (ks.length : Nat), BitVec.ofInt 8 (ms.length : Nat), 0#8, 0#8, 0#8, 0#8, 0#8] rfl rfl rfl rfl (by simp only [List.map_cons, List.map_nil, byte0, byte1, byte2]; exact rfl) (by exact rfl) (by intro H'; simp only [List.map_cons, List.map_nil]; (repeat (first | exact wkl0 | refine wkd rfl ?_ | refine wkt ?_ | refine wkn ?_)); done) (by exact rfl) (by exact rfl) (by exact rfl))); (focus (first | exact want_n | exact want_g rfl (by with_reducible rfl))))
      rw [← eh]
      refine wY ?_
      refine AW_loopI (fun j : Nat => ⟨[(1, .ptr 1 0 []), (6, .own 34 1 (fl entB X0 es j).length .row), (7, .v (.int .i64 (j : Nat)))], [(1, .var (Nd.av ⟨false, es, ks, ps, ms⟩)), (34, .own 5 1 ((fl entB X0 es j).map byteA))]⟩) (fun j => j ≤ es.length) (fun j => es.length - j) 0 (Nat.zero_le _) (by rw [fl_zero]; (refine Go2.sub ⟨?_, ?_, ?_⟩ <;> repeat' (first | exact True.intro | rfl | apply And.intro))) (fun j hj => ?_)
      by_cases hlt : j < es.length
      · have hlt' : (j : Int) < (es.length : Nat) := by omega
        have hr := hes es[j] (List.getElem_mem hlt)
        have hb := b1 j
        have hk := kyS_len hr.1
        have hv := vlS_len hr.2
        obtain ⟨⟨q1, q2⟩, q3, q4⟩ := hr
        have d0 := c_reftext (fl entB X0 es j) es[j].key.b.toList es[j].key.n (by omega) (by simp) q1 (by simp; omega)
        have d1 := c_reftext (fl entB X0 es j ++ [BitVec.ofInt 8 ((kyS es[j].key).length : Nat)] ++ kyS es[j].key) es[j].val.b.toList es[j].val.n (by simp only [List.length_append, List.length_singleton]; omega) (by simp) q3 (by simp; omega)
        have hs := fl_snoc entB X0 es j hlt
        rw [entB_split] at hs
        have d2 := ccall Try.func46 (d0) (by decide +kernel) (by decide +kernel)
        have d3 := ccall Try.func46 (d1) (by decide +kernel) (by decide +kernel)
        refine wRG ?_
        refine thenA_n ?_
        refine wRG ?_
        refine thenA_n ?_
        refine wRG ?_
        refine thenA_n ?_
        refine AW_go (Go2.frozB 8 rfl) ?_
        refine wY ?_
        (apply WcN [34] [34]; (focus (exact o_ccall [(1000, 34)] d2 rfl rfl rfl rfl (by repeat (first | exact .nil | refine .cons (.inl ⟨rfl, rfl⟩) ?_ | refine .cons (.inr ⟨rfl, fun _ => Wk.tok⟩) ?_)) (by repeat' (first | exact True.intro | rfl | apply And.intro)) (by repeat' (first | exact True.intro | rfl | apply And.intro)) rfl rfl rfl)); (focus (exact rfl)); (focus (exact rfl)); (focus (first | exact want_n | exact want_g rfl (by with_reducible rfl))))
        refine wY ?_
        (apply WcN [34] [34]; (focus (exact o_ccall [(1000, 34)] d3 rfl rfl rfl rfl (by repeat (first | exact .nil | refine .cons (.inl ⟨rfl, rfl⟩) ?_ | refine .cons (.inr ⟨rfl, fun _ => Wk.tok⟩) ?_)) (by repeat' (first | exact True.intro | rfl | apply And.intro)) (by repeat' (first | exact True.intro | rfl | apply And.intro)) rfl rfl rfl)); (focus (exact rfl)); (focus (exact rfl)); (focus (first | exact want_n | exact want_g rfl (by with_reducible rfl))))
        refine wY ?_
        refine ⟨j + 1, by omega, by omega, ?_⟩
        rw [hs]
        (refine Go2.sub ⟨?_, ?_, ?_⟩ <;> repeat' (first | exact True.intro | rfl | apply And.intro))
      obtain rfl : j = es.length := by omega
      have hlt' : ¬ (es.length : Int) < (es.length : Nat) := by omega
      rw [hX1]
      refine wY ?_
      clear hlt hlt' hj
      refine AW_loopI (fun j : Nat => ⟨[(1, .ptr 1 0 []), (6, .own 34 1 (fl kidB X1 ks j).length .row), (9, .v (.int .i64 (j : Nat)))], [(1, .var (Nd.av ⟨false, es, ks, ps, ms⟩)), (34, .own 5 1 ((fl kidB X1 ks j).map byteA))]⟩) (fun j => j ≤ ks.length) (fun j => ks.length - j) 0 (Nat.zero_le _) (by rw [fl_zero]; (refine Go2.sub ⟨?_, ?_, ?_⟩ <;> repeat' (first | exact True.intro | rfl | apply And.intro))) (fun j hj => ?_)
      by_cases hlt : j < ks.length
      · have hlt' : (j : Int) < (ks.length : Nat) := by omega
        have hb := b2 j
        have d0 := c_refput (fl kidB X1 ks j) (BitVec.ofInt 64 ks[j]) 4 (by omega) (by omega) (by omega)
        have hs : fl kidB X1 ks (j + 1) = fl kidB X1 ks j ++ leBytes (BitVec.ofInt 64 ks[j]) 4 := fl_snoc kidB X1 ks j hlt
        have d2 := ccall Try.func43 (d0) (by decide +kernel) (by decide +kernel)
        refine wY ?_
        (apply WcN [34] [34]; (focus (exact o_ccall [(1000, 34)] d2 rfl rfl rfl rfl (by repeat (first | exact .nil | refine .cons (.inl ⟨rfl, rfl⟩) ?_ | refine .cons (.inr ⟨rfl, fun _ => Wk.tok⟩) ?_)) (by repeat' (first | exact True.intro | rfl | apply And.intro)) (by repeat' (first | exact True.intro | rfl | apply And.intro)) rfl rfl rfl)); (focus (exact rfl)); (focus (exact rfl)); (focus (first | exact want_n | exact want_g rfl (by with_reducible rfl))))
        refine wY ?_
        refine ⟨j + 1, by omega, by omega, ?_⟩
        rw [hs]
        (refine Go2.sub ⟨?_, ?_, ?_⟩ <;> repeat' (first | exact True.intro | rfl | apply And.intro))
      obtain rfl : j = ks.length := by omega
      have hlt' : ¬ (ks.length : Int) < (ks.length : Nat) := by omega
      rw [hX2]
      refine wY ?_
      clear hlt hlt' hj
      refine AW_loopI (fun j : Nat => ⟨[(1, .ptr 1 0 []), (6, .own 34 1 (fl pivB X2 ps j).length .row), (10, .v (.int .i64 (j : Nat)))], [(1, .var (Nd.av ⟨false, es, ks, ps, ms⟩)), (34, .own 5 1 ((fl pivB X2 ps j).map byteA))]⟩) (fun j => j ≤ ps.length) (fun j => ps.length - j) 0 (Nat.zero_le _) (by rw [fl_zero]; (refine Go2.sub ⟨?_, ?_, ?_⟩ <;> repeat' (first | exact True.intro | rfl | apply And.intro))) (fun j hj => ?_)
      by_cases hlt : j < ps.length
      · have hlt' : (j : Int) < (ps.length : Nat) := by omega
        have hr := hps ps[j] (List.getElem_mem hlt)
        have hb := b3 j
        have hk := kyS_len hr
        obtain ⟨q1, q2⟩ := hr
        have d0 := c_reftext (fl pivB X2 ps j) ps[j].b.toList ps[j].n (by omega) (by simp) q1 (by simp; omega)
        have hs := fl_snoc pivB X2 ps j hlt
        rw [pivB_split] at hs
        have d2 := ccall Try.func46 (d0) (by decide +kernel) (by decide +kernel)
        refine wY ?_
        (apply WcN [34] [34]; (focus (exact o_ccall [(1000, 34)] d2 rfl rfl rfl rfl (by repeat (first | exact .nil | refine .cons (.inl ⟨rfl, rfl⟩) ?_ | refine .cons (.inr ⟨rfl, fun _ => Wk.tok⟩) ?_)) (by repeat' (first | exact True.intro | rfl | apply And.intro)) (by repeat' (first | exact True.intro | rfl | apply And.intro)) rfl rfl rfl)); (focus (exact rfl)); (focus (exact rfl)); (focus (first | exact want_n | exact want_g rfl (by with_reducible rfl))))
        refine wY ?_
        refine ⟨j + 1, by omega, by omega, ?_⟩
        rw [hs]
        (refine Go2.sub ⟨?_, ?_, ?_⟩ <;> repeat' (first | exact True.intro | rfl | apply And.intro))
      obtain rfl : j = ps.length := by omega
      have hlt' : ¬ (ps.length : Int) < (ps.length : Nat) := by omega
      rw [hX3]
      refine wY ?_
      clear hlt hlt' hj
      refine AW_loopI (fun j : Nat => ⟨[(1, .ptr 1 0 []), (6, .own 34 1 (fl msgB X3 ms j).length .row), (11, .v (.int .i64 (j : Nat)))], [(1, .var (Nd.av ⟨false, es, ks, ps, ms⟩)), (34, .own 5 1 ((fl msgB X3 ms j).map byteA))]⟩) (fun j => j ≤ ms.length) (fun j => ms.length - j) 0 (Nat.zero_le _) (by rw [fl_zero]; (refine Go2.sub ⟨?_, ?_, ?_⟩ <;> repeat' (first | exact True.intro | rfl | apply And.intro))) (fun j hj => ?_)
      by_cases hlt : j < ms.length
      · have hlt' : (j : Int) < (ms.length : Nat) := by omega
        have hr := hms ms[j] (List.getElem_mem hlt)
        have hb := b4 j
        have hk := kyS_len hr.1
        have hv := vlS_len hr.2
        obtain ⟨⟨q1, q2⟩, q3, q4⟩ := hr
        have d0 := c_refput (fl msgB X3 ms j ++ [BitVec.ofInt 8 ms[j].kind]) ms[j].seq 8 (by simp only [List.length_append, List.length_singleton]; omega) (by omega) (by omega)
        have d1 := c_reftext (fl msgB X3 ms j ++ [BitVec.ofInt 8 ms[j].kind] ++ leBytes ms[j].seq 8) ms[j].key.b.toList ms[j].key.n (by simp only [List.length_append, List.length_singleton, leBytes_length]; omega) (by simp) q1 (by simp; omega)
        have hs := fl_snoc msgB X3 ms j hlt
        rw [msgB_split] at hs
        obtain ⟨Y, hY⟩ : ∃ Y, fl msgB X3 ms j ++ [BitVec.ofInt 8 ms[j].kind] ++ leBytes ms[j].seq 8 ++ [BitVec.ofInt 8 ((kyS ms[j].key).length : Nat)] ++ kyS ms[j].key = Y := ⟨_, rfl⟩
        have hYl : Y.length ≤ 17000000 := by rw [← hY]; simp only [List.length_append, List.length_singleton, leBytes_length]; omega
        rw [hY] at hs
        have hY' : fl msgB X3 ms j ++ [BitVec.ofInt 8 ms[j].kind] ++ leBytes ms[j].seq 8 ++ [BitVec.ofInt 8 ((ms[j].key.b.toList.take ms[j].key.n.toNat).length : Nat)] ++ ms[j].key.b.toList.take ms[j].key.n.toNat = Y := hY
        rw [hY'] at d1
        clear hY hY'
        have d2 := ccall Try.func43 (d0) (by decide +kernel) (by decide +kernel)
        have d3 := ccall Try.func46 (d1) (by decide +kernel) (by decide +kernel)
        refine wRG ?_
        refine thenA_n ?_
        refine wRG ?_
        refine thenA_n ?_
        refine wRG ?_
        refine thenA_n ?_
        refine AW_go (Go2.frozB 12 rfl) ?_
        by_cases k1 : ms[j].kind = 1
        · have n3 : ¬ ms[j].kind = 3 := by omega
          have d4 := c_reftext Y ms[j].val.b.toList ms[j].val.n (by omega) (by simp) q3 (by simp; omega)
          have d5 := ccall Try.func46 (d4) (by decide +kernel) (by decide +kernel)
          refine wY ?_
          (apply WcN [34] [34]; (focus (exact o_ccall [(1000, 34)] d2 rfl rfl rfl rfl (by repeat (first | exact .nil | refine .cons (.inl ⟨rfl, rfl⟩) ?_ | refine .cons (.inr ⟨rfl, fun _ => Wk.tok⟩) ?_)) (by repeat' (first | exact True.intro | rfl | apply And.intro)) (by repeat' (first | exact True.intro | rfl | apply And.intro)) rfl rfl rfl)); (focus (exact rfl)); (focus (exact rfl)); (focus (first | exact want_n | exact want_g rfl (by with_reducible rfl))))
          refine wY ?_
          (apply WcN [34] [34]; (focus (exact o_ccall [(1000, 34)] d3 rfl rfl rfl rfl (by repeat (first | exact .nil | refine .cons (.inl ⟨rfl, rfl⟩) ?_ | refine .cons (.inr ⟨rfl, fun _ => Wk.tok⟩) ?_)) (by repeat' (first | exact True.intro | rfl | apply And.intro)) (by repeat' (first | exact True.intro | rfl | apply And.intro)) rfl rfl rfl)); (focus (exact rfl)); (focus (exact rfl)); (focus (first | exact want_n | exact want_g rfl (by with_reducible rfl))))
          refine wY ?_
          (apply WcN [34] [34]; (focus (exact o_ccall [(1000, 34)] d5 rfl rfl rfl rfl (by repeat (first | exact .nil | refine .cons (.inl ⟨rfl, rfl⟩) ?_ | refine .cons (.inr ⟨rfl, fun _ => Wk.tok⟩) ?_)) (by repeat' (first | exact True.intro | rfl | apply And.intro)) (by repeat' (first | exact True.intro | rfl | apply And.intro)) rfl rfl rfl)); (focus (exact rfl)); (focus (exact rfl)); (focus (first | exact want_n | exact want_g rfl (by with_reducible rfl))))
          refine wY ?_
          refine ⟨j + 1, by omega, by omega, ?_⟩
          have he : restB ms[j] = [BitVec.ofInt 8 ((vlS ms[j].val).length : Nat)] ++ vlS ms[j].val := by unfold restB tx; rw [if_pos k1]
          rw [hs, he, ← List.append_assoc Y]
          (refine Go2.sub ⟨?_, ?_, ?_⟩ <;> repeat' (first | exact True.intro | rfl | apply And.intro))
        · by_cases k3 : ms[j].kind = 3
          · have d4 := c_refput Y ms[j].add 8 (by omega) (by omega) (by omega)
            have d5 := ccall Try.func43 (d4) (by decide +kernel) (by decide +kernel)
            refine wY ?_
            (apply WcN [34] [34]; (focus (exact o_ccall [(1000, 34)] d2 rfl rfl rfl rfl (by repeat (first | exact .nil | refine .cons (.inl ⟨rfl, rfl⟩) ?_ | refine .cons (.inr ⟨rfl, fun _ => Wk.tok⟩) ?_)) (by repeat' (first | exact True.intro | rfl | apply And.intro)) (by repeat' (first | exact True.intro | rfl | apply And.intro)) rfl rfl rfl)); (focus (exact rfl)); (focus (exact rfl)); (focus (first | exact want_n | exact want_g rfl (by with_reducible rfl))))
            refine wY ?_
            (apply WcN [34] [34]; (focus (exact o_ccall [(1000, 34)] d3 rfl rfl rfl rfl (by repeat (first | exact .nil | refine .cons (.inl ⟨rfl, rfl⟩) ?_ | refine .cons (.inr ⟨rfl, fun _ => Wk.tok⟩) ?_)) (by repeat' (first | exact True.intro | rfl | apply And.intro)) (by repeat' (first | exact True.intro | rfl | apply And.intro)) rfl rfl rfl)); (focus (exact rfl)); (focus (exact rfl)); (focus (first | exact want_n | exact want_g rfl (by with_reducible rfl))))
            refine wY ?_
            (apply WcN [34] [34]; (focus (exact o_ccall [(1000, 34)] d5 rfl rfl rfl rfl (by repeat (first | exact .nil | refine .cons (.inl ⟨rfl, rfl⟩) ?_ | refine .cons (.inr ⟨rfl, fun _ => Wk.tok⟩) ?_)) (by repeat' (first | exact True.intro | rfl | apply And.intro)) (by repeat' (first | exact True.intro | rfl | apply And.intro)) rfl rfl rfl)); (focus (exact rfl)); (focus (exact rfl)); (focus (first | exact want_n | exact want_g rfl (by with_reducible rfl))))
            refine wY ?_
            refine ⟨j + 1, by omega, by omega, ?_⟩
            have he : restB ms[j] = leBytes ms[j].add 8 := by unfold restB; rw [if_neg k1, if_pos k3]
            rw [hs, he]
            (refine Go2.sub ⟨?_, ?_, ?_⟩ <;> repeat' (first | exact True.intro | rfl | apply And.intro))
          · refine wY ?_
            (apply WcN [34] [34]; (focus (exact o_ccall [(1000, 34)] d2 rfl rfl rfl rfl (by repeat (first | exact .nil | refine .cons (.inl ⟨rfl, rfl⟩) ?_ | refine .cons (.inr ⟨rfl, fun _ => Wk.tok⟩) ?_)) (by repeat' (first | exact True.intro | rfl | apply And.intro)) (by repeat' (first | exact True.intro | rfl | apply And.intro)) rfl rfl rfl)); (focus (exact rfl)); (focus (exact rfl)); (focus (first | exact want_n | exact want_g rfl (by with_reducible rfl))))
            refine wY ?_
            (apply WcN [34] [34]; (focus (exact o_ccall [(1000, 34)] d3 rfl rfl rfl rfl (by repeat (first | exact .nil | refine .cons (.inl ⟨rfl, rfl⟩) ?_ | refine .cons (.inr ⟨rfl, fun _ => Wk.tok⟩) ?_)) (by repeat' (first | exact True.intro | rfl | apply And.intro)) (by repeat' (first | exact True.intro | rfl | apply And.intro)) rfl rfl rfl)); (focus (exact rfl)); (focus (exact rfl)); (focus (first | exact want_n | exact want_g rfl (by with_reducible rfl))))
            refine wY ?_
            refine ⟨j + 1, by omega, by omega, ?_⟩
            have he : restB ms[j] = [] := by unfold restB; rw [if_neg k1, if_neg k3]
            rw [hs, he, List.append_nil]
            (refine Go2.sub ⟨?_, ?_, ?_⟩ <;> repeat' (first | exact True.intro | rfl | apply And.intro))
      obtain rfl : j = ms.length := by omega
      have hlt' : ¬ (ms.length : Int) < (ms.length : Nat) := by omega
      rw [hX4]
      refine wY ?_
      clear hlt hlt' hj
      refine AW_loopI (fun j : Nat => ⟨[(1, .ptr 1 0 []), (6, .own 34 1 (X4 ++ List.replicate j 0#8).length .row)], [(1, .var (Nd.av ⟨false, es, ks, ps, ms⟩)), (34, .own 5 1 ((X4 ++ List.replicate j 0#8).map byteA))]⟩) (fun j => j ≤ 256 - X4.length) (fun j => 256 - X4.length - j) 0 (Nat.zero_le _) (by rw [List.replicate_zero, List.append_nil]; (refine Go2.sub ⟨?_, ?_, ?_⟩ <;> repeat' (first | exact True.intro | rfl | apply And.intro))) (fun j hj => ?_)
      have hjl : (X4 ++ List.replicate j 0#8).length = X4.length + j := by rw [List.length_append, List.length_replicate]
      by_cases hlt : j < 256 - X4.length
      · have hlt' : ((X4 ++ List.replicate j 0#8).length : Int) < 256 := by omega
        have hs : X4 ++ List.replicate (j + 1) 0#8 = X4 ++ List.replicate j 0#8 ++ [0#8] := by rw [List.replicate_succ', List.append_assoc]
        refine wY ?_
        refine ⟨j + 1, by omega, by omega, ?_⟩
        rw [hs]
        (refine Go2.sub ⟨?_, ?_, ?_⟩ <;> repeat' (first | exact True.intro | rfl | apply And.intro))
      obtain rfl : j = 256 - X4.length := by omega
      have hlt' : ¬ ((X4 ++ List.replicate (256 - X4.length) 0#8).length : Int) < 256 := by omega
      rw [eR] at hlt' ⊢
      refine wY ?_
      clear hlt hlt' hj hjl
      (apply WvN [34]; (focus (exact o_rcall [(1000, 34)] dS rfl rfl rfl rfl rfl (by repeat (first | exact .nil | refine .cons (.inl ⟨rfl, rfl⟩) ?_ | refine .cons (.inr ⟨rfl, fun _ => Wk.tok⟩) ?_)) (by repeat' (first | exact True.intro | rfl | apply And.intro)) (by repeat' (first | exact True.intro | rfl | apply And.intro)) rfl rfl)); (focus (exact rfl)); (focus (first | exact want_n | exact want_g rfl (by with_reducible rfl))))
      refine wY ?_
      refine AW_loopI (fun j : Nat => ⟨[(6, .own 34 1 RAW.length .row), (13, bytesA S4), (14, .v (.int .i64 (j : Nat)))], [(34, .own 5 1 ((put4 RAW 4 (S4.take j)).map byteA))]⟩) (fun j => j ≤ 4) (fun j => 4 - j) 0 (Nat.zero_le _) (by rw [List.take_zero, put4_nil]; (refine Go2.sub ⟨?_, ?_, ?_⟩ <;> repeat' (first | exact True.intro | rfl | apply And.intro))) (fun j hj => ?_)
      have hpl : (put4 RAW 4 (S4.take j)).length = RAW.length := put4_len _ _ _ (by rw [List.length_take]; omega)
      by_cases hlt : j < 4
      · have hlt' : (j : Int) < 4 := by omega
        have hj4 : j < S4.length := by omega
        have hs := put4_set RAW 4 S4 j hj4 (by omega)
        refine wY ?_
        refine ⟨j + 1, by omega, by omega, ?_⟩
        rw [hs]
        (refine Go2.sub ⟨?_, ?_, ?_⟩ <;> repeat' (first | exact True.intro | rfl | apply And.intro))
      obtain rfl : j = 4 := by omega
      have hlt' : ¬ (((4 : Nat) : Int) < 4) := by omega
      rw [List.take_of_length_le (by omega)]
      rw [List.take_of_length_le (by omega)] at hpl
      refine wRG ?_
      refine thenA_n ?_
      refine AW_go (S' := ⟨[(6, .own 34 1 (put4 RAW 4 S4).length .row), (158, .v (.bool (decide (((4 : Nat) : Int) < 4))))], [(34, .own 5 1 ((put4 RAW 4 S4).map byteA))]⟩) (by rw [hpl]; (refine Go2.sub ⟨?_, ?_, ?_⟩ <;> repeat' (first | exact True.intro | rfl | apply And.intro))) ?_
      refine AW_go (Go2.thaw (S' := ⟨[(6, .sl (some 34) 1 ((put4 RAW 4 S4).map byteA)), (158, .v (.bool (decide (((4 : Nat) : Int) < 4))))], [(34, .tail 5 1 ((put4 RAW 4 S4).map byteA).length)]⟩) 34 rfl (by repeat' (first | exact True.intro | rfl | apply And.intro | (simp; done))) (by repeat' (first | exact True.intro | rfl | apply And.intro | (simp; done))) rfl) ?_
      rw [eE]
      refine wY ?_
      exact fin ⟨res_sl rfl, res_of rfl rfl rfl, trivial⟩
end Go.Proofs.Ytcmdhpinelnclaa

namespace Go.Proofs.Ytcmdhpinelnclaa
open Go Go.RowKit
set_option linter.unusedVariables false
set_option linter.unusedSimpArgs false
set_option maxRecDepth 100000

def vByte (k i : Nat) : BitVec 8 := BitVec.ofInt 8 ((k : Int) / 17 + (i : Int) * ((k : Int) / 4352))
def vText (k : Nat) : List (BitVec 8) := (List.range (k % 17)).map (vByte k)
def lawVl (v : Int) : Vl := mkVl (vText (v % 1099511627776).toNat)
/-- the row behind j bytes -/
def vRow (k j : Nat) : List (BitVec 8) := (vText k).take j ++ List.replicate (k % 17 - j) 0#8
attribute [local irreducible] OpOK AWops AW CondB Go2 AFn thenA inBlockA noGotoA orderOk wantedA
/-- the laws' message by a number -/
def lawMsg (v seq : Int) : Msg :=
  let k := v % 1099511627776
  ⟨1 + k % 3, BitVec.ofInt 64 (seq % 1099511627776), lawKey (k / 4), if k % 3 = 0 then lawVl (k / 64) else Vl.zero, if k % 3 = 2 then BitVec.ofInt 64 (k / 1024) * BitVec.ofInt 64 65537 else 0#64⟩
end Go.Proofs.Ytcmdhpinelnclaa

namespace Go.Proofs.Ytcmdhpinelnclaa
open Go Go.RowKit
set_option linter.unusedVariables false
set_option linter.unusedSimpArgs false
set_option maxRecDepth 100000

def msgStep (most : Int) (out : List Msg) (m : Msg) : List Msg := if bSum (bfAdd out m) ≤ most then bfAdd out m else out
def msgsF (l : List Int) (most : Int) : Nat → List Msg
  | 0 => []
  | j + 1 => msgStep most (msgsF l most j) (lawMsg (l.getD j 0) ((j + 1 : Nat) : Int))
def msgList (l : List Int) (most : Int) : List Msg := msgsF l most (min l.length 60)
attribute [local irreducible] OpOK AWops AW CondB Go2 AFn thenA inBlockA noGotoA orderOk wantedA
end Go.Proofs.Ytcmdhpinelnclaa

namespace Go.Proofs.Ytcmdhpinelnclaa
open Go Go.RowKit
set_option linter.unusedVariables false
set_option linter.unusedSimpArgs false
set_option maxRecDepth 100000

def entMsg (x : Int) : Msg := ⟨1, 0#64, lawKey (x % 1099511627776), lawVl (x % 1099511627776 / 16), 0#64⟩
def entStep (most : Int) (out : List Ent) (x : Int) : List Ent := if eSum (lfPut out (entMsg x)) ≤ most then lfPut out (entMsg x) else out
def entsF (l : List Int) (most : Int) (j : Nat) : List Ent := (l.take j).foldl (entStep most) []
def entList (l : List Int) (most : Int) : List Ent := entsF l most 80
attribute [local irreducible] OpOK AWops AW CondB Go2 AFn thenA inBlockA noGotoA orderOk wantedA
end Go.Proofs.Ytcmdhpinelnclaa

namespace Go.Proofs.Ytcmdhpinelnclaa
open Go Go.RowKit
set_option linter.unusedVariables false
set_option linter.unusedSimpArgs false
set_option maxRecDepth 100000

def innerN (p : List Int) (v : Int) (l : List Int) : Nd := ⟨false, [], kidsL v ((pivK (16 :: p) 3).length + 1), pivK (16 :: p) 3, msgList l 205⟩
def leafN (l : List Int) : Nd := ⟨true, entList l 248, [], [], []⟩
theorem res_varl {S : St} {a t g n : Nat} {fs ys : List AV} (ha : S.t a = some (.ptr g 0 [])) (hg : S.h g = some (.var (.agg n fs))) (hs : tabT.sa t = some (true, n)) (hw : ∀ H, WkL H fs ys) : Res1 Try.prog S (.cell a t) (.agg n ys) := ⟨g, .agg n fs, ha, hg, tabT.tyOf hs, Wk.agg (hw _)⟩
def innerM (v : Int) (P : List Key) (S : List Msg) : Nat → St
  | 0 => ⟨[(6, .ptr 6 0 []), (7, .ptr 7 0 []), (8, intA (1 + v % 200)), (9, intA ((0 : Nat) : Int))], [(6, .var (nodeA false nilA nilA nilA nilA)), (7, .var (nodeA false nilA nilA (keysA P) (msgsA S)))]⟩
  | j + 1 => ⟨[(6, .ptr 6 0 []), (7, .ptr 7 0 []), (8, intA (1 + v % 200)), (9, intA ((j + 1 : Nat) : Int))], [(6, .var (nodeA false nilA nilA nilA nilA)), (7, .var (nodeA false nilA (.sl (some 34) 1 ((kidsL v (j + 1)).map intA)) (keysA P) (msgsA S))), (34, .tail 3 1 (kidsL v (j + 1)).length)]⟩
attribute [local irreducible] OpOK AWops AW CondB Go2 AFn thenA inBlockA noGotoA orderOk wantedA
end Go.Proofs.Ytcmdhpinelnclaa

namespace Go.Proofs.Ytcmdhpinelnclaa
open Go Go.RowKit
set_option linter.unusedVariables false
set_option linter.unusedSimpArgs false
set_option maxRecDepth 100000

attribute [local irreducible] OpOK AWops AW CondB Go2 AFn thenA inBlockA noGotoA orderOk wantedA
set_option maxRecDepth 100000 in
set_option maxHeartbeats 4000000 in
theorem a_refsame (a b : Nd) (h : a.Sm) : AFn Try.prog 16 [a.av, b.av] (boolA (decide (a = b))) := by
  obtain ⟨l1, es1, ks1, ps1, ms1⟩ := a
  obtain ⟨l2, es2, ks2, ps2, ms2⟩ := b
  dsimp only [Nd.av]
  refine AFn_intro Try.func16 rfl Try.ntmps16 rfl (by simp) [_] rfl fun E hE => ?_
  obtain ⟨h1, h2, h3, h4⟩ := h
  dsimp only at h1 h2 h3 h4
  by_cases q0 : l1 = l2
  · have c0 := a_sameEnts es1 es2 (by omega)
    by_cases q1 : es1 = es2
    · rw [decide_eq_true q1] at c0
      have d0 := acall Try.func39 (c0) (by decide +kernel) (by decide +kernel)
      have c1 := a_sameInts ks1 ks2 (by omega)
      by_cases q2 : ks1 = ks2
      · rw [decide_eq_true q2] at c1
        have d1 := acall Try.func40 (c1) (by decide +kernel) (by decide +kernel)
        have c2 := a_sameKeys ps1 ps2 (by omega)
        by_cases q3 : ps1 = ps2
        · rw [decide_eq_true q3] at c2
          have d2 := acall Try.func41 (c2) (by decide +kernel) (by decide +kernel)
          have c3 := a_sameMsgs ms1 ms2 (by omega)
          by_cases q4 : ms1 = ms2
          · rw [decide_eq_true q4] at c3
            have d3 := acall Try.func42 (c3) (by decide +kernel) (by decide +kernel)
            subst q0 q1 q2 q3 q4
            rw [decide_eq_true rfl]
            cases l1
            · refine wI ?_
              exact fin ⟨res_of rfl rfl rfl, trivial⟩
            · refine wI ?_
              exact fin ⟨res_of rfl rfl rfl, trivial⟩
          · rw [decide_eq_false q4] at c3
            have d3 := acall Try.func42 (c3) (by decide +kernel) (by decide +kernel)
            rw [show decide ((⟨l1, es1, ks1, ps1, ms1⟩ : Nd) = ⟨l2, es2, ks2, ps2, ms2⟩) = false from decide_eq_false fun k => q4 (by injection k)]
            subst q0
            cases l1
            · refine wI ?_
              exact fin ⟨res_of rfl rfl rfl, trivial⟩
            · refine wI ?_
              exact fin ⟨res_of rfl rfl rfl, trivial⟩
        · rw [decide_eq_false q3] at c2
          have d2 := acall Try.func41 (c2) (by decide +kernel) (by decide +kernel)
          rw [show decide ((⟨l1, es1, ks1, ps1, ms1⟩ : Nd) = ⟨l2, es2, ks2, ps2, ms2⟩) = false from decide_eq_false fun k => q3 (by injection k)]
          subst q0
          cases l1
          · refine wI ?_
            exact fin ⟨res_of rfl rfl rfl, trivial⟩
          · refine wI ?_
            exact fin ⟨res_of rfl rfl rfl, trivial⟩
      · rw [decide_eq_false q2] at c1
        have d1 := acall Try.func40 (c1) (by decide +kernel) (by decide +kernel)
        rw [show decide ((⟨l1, es1, ks1, ps1, ms1⟩ : Nd) = ⟨l2, es2, ks2, ps2, ms2⟩) = false from decide_eq_false fun k => q2 (by injection k)]
        subst q0
        cases l1
        · refine wI ?_
          exact fin ⟨res_of rfl rfl rfl, trivial⟩
        · refine wI ?_
          exact fin ⟨res_of rfl rfl rfl, trivial⟩
    · rw [decide_eq_false q1] at c0
      have d0 := acall Try.func39 (c0) (by decide +kernel) (by decide +kernel)
      rw [show decide ((⟨l1, es1, ks1, ps1, ms1⟩ : Nd) = ⟨l2, es2, ks2, ps2, ms2⟩) = false from decide_eq_false fun k => q1 (by injection k)]
      subst q0
      cases l1
      · refine wI ?_
        exact fin ⟨res_of rfl rfl rfl, trivial⟩
      · refine wI ?_
        exact fin ⟨res_of rfl rfl rfl, trivial⟩
  · rw [show decide ((⟨l1, es1, ks1, ps1, ms1⟩ : Nd) = ⟨l2, es2, ks2, ps2, ms2⟩) = false from decide_eq_false fun k => q0 (by injection k)]
    cases l1 <;> cases l2 <;> first | exact absurd rfl q0 | skip
    · refine wI ?_
      exact fin ⟨res_of rfl rfl rfl, trivial⟩
    · refine wI ?_
      exact fin ⟨res_of rfl rfl rfl, trivial⟩
end Go.Proofs.Ytcmdhpinelnclaa

namespace Go.Proofs.Ytcmdhpinelnclaa
open Go Go.RowKit
set_option linter.unusedVariables false
set_option linter.unusedSimpArgs false
set_option maxRecDepth 100000

theorem AFn_weak {P : Program} {f : FuncId} {xs ys : List AV} {r : AV} (h : AFn P f ys r) (hw : ∀ H, WkL H xs ys) : AFn P f xs r := fun U w vs hr => h U w vs ((hw H0).rdp hr)
/-! ### all weights together -/
def wtsN (p : List Int) (v : Int) (l : List Int) : List Int := wtsAt (innerN p v l) (innerN p v l).ks.length
end Go.Proofs.Ytcmdhpinelnclaa

namespace Go.Proofs.Ytcmdhpinelnclaa
open Go Go.RowKit
set_option linter.unusedVariables false
set_option linter.unusedSimpArgs false
set_option maxRecDepth 100000

/-! ### plain law -/
def Nd.zero : Nd := ⟨false, [], [], [], []⟩
def rdS1 (b : List (BitVec 8)) : Rst := ⟨8, false⟩
def byAt (b : List (BitVec 8)) (i : Nat) : BitVec 8 := b.getD i 0#8
def rdNode (b : List (BitVec 8)) : Nd × Rst :=
  if byAt b 0 = 1#8 then
    (⟨true, (rdMany (rdEnt b) (byAt b 1).toNat ⟨8, false⟩).1, [], [], (rdMany (rdMsg b) (byAt b 2).toNat (rdMany (rdEnt b) (byAt b 1).toNat ⟨8, false⟩).2).1⟩, (rdMany (rdMsg b) (byAt b 2).toNat (rdMany (rdEnt b) (byAt b 1).toNat ⟨8, false⟩).2).2)
  else
    (⟨false, [], (rdMany (rdKid b) (byAt b 1).toNat ⟨8, false⟩).1, (rdMany (rdKey b) ((byAt b 1).toNat - 1) (rdMany (rdKid b) (byAt b 1).toNat ⟨8, false⟩).2).1, (rdMany (rdMsg b) (byAt b 2).toNat (rdMany (rdKey b) ((byAt b 1).toNat - 1) (rdMany (rdKid b) (byAt b 1).toNat ⟨8, false⟩).2).2).1⟩,
     (rdMany (rdMsg b) (byAt b 2).toNat (rdMany (rdKey b) ((byAt b 1).toNat - 1) (rdMany (rdKid b) (byAt b 1).toNat ⟨8, false⟩).2).2).2)
/-- with the sum's own bytes 0 -/
def bareB (b : List (BitVec 8)) : List (BitVec 8) := put4 b 4 (List.replicate 4 0#8)
def sumIn (b : List (BitVec 8)) : List (BitVec 8) := (b.take 8).drop 4
noncomputable def decode (b : List (BitVec 8)) : Nd × Int :=
  if b.length = 256 then
    if sum4 (bareB b) = sumIn b then
      if (rdNode b).2.bad = false ∧ (encode (rdNode b).1).2 = 0 ∧ (encode (rdNode b).1).1 = b then ((rdNode b).1, 0) else (Nd.zero, 4)
    else (Nd.zero, 5)
  else (Nd.zero, 4)
theorem rdNode_sm (b : List (BitVec 8)) : (rdNode b).1.Sm := by
  have h1 := (byAt b 1).isLt
  have h2 := (byAt b 2).isLt
  unfold rdNode
  split
  · exact ⟨by show (rdMany _ _ _).1.length ≤ _; rw [rdMany_len]; omega, Nat.zero_le _, Nat.zero_le _, by show (rdMany _ _ _).1.length ≤ _; rw [rdMany_len]; omega⟩
  · exact ⟨Nat.zero_le _, by show (rdMany _ _ _).1.length ≤ _; rw [rdMany_len]; omega, by show (rdMany _ _ _).1.length ≤ _; rw [rdMany_len]; omega, by show (rdMany _ _ _).1.length ≤ _; rw [rdMany_len]; omega⟩
section
variable {E : Env} {nt : Nat} {ops : Array Oper} {T : Nat → Option AV} {H : Hp} {d : Option Nat} {ty : TypeId} {pos : String} {af : Array Edge} {gd : Option (Nat × Bool)}
theorem beq_bytesB {a b : ByteArray} : (a == b) = true ↔ a = b := by
  cases a with | mk x => cases b with | mk y =>
  show ((x == y) = true) ↔ _
  rw [beq_iff_eq, ByteArray.mk.injEq]
theorem beq_bits (a b : List (BitVec 8)) : ((bytesOf a) == (bytesOf b)) = decide (a = b) := by rw [Bool.eq_iff_iff, beq_bytesB, decide_eq_true_eq, bytesOf_inj]
theorem beq_bitsL (a b : List (BitVec 8)) : ((bytesOf a).toList == (bytesOf b).toList) = decide (a = b) := by rw [← beq_toListBytes, beq_bits]
theorem ob_eqs {t t' : TypeId} {x y : Operand} {a b : List (BitVec 8)} (hd : dOk nt d = true) (hx : evalO T x = some (.v (.string (bytesOf a)))) (hy : evalO T y = some (.v (.string (bytesOf b)))) : OpOK Try.prog E nt ops ⟨d, .binOp .eql t x y t', ty, pos, af, gd⟩ T H [] ⟨boolA (decide (a = b)), []⟩ :=
  ok_bin hd hx hy (fun w => by
    simp only [eqGuard, binOp, Op.stringOp, Sem.run_bind, beq_toListBytes, beq_bitsL]
    rfl) rfl
theorem ob_nes {t t' : TypeId} {x y : Operand} {a b : List (BitVec 8)} (hd : dOk nt d = true) (hx : evalO T x = some (.v (.string (bytesOf a)))) (hy : evalO T y = some (.v (.string (bytesOf b)))) : OpOK Try.prog E nt ops ⟨d, .binOp .neq t x y t', ty, pos, af, gd⟩ T H [] ⟨boolA (!decide (a = b)), []⟩ :=
  ok_bin hd hx hy (fun w => by
    simp only [eqGuard, binOp, Op.stringOp, Sem.run_bind, bne, beq_toListBytes, beq_bitsL]
    rfl) rfl
end
theorem zero_reader : ZeroOk Try.prog 55 (.agg 3 [nilA, intA ((0 : Nat) : Int), boolA false]) := zero_of (v := .agg #[.slice none 0 0, .int .i64 0, .bool false]) (n := 3) (by kernel_rfl) fun U w => by
  simp only [nilA, intA, boolA, Rd, Rds, Value.cells]
  exact ⟨rfl, [_], _, rfl, ⟨rfl, rfl⟩, [_], _, rfl, ⟨rfl, rfl⟩, [_], _, rfl, ⟨rfl, rfl⟩, rfl⟩
theorem zero_refreader : ZeroOk Try.prog 103 (.agg 3 [nilA, intA ((0 : Nat) : Int), boolA false]) := zero_of (v := .agg #[.slice none 0 0, .int .i64 0, .bool false]) (n := 3) (by kernel_rfl) fun U w => by
  simp only [nilA, intA, boolA, Rd, Rds, Value.cells]
  exact ⟨rfl, [_], _, rfl, ⟨rfl, rfl⟩, [_], _, rfl, ⟨rfl, rfl⟩, [_], _, rfl, ⟨rfl, rfl⟩, rfl⟩
theorem wX {Q R : Prop} (k : R) (h : Hid R → Q := by intro kHid; (repeat (first | (first | refine Wend _ ?_ | refine AW_seq ?_ | refine AW_reg ?_ | refine AW_drw mixed ?_ | refine AW_block ?_ | refine AW_scope ?_ | refine thenA_n ?_ | refine blockA_n ?_ | refine blockA_h ?_ | refine scopeA_n ?_ | refine thenA_r ?_ | refine blockA_r ?_ | refine scopeA_r ?_ | refine thenA_e ?_ | refine scopeA_e ?_ | refine blockA_e rfl ?_ | refine AW_exit ?_ | refine AW_ret ?_ | refine AW_skip ?_ | refine AW_c rfl ?_ | with_reducible refine cb_t ?_ | with_reducible refine cb_f ?_ | with_reducible refine cb_yes (by first | assumption | omega) ?_ | with_reducible refine cb_no (by first | assumption | omega) ?_ | refine And.intro (by decide +kernel) ?_) | (first | (apply Wv; (focus (first | exact step_ok rfl rfl | exact ok_nilc rfl rfl | exact o_idx rfl rfl rfl rfl (by first | assumption | omega | decide) | exact o_idx3 rfl rfl rfl rfl (by first | assumption | omega | decide) | exact o_idx2 rfl rfl rfl rfl rfl (by first | assumption | omega | decide | exact Nat.lt_of_lt_of_le (m := 256) (by decide) (by omega)) | exact o_idxr rfl rfl rfl rfl rfl rfl | exact o_lenm rfl rfl rfl | exact o_len rfl rfl rfl | exact o_len0 rfl rfl rfl | exact o_lens rfl rfl rfl | exact o_lent rfl rfl | exact ob_len rfl rfl rfl rfl (by first | rfl | assumption | omega | (simp; done) | (simp; omega)) | exact o_add1 rfl rfl rfl (by omega) | exact o_addn rfl rfl rfl (by omega) | exact o_addc rfl rfl rfl (by omega) (by omega) | exact o_add rfl rfl rfl (by omega) | exact o_sub1 rfl rfl rfl (by omega) | exact o_sub rfl rfl rfl (by omega) | exact o_acall rfl rfl rfl rfl (by assumption) | exact o_convb ⟨_, Try.underlying3⟩ Try.underlying5 rfl rfl | exact o_convu ⟨_, Try.underlying3⟩ Try.underlying71 rfl rfl | exact o_cv32 ⟨_, Try.underlying77⟩ Try.underlying71 rfl rfl | exact o_cvk ⟨_, Try.underlying71⟩ Try.underlying3 rfl rfl | exact o_cv8 ⟨_, Try.underlying5⟩ Try.underlying3 rfl rfl | exact o_convs Try.underlying33 Try.underlying5 Try.underlying9 rfl rfl | exact ob_cutr rfl rfl rfl (by simp) (by decide) | exact ob_cutf rfl rfl rfl rfl rfl rfl (by simp) (by decide) | exact ob_cutfh rfl rfl rfl rfl rfl rfl rfl (by first | assumption | omega) (by simp) (by decide) | exact ok_cut_arr tabT rfl rfl rfl bnd_none (Nat.le_refl _) (by decide) | exact o_cutlh rfl rfl rfl rfl rfl (by omega) (by omega) | exact o_cutl rfl rfl rfl rfl (by omega) | exact o_cuth rfl rfl rfl rfl (by omega) | exact o_cutl3 rfl rfl rfl rfl (by omega) | exact o_cuth3 rfl rfl rfl rfl (by omega) | exact o_cutl2 rfl rfl rfl rfl rfl (by omega) | exact o_cuth2 rfl rfl rfl rfl rfl (by omega) | exact o_cutlh2 rfl rfl rfl rfl rfl rfl rfl (by first | omega | decide) (by first | omega | exact Nat.le_trans (m := 256) (by decide) (by omega)) | exact ob_cutl rfl rfl rfl rfl rfl rfl (by first | rfl | assumption | omega | (simp; done) | (simp; omega)) (by first | rfl | assumption | omega | (simp; done) | (simp; omega)) | exact ob_cutlh rfl rfl rfl rfl rfl rfl rfl rfl (by first | rfl | assumption | omega | (simp; done) | (simp; omega)) (by first | rfl | assumption | omega | (simp; done) | (simp; omega)) (by first | rfl | assumption | omega | (simp; done) | (simp; omega)) | exact ob_idx rfl rfl rfl rfl rfl rfl (by first | rfl | assumption | omega | (simp; done) | (simp; omega)) (by first | rfl | assumption | omega | (simp; done) | (simp; omega)) | exact ob_ld rfl rfl rfl (by first | rfl | assumption | omega | (simp; done) | (simp; omega)) (by first | rfl | assumption | omega | (simp; done) | (simp; omega)) rfl rfl | exact ob_eqs rfl rfl rfl | exact ob_nes rfl rfl rfl | exact o_bld zero_reader rfl rfl rfl rfl rfl rfl rfl | exact o_mkfnF rfl rfl rfl | exact o_bld zero_refreader rfl rfl rfl rfl rfl rfl rfl | exact e_bld rfl rfl rfl | exact e_bldk rfl rfl | exact z_bld0 rfl rfl rfl rfl rfl | exact z_bld rfl rfl rfl rfl rfl rfl rfl | exact o_mkfn rfl rfl rfl | exact o_xorb rfl rfl rfl)); (focus (first | exact want_n | exact want_g rfl (by with_reducible rfl)))) | (apply Wb; (focus (first | exact o_box rfl rfl rfl rfl | exact ob_app rfl rfl rfl rfl rfl (by first | exact o_many rfl | exact o_one _ _ rfl | exact o_zero rfl) (by first | rfl | assumption | omega | (simp; done) | (simp; omega)) (by first | omega | (simp; omega) | (simp; done)) (by first | omega | (simp; omega) | (simp; done)) | exact oo_app0 rfl rfl rfl rfl rfl (by first | exact o_many rfl | exact o_one _ _ rfl | exact o_zero rfl) (by first | omega | (simp; omega) | (simp; done)) (by first | omega | (simp; omega) | (simp; done)) | exact o_app rfl rfl rfl rfl rfl (by first | exact o_many rfl | exact o_one _ _ rfl | exact o_zero rfl) (by first | omega | (simp; omega) | (simp; done)) (by first | omega | (simp; omega) | (simp; done)) | exact o_appn rfl rfl rfl rfl rfl (by first | exact o_many rfl | exact o_one _ _ rfl | exact o_zero rfl) (by first | omega | (simp; omega) | (simp; done)) (by first | omega | (simp; omega) | (simp; done)) | exact o_app1 rfl rfl rfl rfl rfl (by first | exact o_many rfl | exact o_one _ _ rfl | exact o_zero rfl) (by exact rfl) (by first | omega | (simp; omega) | (simp; done)) (by first | omega | (simp; omega) | (simp; done)) | exact o_app0 rfl rfl rfl rfl rfl (by first | exact o_many rfl | exact o_one _ _ rfl | exact o_zero rfl) (by first | omega | (simp; omega) | (simp; done)) (by first | omega | (simp; omega) | (simp; done)) | exact o_bsl0O rfl rfl rfl | exact z_bsll rfl rfl rfl rfl rfl rfl rfl rfl rfl | exact z_alloc rfl rfl rfl | exact ob_copy rfl rfl rfl rfl rfl (by first | rfl | assumption | omega | (simp; done) | (simp; omega)) (by first | rfl | assumption | omega | (simp; done) | (simp; omega)) (by first | rfl | assumption | omega | (simp; done) | (simp; omega)) (by first | rfl | assumption | omega | (simp; done) | (simp; omega)) | exact ob_zeros (f := byteA) (z := 0#8) Try.underlying3 rfl rfl rfl rfl rfl rfl (by omega) (by first | rfl | assumption | omega | (simp; done) | (simp; omega)) (by first | omega | (simp; omega) | (simp; done)) (by first | omega | (simp; omega) | (simp; done)) | exact ob_make (f := byteA) (z := 0#8) rfl rfl rfl rfl rfl rfl rfl rfl (by decide) (by decide))); (focus (first | exact want_n | exact want_g rfl (by with_reducible rfl)))) | (apply Ws; (focus (first | exact ob_st rfl rfl rfl (by first | rfl | assumption | omega | (simp; done) | (simp; omega)) (by first | rfl | assumption | omega | (simp; done) | (simp; omega)) rfl (fun _ => rfl) rfl rfl | exact ob_st0 rfl rfl rfl (by first | rfl | assumption | omega | (simp; done) | (simp; omega)) (by first | rfl | assumption | omega | (simp; done) | (simp; omega)) rfl | exact ok_store tabT (d := none) rfl rfl rfl rfl rfl rfl rfl rfl rfl rfl | exact ob_clear (f := byteA) (z := 0#8) rfl rfl rfl rfl (by first | rfl | assumption | omega | (simp; done) | (simp; omega)) (by first | rfl | assumption | omega | (simp; done) | (simp; omega)) (by first | rfl | assumption | omega | (simp; done) | (simp; omega)))); (focus (first | exact want_n | exact want_g rfl (by with_reducible rfl)))) | (refine Wskip (by first | exact want_f rfl (by with_reducible exact b_nt) | exact want_f rfl (by with_reducible exact b_nf) | exact want_t rfl) rfl ?_) | refine Wgt rfl rfl (by first | assumption | omega | exact rfl) ?_ | refine Wgf rfl rfl (by first | assumption | omega | exact rfl) ?_ | (refine Wgb rfl rfl (by with_reducible assumption) ?_) | (refine cb_is _ (by assumption) ?_)))); exact kHid.out) : Q := h ⟨k⟩
theorem byAt_get {b : List (BitVec 8)} {i : Nat} (h : i < b.length) : b[i] = byAt b i := by unfold byAt; rw [List.getD_eq_getElem?_getD, List.getElem?_eq_getElem h]; rfl
theorem B8_one {x : BitVec 8} : (B8 x = 1) ↔ x = 1#8 := by
  rw [B8_def]
  constructor
  · intro h
    apply BitVec.eq_of_toNat_eq
    have : x.toNat = 1 := by omega
    simpa using this
  · intro h; subst h; rfl
attribute [local irreducible] OpOK AWops AW CondB Go2 AFn thenA inBlockA noGotoA orderOk wantedA
set_option maxRecDepth 100000 in
set_option maxHeartbeats 4000000 in
theorem a_bequal (x y : List (BitVec 8)) : AFn Try.prog 26 [bytesA x, bytesA y] (boolA (decide (x = y))) := by
  refine AFn_intro Try.func26 rfl Try.ntmps26 rfl (by simp) [_] rfl fun E hE => ?_; have hnt : (!true) = false := rfl; have hnf : (!false) = true := rfl
  refine wY ?_
  (apply Wv; (focus (exact ob_eqs rfl rfl rfl)); (focus (first | exact want_n | exact want_g rfl (by with_reducible rfl))))
  refine wY ?_
  exact fin ⟨res_of rfl rfl rfl, trivial⟩
set_option maxRecDepth 100000 in
set_option maxHeartbeats 4000000 in
theorem c_clone (x : List (BitVec 8)) (h0 : 0 < x.length) (hl : x.length ≤ 1000000) : CFn Try.prog 25 [bytesA x] [] (.own 5 1 x.length .row) [(5, .own 5 1 (x.map byteA))] := by
  refine CFn_intro Try.func25 rfl Try.ntmps25 rfl (by simp) [_] rfl fun E hE => ?_; have hnt : (!true) = false := rfl; have hnf : (!false) = true := rfl
  refine wY ?_
  (apply Wv; (focus (exact ok_eqnil rfl rfl rfl rfl (by rw [List.length_map]; exact h0))); (focus (first | exact want_n | exact want_g rfl (by with_reducible rfl))))
  refine wY ?_
  exact finc ⟨⟨(by repeat' (first | exact True.intro | rfl | apply And.intro)), rfl⟩, rc_of rfl rfl rfl, trivial⟩
set_option maxRecDepth 100000 in
set_option maxHeartbeats 16000000 in
theorem a_cdecode (b : List (BitVec 8)) (hb : b.length ≤ 1000000) : AFn Try.prog 14 [bytesA b] (.tup [(decode b).1.av, intA (decode b).2]) := by
  by_cases h256 : b.length = 256
  · have h256' : (b.length : Int) = 256 := by omega
    have eb : (bareB b).length = 256 := by unfold bareB; rw [put4_len _ _ _ (by simp; omega)]; exact h256
    have c0 := c_clone b (by omega) hb
    have c1 := c_csum (bareB b)
    have c2 := a_bequal (sum4 (bareB b)) (sumIn b)
    have f0 : b[0]'(by omega) = byAt b 0 := byAt_get (by omega)
    have f1 : b[1]'(by omega) = byAt b 1 := byAt_get (by omega)
    have f2 : b[2]'(by omega) = byAt b 2 := byAt_get (by omega)
    have el : (bareB b).length = b.length := by omega
    unfold rwO at c1
    rw [el] at c1
    by_cases hs : sum4 (bareB b) = sumIn b
    · rw [decide_eq_true hs] at c2
      unfold sum4 sumIn at c2
      have hsm := rdNode_sm b
      have ce := a_cencode (rdNode b).1 hsm
      have cq := a_bequal (encode (rdNode b).1).1 b
      have hd0 : decode b = if (rdNode b).2.bad = false ∧ (encode (rdNode b).1).2 = 0 ∧ (encode (rdNode b).1).1 = b then ((rdNode b).1, 0) else (Nd.zero, 4) := by
        unfold decode; rw [if_pos h256, if_pos hs]
      rw [hd0]
      clear hd0 hsm
      by_cases hl : byAt b 0 = 1#8
      · have hl' : B8 (b[0]'(by omega)) = 1 := by rw [f0]; exact B8_one.2 hl
        have en : rdNode b = (⟨true, (rdMany (rdEnt b) (byAt b 1).toNat ⟨8, false⟩).1, [], [], (rdMany (rdMsg b) (byAt b 2).toNat (rdMany (rdEnt b) (byAt b 1).toNat ⟨8, false⟩).2).1⟩, (rdMany (rdMsg b) (byAt b 2).toNat (rdMany (rdEnt b) (byAt b 1).toNat ⟨8, false⟩).2).2) := by unfold rdNode; rw [if_pos hl]
        have hp1 := rdMany_pos (rdEnt b) (rdEnt_pos b) ⟨8, false⟩ (byAt b 1).toNat
        have hq1 := (byAt b 1).isLt
        have hq2 := (byAt b 2).isLt
        dsimp only at hp1
        have ca := c_some_ent b ⟨8, false⟩ ((byAt b 1).toNat : Nat) hb (by dsimp only; omega) (by omega)
        rw [Int.toNat_natCast] at ca
        have cm := c_some_msg b (rdMany (rdEnt b) (byAt b 1).toNat ⟨8, false⟩).2 ((byAt b 2).toNat : Nat) hb (by omega) (by omega)
        rw [Int.toNat_natCast] at cm
        rw [en] at ce cq ⊢
        generalize rdMany (rdEnt b) (byAt b 1).toNat ⟨8, false⟩ = RE at *
        obtain ⟨es, s1⟩ := RE
        dsimp only at cm ca ce cq hp1 ⊢
        generalize rdMany (rdMsg b) (byAt b 2).toNat s1 = RM at *
        obtain ⟨ms, ⟨p2, bad2⟩⟩ := RM
        dsimp only at cm ca ce cq ⊢
        clear en
        have ce := AFn_weak ce (xs := [nodeA true (entsA es) nilA nilA (msgsA ms)]) (fun H => .cons (Wk.agg (.cons (Wk.data rfl) (.cons (Wk.data rfl) (.cons Wk.nil (.cons Wk.nil (.cons (Wk.data rfl) .nil)))))) .nil)
        generalize encode ⟨true, es, [], [], ms⟩ = EN at *
        obtain ⟨enb, ene⟩ := EN
        dsimp only at ce cq ⊢
        rw [← f1] at ca
        rw [← f2] at cm
        try unfold bxR at cm
        try dsimp only at cm
        clear hp1 hq1 hq2
        cases bad2 with
        | true =>
          rw [if_neg (by simp)]
          refine AFn_intro Try.func14 rfl Try.ntmps14 rfl (by simp) [_, _] rfl fun E hE => ?_; have hnt : (!true) = false := rfl; have hnf : (!false) = true := rfl
          have d0 := ccall Try.func25 (c0) (by decide +kernel) (by decide +kernel)
          have d1 := ccall Try.func27 (c1) (by decide +kernel) (by decide +kernel)
          have d2 := acall Try.func26 (c2) (by decide +kernel) (by decide +kernel)
          have d3 := ccall Try.func28 (ca) (by decide +kernel) (by decide +kernel)
          have d4 := ccall Try.func34 (cm) (by decide +kernel) (by decide +kernel)
          have d5 := acall Try.func18 (ce) (by decide +kernel) (by decide +kernel)
          have d7 := acall Try.func26 (cq) (by decide +kernel) (by decide +kernel)
          refine wX ?_
          (apply WcN [] [16]; (focus (exact o_ccall [(5, 16)] d0 rfl rfl rfl rfl (by repeat (first | exact .nil | refine .cons (.inl ⟨rfl, rfl⟩) ?_ | refine .cons (.inr ⟨rfl, fun _ => Wk.tok⟩) ?_)) (by repeat' (first | exact True.intro | rfl | apply And.intro)) (by repeat' (first | exact True.intro | rfl | apply And.intro)) rfl rfl rfl)); (focus (exact rfl)); (focus (exact rfl)); (focus (first | exact want_n | exact want_g rfl (by with_reducible rfl))))
          refine wX ?_
          (apply WvN [16]; (focus (exact o_rcall [(1000, 16)] d1 rfl rfl rfl rfl rfl (by repeat (first | exact .nil | refine .cons (.inl ⟨rfl, rfl⟩) ?_ | refine .cons (.inr ⟨rfl, fun _ => Wk.tok⟩) ?_)) (by repeat' (first | exact True.intro | rfl | apply And.intro)) (by repeat' (first | exact True.intro | rfl | apply And.intro)) rfl rfl)); (focus (exact rfl)); (focus (first | exact want_n | exact want_g rfl (by with_reducible rfl))))
          refine wX ?_
          (apply WcN [28] [28]; (focus (exact o_ccalld [(1000, 28)] d3 rfl rfl rfl rfl rfl (by repeat (first | exact .nil | refine .cons (.inl ⟨rfl, rfl⟩) ?_ | refine .cons (.inr ⟨rfl, fun _ => Wk.tok⟩) ?_)) (by repeat' (first | exact True.intro | rfl | apply And.intro)) (by repeat' (first | exact True.intro | rfl | apply And.intro)) rfl rfl)); (focus (exact rfl)); (focus (exact rfl)); (focus (first | exact want_n | exact want_g rfl (by with_reducible rfl))))
          refine wX ?_
          (apply WcN [28] [28]; (focus (exact o_ccalld [(1000, 28)] d4 rfl rfl rfl rfl rfl (by repeat (first | exact .nil | refine .cons (.inl ⟨rfl, rfl⟩) ?_ | refine .cons (.inr ⟨rfl, fun _ => Wk.tok⟩) ?_)) (by repeat' (first | exact True.intro | rfl | apply And.intro)) (by repeat' (first | exact True.intro | rfl | apply And.intro)) rfl rfl)); (focus (exact rfl)); (focus (exact rfl)); (focus (first | exact want_n | exact want_g rfl (by with_reducible rfl))))
          refine wX ?_
          rw [decide_eq_true hl']
          refine Was 66 (nodeA true (entsA es) nilA nilA (msgsA ms)) rfl ?_
          refine wX ?_
          exact fin ⟨res_varl rfl rfl rfl (fun _ => by (repeat (first | exact wkl0 | refine wkd rfl ?_ | refine wkt ?_ | refine wkn ?_))), res_of rfl rfl rfl, trivial⟩
        | false =>
          by_cases he : ene = 0
          · by_cases hq : enb = b
            · rw [if_pos ⟨rfl, he, hq⟩]
              rw [decide_eq_true hq] at cq
              refine AFn_intro Try.func14 rfl Try.ntmps14 rfl (by simp) [_, _] rfl fun E hE => ?_; have hnt : (!true) = false := rfl; have hnf : (!false) = true := rfl
              have d0 := ccall Try.func25 (c0) (by decide +kernel) (by decide +kernel)
              have d1 := ccall Try.func27 (c1) (by decide +kernel) (by decide +kernel)
              have d2 := acall Try.func26 (c2) (by decide +kernel) (by decide +kernel)
              have d3 := ccall Try.func28 (ca) (by decide +kernel) (by decide +kernel)
              have d4 := ccall Try.func34 (cm) (by decide +kernel) (by decide +kernel)
              have d5 := acall Try.func18 (ce) (by decide +kernel) (by decide +kernel)
              have d7 := acall Try.func26 (cq) (by decide +kernel) (by decide +kernel)
              refine wX ?_
              (apply WcN [] [16]; (focus (exact o_ccall [(5, 16)] d0 rfl rfl rfl rfl (by repeat (first | exact .nil | refine .cons (.inl ⟨rfl, rfl⟩) ?_ | refine .cons (.inr ⟨rfl, fun _ => Wk.tok⟩) ?_)) (by repeat' (first | exact True.intro | rfl | apply And.intro)) (by repeat' (first | exact True.intro | rfl | apply And.intro)) rfl rfl rfl)); (focus (exact rfl)); (focus (exact rfl)); (focus (first | exact want_n | exact want_g rfl (by with_reducible rfl))))
              refine wX ?_
              (apply WvN [16]; (focus (exact o_rcall [(1000, 16)] d1 rfl rfl rfl rfl rfl (by repeat (first | exact .nil | refine .cons (.inl ⟨rfl, rfl⟩) ?_ | refine .cons (.inr ⟨rfl, fun _ => Wk.tok⟩) ?_)) (by repeat' (first | exact True.intro | rfl | apply And.intro)) (by repeat' (first | exact True.intro | rfl | apply And.intro)) rfl rfl)); (focus (exact rfl)); (focus (first | exact want_n | exact want_g rfl (by with_reducible rfl))))
              refine wX ?_
              (apply WcN [28] [28]; (focus (exact o_ccalld [(1000, 28)] d3 rfl rfl rfl rfl rfl (by repeat (first | exact .nil | refine .cons (.inl ⟨rfl, rfl⟩) ?_ | refine .cons (.inr ⟨rfl, fun _ => Wk.tok⟩) ?_)) (by repeat' (first | exact True.intro | rfl | apply And.intro)) (by repeat' (first | exact True.intro | rfl | apply And.intro)) rfl rfl)); (focus (exact rfl)); (focus (exact rfl)); (focus (first | exact want_n | exact want_g rfl (by with_reducible rfl))))
              refine wX ?_
              (apply WcN [28] [28]; (focus (exact o_ccalld [(1000, 28)] d4 rfl rfl rfl rfl rfl (by repeat (first | exact .nil | refine .cons (.inl ⟨rfl, rfl⟩) ?_ | refine .cons (.inr ⟨rfl, fun _ => Wk.tok⟩) ?_)) (by repeat' (first | exact True.intro | rfl | apply And.intro)) (by repeat' (first | exact True.intro | rfl | apply And.intro)) rfl rfl)); (focus (exact rfl)); (focus (exact rfl)); (focus (first | exact want_n | exact want_g rfl (by with_reducible rfl))))
              refine wX ?_
              rw [decide_eq_true hl']
              refine Was 66 (nodeA true (entsA es) nilA nilA (msgsA ms)) rfl ?_
              refine wX ?_
              exact fin ⟨res_varl rfl rfl rfl (fun _ => by (repeat (first | exact wkl0 | refine wkd rfl ?_ | refine wkt ?_ | refine wkn ?_))), res_of rfl rfl rfl, trivial⟩
            · rw [if_neg (fun h => hq h.2.2)]
              rw [decide_eq_false hq] at cq
              refine AFn_intro Try.func14 rfl Try.ntmps14 rfl (by simp) [_, _] rfl fun E hE => ?_; have hnt : (!true) = false := rfl; have hnf : (!false) = true := rfl
              have d0 := ccall Try.func25 (c0) (by decide +kernel) (by decide +kernel)
              have d1 := ccall Try.func27 (c1) (by decide +kernel) (by decide +kernel)
              have d2 := acall Try.func26 (c2) (by decide +kernel) (by decide +kernel)
              have d3 := ccall Try.func28 (ca) (by decide +kernel) (by decide +kernel)
              have d4 := ccall Try.func34 (cm) (by decide +kernel) (by decide +kernel)
              have d5 := acall Try.func18 (ce) (by decide +kernel) (by decide +kernel)
              have d7 := acall Try.func26 (cq) (by decide +kernel) (by decide +kernel)
              refine wX ?_
              (apply WcN [] [16]; (focus (exact o_ccall [(5, 16)] d0 rfl rfl rfl rfl (by repeat (first | exact .nil | refine .cons (.inl ⟨rfl, rfl⟩) ?_ | refine .cons (.inr ⟨rfl, fun _ => Wk.tok⟩) ?_)) (by repeat' (first | exact True.intro | rfl | apply And.intro)) (by repeat' (first | exact True.intro | rfl | apply And.intro)) rfl rfl rfl)); (focus (exact rfl)); (focus (exact rfl)); (focus (first | exact want_n | exact want_g rfl (by with_reducible rfl))))
              refine wX ?_
              (apply WvN [16]; (focus (exact o_rcall [(1000, 16)] d1 rfl rfl rfl rfl rfl (by repeat (first | exact .nil | refine .cons (.inl ⟨rfl, rfl⟩) ?_ | refine .cons (.inr ⟨rfl, fun _ => Wk.tok⟩) ?_)) (by repeat' (first | exact True.intro | rfl | apply And.intro)) (by repeat' (first | exact True.intro | rfl | apply And.intro)) rfl rfl)); (focus (exact rfl)); (focus (first | exact want_n | exact want_g rfl (by with_reducible rfl))))
              refine wX ?_
              (apply WcN [28] [28]; (focus (exact o_ccalld [(1000, 28)] d3 rfl rfl rfl rfl rfl (by repeat (first | exact .nil | refine .cons (.inl ⟨rfl, rfl⟩) ?_ | refine .cons (.inr ⟨rfl, fun _ => Wk.tok⟩) ?_)) (by repeat' (first | exact True.intro | rfl | apply And.intro)) (by repeat' (first | exact True.intro | rfl | apply And.intro)) rfl rfl)); (focus (exact rfl)); (focus (exact rfl)); (focus (first | exact want_n | exact want_g rfl (by with_reducible rfl))))
              refine wX ?_
              (apply WcN [28] [28]; (focus (exact o_ccalld [(1000, 28)] d4 rfl rfl rfl rfl rfl (by repeat (first | exact .nil | refine .cons (.inl ⟨rfl, rfl⟩) ?_ | refine .cons (.inr ⟨rfl, fun _ => Wk.tok⟩) ?_)) (by repeat' (first | exact True.intro | rfl | apply And.intro)) (by repeat' (first | exact True.intro | rfl | apply And.intro)) rfl rfl)); (focus (exact rfl)); (focus (exact rfl)); (focus (first | exact want_n | exact want_g rfl (by with_reducible rfl))))
              refine wX ?_
              rw [decide_eq_true hl']
              refine Was 66 (nodeA true (entsA es) nilA nilA (msgsA ms)) rfl ?_
              refine wX ?_
              exact fin ⟨res_varl rfl rfl rfl (fun _ => by (repeat (first | exact wkl0 | refine wkd rfl ?_ | refine wkt ?_ | refine wkn ?_))), res_of rfl rfl rfl, trivial⟩
          · rw [if_neg (fun h => he h.2.1)]
            refine AFn_intro Try.func14 rfl Try.ntmps14 rfl (by simp) [_, _] rfl fun E hE => ?_; have hnt : (!true) = false := rfl; have hnf : (!false) = true := rfl
            have d0 := ccall Try.func25 (c0) (by decide +kernel) (by decide +kernel)
            have d1 := ccall Try.func27 (c1) (by decide +kernel) (by decide +kernel)
            have d2 := acall Try.func26 (c2) (by decide +kernel) (by decide +kernel)
            have d3 := ccall Try.func28 (ca) (by decide +kernel) (by decide +kernel)
            have d4 := ccall Try.func34 (cm) (by decide +kernel) (by decide +kernel)
            have d5 := acall Try.func18 (ce) (by decide +kernel) (by decide +kernel)
            have d7 := acall Try.func26 (cq) (by decide +kernel) (by decide +kernel)
            refine wX ?_
            (apply WcN [] [16]; (focus (exact o_ccall [(5, 16)] d0 rfl rfl rfl rfl (by repeat (first | exact .nil | refine .cons (.inl ⟨rfl, rfl⟩) ?_ | refine .cons (.inr ⟨rfl, fun _ => Wk.tok⟩) ?_)) (by repeat' (first | exact True.intro | rfl | apply And.intro)) (by repeat' (first | exact True.intro | rfl | apply And.intro)) rfl rfl rfl)); (focus (exact rfl)); (focus (exact rfl)); (focus (first | exact want_n | exact want_g rfl (by with_reducible rfl))))
            refine wX ?_
            (apply WvN [16]; (focus (exact o_rcall [(1000, 16)] d1 rfl rfl rfl rfl rfl (by repeat (first | exact .nil | refine .cons (.inl ⟨rfl, rfl⟩) ?_ | refine .cons (.inr ⟨rfl, fun _ => Wk.tok⟩) ?_)) (by repeat' (first | exact True.intro | rfl | apply And.intro)) (by repeat' (first | exact True.intro | rfl | apply And.intro)) rfl rfl)); (focus (exact rfl)); (focus (first | exact want_n | exact want_g rfl (by with_reducible rfl))))
            refine wX ?_
            (apply WcN [28] [28]; (focus (exact o_ccalld [(1000, 28)] d3 rfl rfl rfl rfl rfl (by repeat (first | exact .nil | refine .cons (.inl ⟨rfl, rfl⟩) ?_ | refine .cons (.inr ⟨rfl, fun _ => Wk.tok⟩) ?_)) (by repeat' (first | exact True.intro | rfl | apply And.intro)) (by repeat' (first | exact True.intro | rfl | apply And.intro)) rfl rfl)); (focus (exact rfl)); (focus (exact rfl)); (focus (first | exact want_n | exact want_g rfl (by with_reducible rfl))))
            refine wX ?_
            (apply WcN [28] [28]; (focus (exact o_ccalld [(1000, 28)] d4 rfl rfl rfl rfl rfl (by repeat (first | exact .nil | refine .cons (.inl ⟨rfl, rfl⟩) ?_ | refine .cons (.inr ⟨rfl, fun _ => Wk.tok⟩) ?_)) (by repeat' (first | exact True.intro | rfl | apply And.intro)) (by repeat' (first | exact True.intro | rfl | apply And.intro)) rfl rfl)); (focus (exact rfl)); (focus (exact rfl)); (focus (first | exact want_n | exact want_g rfl (by with_reducible rfl))))
            refine wX ?_
            rw [decide_eq_true hl']
            refine Was 66 (nodeA true (entsA es) nilA nilA (msgsA ms)) rfl ?_
            refine wX ?_
            exact fin ⟨res_varl rfl rfl rfl (fun _ => by (repeat (first | exact wkl0 | refine wkd rfl ?_ | refine wkt ?_ | refine wkn ?_))), res_of rfl rfl rfl, trivial⟩
      · have hl' : ¬ B8 (b[0]'(by omega)) = 1 := by rw [f0]; exact fun h => hl (B8_one.1 h)
        have en : rdNode b = (⟨false, [], (rdMany (rdKid b) (byAt b 1).toNat ⟨8, false⟩).1, (rdMany (rdKey b) ((byAt b 1).toNat - 1) (rdMany (rdKid b) (byAt b 1).toNat ⟨8, false⟩).2).1, (rdMany (rdMsg b) (byAt b 2).toNat (rdMany (rdKey b) ((byAt b 1).toNat - 1) (rdMany (rdKid b) (byAt b 1).toNat ⟨8, false⟩).2).2).1⟩,
          (rdMany (rdMsg b) (byAt b 2).toNat (rdMany (rdKey b) ((byAt b 1).toNat - 1) (rdMany (rdKid b) (byAt b 1).toNat ⟨8, false⟩).2).2).2) := by unfold rdNode; rw [if_neg hl]
        have hp1 := rdMany_pos (rdKid b) (rdKid_pos b) ⟨8, false⟩ (byAt b 1).toNat
        have hp2 := rdMany_pos (rdKey b) (fun s => by have := rdKey_pos b s; omega) (rdMany (rdKid b) (byAt b 1).toNat ⟨8, false⟩).2 ((byAt b 1).toNat - 1)
        have hq1 := (byAt b 1).isLt
        have hq2 := (byAt b 2).isLt
        dsimp only at hp1
        have ca := c_some_kid b ⟨8, false⟩ ((byAt b 1).toNat : Nat) hb (by dsimp only; omega) (by omega)
        rw [Int.toNat_natCast] at ca
        have ck := c_some_key b (rdMany (rdKid b) (byAt b 1).toNat ⟨8, false⟩).2 (((byAt b 1).toNat : Nat) - 1) hb (by omega) (by omega)
        rw [show ((((byAt b 1).toNat : Nat) : Int) - 1).toNat = (byAt b 1).toNat - 1 by omega] at ck
        have cm := c_some_msg b (rdMany (rdKey b) ((byAt b 1).toNat - 1) (rdMany (rdKid b) (byAt b 1).toNat ⟨8, false⟩).2).2 ((byAt b 2).toNat : Nat) hb (by omega) (by omega)
        rw [Int.toNat_natCast] at cm
        rw [en] at ce cq ⊢
        generalize rdMany (rdKid b) (byAt b 1).toNat ⟨8, false⟩ = RE at *
        obtain ⟨ks, s1⟩ := RE
        dsimp only at cm ck ca ce cq hp1 hp2 ⊢
        generalize rdMany (rdKey b) ((byAt b 1).toNat - 1) s1 = RK at *
        obtain ⟨ps, s3⟩ := RK
        dsimp only at cm ck ca ce cq hp2 ⊢
        generalize rdMany (rdMsg b) (byAt b 2).toNat s3 = RM at *
        obtain ⟨ms, ⟨p2, bad2⟩⟩ := RM
        dsimp only at cm ck ca ce cq ⊢
        clear en
        have ce := AFn_weak ce (xs := [nodeA false nilA (intsA ks) (keysA ps) (msgsA ms)]) (fun H => .cons (Wk.agg (.cons (Wk.data rfl) (.cons Wk.nil (.cons (Wk.data rfl) (.cons (Wk.data rfl) (.cons (Wk.data rfl) .nil)))))) .nil)
        generalize encode ⟨false, [], ks, ps, ms⟩ = EN at *
        obtain ⟨enb, ene⟩ := EN
        dsimp only at ce cq ⊢
        rw [← f1] at ca ck
        rw [← f2] at cm
        have hq3 := (b[1]'(by omega)).isLt
        try unfold bxR at cm
        try dsimp only at cm
        clear hp1 hp2 hq1 hq2
        cases bad2 with
        | true =>
          rw [if_neg (by simp)]
          refine AFn_intro Try.func14 rfl Try.ntmps14 rfl (by simp) [_, _] rfl fun E hE => ?_; have hnt : (!true) = false := rfl; have hnf : (!false) = true := rfl
          have d0 := ccall Try.func25 (c0) (by decide +kernel) (by decide +kernel)
          have d1 := ccall Try.func27 (c1) (by decide +kernel) (by decide +kernel)
          have d2 := acall Try.func26 (c2) (by decide +kernel) (by decide +kernel)
          have d3 := ccall Try.func30 (ca) (by decide +kernel) (by decide +kernel)
          have d6 := ccall Try.func32 (ck) (by decide +kernel) (by decide +kernel)
          have d4 := ccall Try.func34 (cm) (by decide +kernel) (by decide +kernel)
          have d5 := acall Try.func18 (ce) (by decide +kernel) (by decide +kernel)
          have d7 := acall Try.func26 (cq) (by decide +kernel) (by decide +kernel)
          refine wX ?_
          (apply WcN [] [16]; (focus (exact o_ccall [(5, 16)] d0 rfl rfl rfl rfl (by repeat (first | exact .nil | refine .cons (.inl ⟨rfl, rfl⟩) ?_ | refine .cons (.inr ⟨rfl, fun _ => Wk.tok⟩) ?_)) (by repeat' (first | exact True.intro | rfl | apply And.intro)) (by repeat' (first | exact True.intro | rfl | apply And.intro)) rfl rfl rfl)); (focus (exact rfl)); (focus (exact rfl)); (focus (first | exact want_n | exact want_g rfl (by with_reducible rfl))))
          refine wX ?_
          (apply WvN [16]; (focus (exact o_rcall [(1000, 16)] d1 rfl rfl rfl rfl rfl (by repeat (first | exact .nil | refine .cons (.inl ⟨rfl, rfl⟩) ?_ | refine .cons (.inr ⟨rfl, fun _ => Wk.tok⟩) ?_)) (by repeat' (first | exact True.intro | rfl | apply And.intro)) (by repeat' (first | exact True.intro | rfl | apply And.intro)) rfl rfl)); (focus (exact rfl)); (focus (first | exact want_n | exact want_g rfl (by with_reducible rfl))))
          refine wX ?_
          (apply WcN [28] [28]; (focus (exact o_ccalld [(1000, 28)] d3 rfl rfl rfl rfl rfl (by repeat (first | exact .nil | refine .cons (.inl ⟨rfl, rfl⟩) ?_ | refine .cons (.inr ⟨rfl, fun _ => Wk.tok⟩) ?_)) (by repeat' (first | exact True.intro | rfl | apply And.intro)) (by repeat' (first | exact True.intro | rfl | apply And.intro)) rfl rfl)); (focus (exact rfl)); (focus (exact rfl)); (focus (first | exact want_n | exact want_g rfl (by with_reducible rfl))))
          refine wX ?_
          (apply WcN [28] [28]; (focus (exact o_ccalld [(1000, 28)] d6 rfl rfl rfl rfl rfl (by repeat (first | exact .nil | refine .cons (.inl ⟨rfl, rfl⟩) ?_ | refine .cons (.inr ⟨rfl, fun _ => Wk.tok⟩) ?_)) (by repeat' (first | exact True.intro | rfl | apply And.intro)) (by repeat' (first | exact True.intro | rfl | apply And.intro)) rfl rfl)); (focus (exact rfl)); (focus (exact rfl)); (focus (first | exact want_n | exact want_g rfl (by with_reducible rfl))))
          refine wX ?_
          (apply WcN [28] [28]; (focus (exact o_ccalld [(1000, 28)] d4 rfl rfl rfl rfl rfl (by repeat (first | exact .nil | refine .cons (.inl ⟨rfl, rfl⟩) ?_ | refine .cons (.inr ⟨rfl, fun _ => Wk.tok⟩) ?_)) (by repeat' (first | exact True.intro | rfl | apply And.intro)) (by repeat' (first | exact True.intro | rfl | apply And.intro)) rfl rfl)); (focus (exact rfl)); (focus (exact rfl)); (focus (first | exact want_n | exact want_g rfl (by with_reducible rfl))))
          refine wX ?_
          rw [decide_eq_false hl']
          refine Was 66 (nodeA false nilA (intsA ks) (keysA ps) (msgsA ms)) rfl ?_
          refine wX ?_
          exact fin ⟨res_varl rfl rfl rfl (fun _ => by (repeat (first | exact wkl0 | refine wkd rfl ?_ | refine wkt ?_ | refine wkn ?_))), res_of rfl rfl rfl, trivial⟩
        | false =>
          by_cases he : ene = 0
          · by_cases hq : enb = b
            · rw [if_pos ⟨rfl, he, hq⟩]
              rw [decide_eq_true hq] at cq
              refine AFn_intro Try.func14 rfl Try.ntmps14 rfl (by simp) [_, _] rfl fun E hE => ?_; have hnt : (!true) = false := rfl; have hnf : (!false) = true := rfl
              have d0 := ccall Try.func25 (c0) (by decide +kernel) (by decide +kernel)
              have d1 := ccall Try.func27 (c1) (by decide +kernel) (by decide +kernel)
              have d2 := acall Try.func26 (c2) (by decide +kernel) (by decide +kernel)
              have d3 := ccall Try.func30 (ca) (by decide +kernel) (by decide +kernel)
              have d6 := ccall Try.func32 (ck) (by decide +kernel) (by decide +kernel)
              have d4 := ccall Try.func34 (cm) (by decide +kernel) (by decide +kernel)
              have d5 := acall Try.func18 (ce) (by decide +kernel) (by decide +kernel)
              have d7 := acall Try.func26 (cq) (by decide +kernel) (by decide +kernel)
              refine wX ?_
              (apply WcN [] [16]; (focus (exact o_ccall [(5, 16)] d0 rfl rfl rfl rfl (by repeat (first | exact .nil | refine .cons (.inl ⟨rfl, rfl⟩) ?_ | refine .cons (.inr ⟨rfl, fun _ => Wk.tok⟩) ?_)) (by repeat' (first | exact True.intro | rfl | apply And.intro)) (by repeat' (first | exact True.intro | rfl | apply And.intro)) rfl rfl rfl)); (focus (exact rfl)); (focus (exact rfl)); (focus (first | exact want_n | exact want_g rfl (by with_reducible rfl))))
              refine wX ?_
              (apply WvN [16]; (focus (exact o_rcall [(1000, 16)] d1 rfl rfl rfl rfl rfl (by repeat (first | exact .nil | refine .cons (.inl ⟨rfl, rfl⟩) ?_ | refine .cons (.inr ⟨rfl, fun _ => Wk.tok⟩) ?_)) (by repeat' (first | exact True.intro | rfl | apply And.intro)) (by repeat' (first | exact True.intro | rfl | apply And.intro)) rfl rfl)); (focus (exact rfl)); (focus (first | exact want_n | exact want_g rfl (by with_reducible rfl))))
              refine wX ?_
              (apply WcN [28] [28]; (focus (exact o_ccalld [(1000, 28)] d3 rfl rfl rfl rfl rfl (by repeat (first | exact .nil | refine .cons (.inl ⟨rfl, rfl⟩) ?_ | refine .cons (.inr ⟨rfl, fun _ => Wk.tok⟩) ?_)) (by repeat' (first | exact True.intro | rfl | apply And.intro)) (by repeat' (first | exact True.intro | rfl | apply And.intro)) rfl rfl)); (focus (exact rfl)); (focus (exact rfl)); (focus (first | exact want_n | exact want_g rfl (by with_reducible rfl))))
              refine wX ?_
              (apply WcN [28] [28]; (focus (exact o_ccalld [(1000, 28)] d6 rfl rfl rfl rfl rfl (by repeat (first | exact .nil | refine .cons (.inl ⟨rfl, rfl⟩) ?_ | refine .cons (.inr ⟨rfl, fun _ => Wk.tok⟩) ?_)) (by repeat' (first | exact True.intro | rfl | apply And.intro)) (by repeat' (first | exact True.intro | rfl | apply And.intro)) rfl rfl)); (focus (exact rfl)); (focus (exact rfl)); (focus (first | exact want_n | exact want_g rfl (by with_reducible rfl))))
              refine wX ?_
              (apply WcN [28] [28]; (focus (exact o_ccalld [(1000, 28)] d4 rfl rfl rfl rfl rfl (by repeat (first | exact .nil | refine .cons (.inl ⟨rfl, rfl⟩) ?_ | refine .cons (.inr ⟨rfl, fun _ => Wk.tok⟩) ?_)) (by repeat' (first | exact True.intro | rfl | apply And.intro)) (by repeat' (first | exact True.intro | rfl | apply And.intro)) rfl rfl)); (focus (exact rfl)); (focus (exact rfl)); (focus (first | exact want_n | exact want_g rfl (by with_reducible rfl))))
              refine wX ?_
              rw [decide_eq_false hl']
              refine Was 66 (nodeA false nilA (intsA ks) (keysA ps) (msgsA ms)) rfl ?_
              refine wX ?_
              exact fin ⟨res_varl rfl rfl rfl (fun _ => by (repeat (first | exact wkl0 | refine wkd rfl ?_ | refine wkt ?_ | refine wkn ?_))), res_of rfl rfl rfl, trivial⟩
            · rw [if_neg (fun h => hq h.2.2)]
              rw [decide_eq_false hq] at cq
              refine AFn_intro Try.func14 rfl Try.ntmps14 rfl (by simp) [_, _] rfl fun E hE => ?_; have hnt : (!true) = false := rfl; have hnf : (!false) = true := rfl
              have d0 := ccall Try.func25 (c0) (by decide +kernel) (by decide +kernel)
              have d1 := ccall Try.func27 (c1) (by decide +kernel) (by decide +kernel)
              have d2 := acall Try.func26 (c2) (by decide +kernel) (by decide +kernel)
              have d3 := ccall Try.func30 (ca) (by decide +kernel) (by decide +kernel)
              have d6 := ccall Try.func32 (ck) (by decide +kernel) (by decide +kernel)
              have d4 := ccall Try.func34 (cm) (by decide +kernel) (by decide +kernel)
              have d5 := acall Try.func18 (ce) (by decide +kernel) (by decide +kernel)
              have d7 := acall Try.func26 (cq) (by decide +kernel) (by decide +kernel)
              refine wX ?_
              (apply WcN [] [16]; (focus (exact o_ccall [(5, 16)] d0 rfl rfl rfl rfl (by repeat (first | exact .nil | refine .cons (.inl ⟨rfl, rfl⟩) ?_ | refine .cons (.inr ⟨rfl, fun _ => Wk.tok⟩) ?_)) (by repeat' (first | exact True.intro | rfl | apply And.intro)) (by repeat' (first | exact True.intro | rfl | apply And.intro)) rfl rfl rfl)); (focus (exact rfl)); (focus (exact rfl)); (focus (first | exact want_n | exact want_g rfl (by with_reducible rfl))))
              refine wX ?_
              (apply WvN [16]; (focus (exact o_rcall [(1000, 16)] d1 rfl rfl rfl rfl rfl (by repeat (first | exact .nil | refine .cons (.inl ⟨rfl, rfl⟩) ?_ | refine .cons (.inr ⟨rfl, fun _ => Wk.tok⟩) ?_)) (by repeat' (first | exact True.intro | rfl | apply And.intro)) (by repeat' (first | exact True.intro | rfl | apply And.intro)) rfl rfl)); (focus (exact rfl)); (focus (first | exact want_n | exact want_g rfl (by with_reducible rfl))))
              refine wX ?_
              (apply WcN [28] [28]; (focus (exact o_ccalld [(1000, 28)] d3 rfl rfl rfl rfl rfl (by repeat (first | exact .nil | refine .cons (.inl ⟨rfl, rfl⟩) ?_ | refine .cons (.inr ⟨rfl, fun _ => Wk.tok⟩) ?_)) (by repeat' (first | exact True.intro | rfl | apply And.intro)) (by repeat' (first | exact True.intro | rfl | apply And.intro)) rfl rfl)); (focus (exact rfl)); (focus (exact rfl)); (focus (first | exact want_n | exact want_g rfl (by with_reducible rfl))))
              refine wX ?_
              (apply WcN [28] [28]; (focus (exact o_ccalld [(1000, 28)] d6 rfl rfl rfl rfl rfl (by repeat (first | exact .nil | refine .cons (.inl ⟨rfl, rfl⟩) ?_ | refine .cons (.inr ⟨rfl, fun _ => Wk.tok⟩) ?_)) (by repeat' (first | exact True.intro | rfl | apply And.intro)) (by repeat' (first | exact True.intro | rfl | apply And.intro)) rfl rfl)); (focus (exact rfl)); (focus (exact rfl)); (focus (first | exact want_n | exact want_g rfl (by with_reducible rfl))))
              refine wX ?_
              (apply WcN [28] [28]; (focus (exact o_ccalld [(1000, 28)] d4 rfl rfl rfl rfl rfl (by repeat (first | exact .nil | refine .cons (.inl ⟨rfl, rfl⟩) ?_ | refine .cons (.inr ⟨rfl, fun _ => Wk.tok⟩) ?_)) (by repeat' (first | exact True.intro | rfl | apply And.intro)) (by repeat' (first | exact True.intro | rfl | apply And.intro)) rfl rfl)); (focus (exact rfl)); (focus (exact rfl)); (focus (first | exact want_n | exact want_g rfl (by with_reducible rfl))))
              refine wX ?_
              rw [decide_eq_false hl']
              refine Was 66 (nodeA false nilA (intsA ks) (keysA ps) (msgsA ms)) rfl ?_
              refine wX ?_
              exact fin ⟨res_varl rfl rfl rfl (fun _ => by (repeat (first | exact wkl0 | refine wkd rfl ?_ | refine wkt ?_ | refine wkn ?_))), res_of rfl rfl rfl, trivial⟩
          · rw [if_neg (fun h => he h.2.1)]
            refine AFn_intro Try.func14 rfl Try.ntmps14 rfl (by simp) [_, _] rfl fun E hE => ?_; have hnt : (!true) = false := rfl; have hnf : (!false) = true := rfl
            have d0 := ccall Try.func25 (c0) (by decide +kernel) (by decide +kernel)
            have d1 := ccall Try.func27 (c1) (by decide +kernel) (by decide +kernel)
            have d2 := acall Try.func26 (c2) (by decide +kernel) (by decide +kernel)
            have d3 := ccall Try.func30 (ca) (by decide +kernel) (by decide +kernel)
            have d6 := ccall Try.func32 (ck) (by decide +kernel) (by decide +kernel)
            have d4 := ccall Try.func34 (cm) (by decide +kernel) (by decide +kernel)
            have d5 := acall Try.func18 (ce) (by decide +kernel) (by decide +kernel)
            have d7 := acall Try.func26 (cq) (by decide +kernel) (by decide +kernel)
            refine wX ?_
            (apply WcN [] [16]; (focus (exact o_ccall [(5, 16)] d0 rfl rfl rfl rfl (by repeat (first | exact .nil | refine .cons (.inl ⟨rfl, rfl⟩) ?_ | refine .cons (.inr ⟨rfl, fun _ => Wk.tok⟩) ?_)) (by repeat' (first | exact True.intro | rfl | apply And.intro)) (by repeat' (first | exact True.intro | rfl | apply And.intro)) rfl rfl rfl)); (focus (exact rfl)); (focus (exact rfl)); (focus (first | exact want_n | exact want_g rfl (by with_reducible rfl))))
            refine wX ?_
            (apply WvN [16]; (focus (exact o_rcall [(1000, 16)] d1 rfl rfl rfl rfl rfl (by repeat (first | exact .nil | refine .cons (.inl ⟨rfl, rfl⟩) ?_ | refine .cons (.inr ⟨rfl, fun _ => Wk.tok⟩) ?_)) (by repeat' (first | exact True.intro | rfl | apply And.intro)) (by repeat' (first | exact True.intro | rfl | apply And.intro)) rfl rfl)); (focus (exact rfl)); (focus (first | exact want_n | exact want_g rfl (by with_reducible rfl))))
            refine wX ?_
            (apply WcN [28] [28]; (focus (exact o_ccalld [(1000, 28)] d3 rfl rfl rfl rfl rfl (by repeat (first | exact .nil | refine .cons (.inl ⟨rfl, rfl⟩) ?_ | refine .cons (.inr ⟨rfl, fun _ => Wk.tok⟩) ?_)) (by repeat' (first | exact True.intro | rfl | apply And.intro)) (by repeat' (first | exact True.intro | rfl | apply And.intro)) rfl rfl)); (focus (exact rfl)); (focus (exact rfl)); (focus (first | exact want_n | exact want_g rfl (by with_reducible rfl))))
            refine wX ?_
            (apply WcN [28] [28]; (focus (exact o_ccalld [(1000, 28)] d6 rfl rfl rfl rfl rfl (by repeat (first | exact .nil | refine .cons (.inl ⟨rfl, rfl⟩) ?_ | refine .cons (.inr ⟨rfl, fun _ => Wk.tok⟩) ?_)) (by repeat' (first | exact True.intro | rfl | apply And.intro)) (by repeat' (first | exact True.intro | rfl | apply And.intro)) rfl rfl)); (focus (exact rfl)); (focus (exact rfl)); (focus (first | exact want_n | exact want_g rfl (by with_reducible rfl))))
            refine wX ?_
            (apply WcN [28] [28]; (focus (exact o_ccalld [(1000, 28)] d4 rfl rfl rfl rfl rfl (by repeat (first | exact .nil | refine .cons (.inl ⟨rfl, rfl⟩) ?_ | refine .cons (.inr ⟨rfl, fun _ => Wk.tok⟩) ?_)) (by repeat' (first | exact True.intro | rfl | apply And.intro)) (by repeat' (first | exact True.intro | rfl | apply And.intro)) rfl rfl)); (focus (exact rfl)); (focus (exact rfl)); (focus (first | exact want_n | exact want_g rfl (by with_reducible rfl))))
            refine wX ?_
            rw [decide_eq_false hl']
            refine Was 66 (nodeA false nilA (intsA ks) (keysA ps) (msgsA ms)) rfl ?_
            refine wX ?_
            exact fin ⟨res_varl rfl rfl rfl (fun _ => by (repeat (first | exact wkl0 | refine wkd rfl ?_ | refine wkt ?_ | refine wkn ?_))), res_of rfl rfl rfl, trivial⟩
    · rw [decide_eq_false hs] at c2
      unfold sum4 sumIn at c2
      have hd0 : decode b = (Nd.zero, 5) := by unfold decode; rw [if_pos h256, if_neg hs]
      rw [hd0]
      refine AFn_intro Try.func14 rfl Try.ntmps14 rfl (by simp) [_, _] rfl fun E hE => ?_; have hnt : (!true) = false := rfl; have hnf : (!false) = true := rfl
      have d0 := ccall Try.func25 (c0) (by decide +kernel) (by decide +kernel)
      have d1 := ccall Try.func27 (c1) (by decide +kernel) (by decide +kernel)
      have d2 := acall Try.func26 (c2) (by decide +kernel) (by decide +kernel)
      refine wX ?_
      (apply WcN [] [16]; (focus (exact o_ccall [(5, 16)] d0 rfl rfl rfl rfl (by repeat (first | exact .nil | refine .cons (.inl ⟨rfl, rfl⟩) ?_ | refine .cons (.inr ⟨rfl, fun _ => Wk.tok⟩) ?_)) (by repeat' (first | exact True.intro | rfl | apply And.intro)) (by repeat' (first | exact True.intro | rfl | apply And.intro)) rfl rfl rfl)); (focus (exact rfl)); (focus (exact rfl)); (focus (first | exact want_n | exact want_g rfl (by with_reducible rfl))))
      refine wX ?_
      (apply WvN [16]; (focus (exact o_rcall [(1000, 16)] d1 rfl rfl rfl rfl rfl (by repeat (first | exact .nil | refine .cons (.inl ⟨rfl, rfl⟩) ?_ | refine .cons (.inr ⟨rfl, fun _ => Wk.tok⟩) ?_)) (by repeat' (first | exact True.intro | rfl | apply And.intro)) (by repeat' (first | exact True.intro | rfl | apply And.intro)) rfl rfl)); (focus (exact rfl)); (focus (first | exact want_n | exact want_g rfl (by with_reducible rfl))))
      refine wX ?_
      exact fin ⟨res_varl rfl rfl rfl (fun _ => by (repeat (first | exact wkl0 | refine wkd rfl ?_ | refine wkt ?_ | refine wkn ?_))), res_of rfl rfl rfl, trivial⟩
  · have h256' : ¬ (b.length : Int) = 256 := by omega
    have e1 : decode b = (Nd.zero, 4) := by unfold decode; rw [if_neg h256]
    rw [e1]
    refine AFn_intro Try.func14 rfl Try.ntmps14 rfl (by simp) [_, _] rfl fun E hE => ?_; have hnt : (!true) = false := rfl; have hnf : (!false) = true := rfl
    refine wX ?_
    exact fin ⟨res_varl rfl rfl rfl (fun _ => by (repeat (first | exact wkl0 | refine wkd rfl ?_ | refine wkt ?_ | refine wkn ?_))), res_of rfl rfl rfl, trivial⟩
end Go.Proofs.Ytcmdhpinelnclaa

namespace Go.Proofs.Ytcmdhpinelnclaa
open Go Go.RowKit
set_option linter.unusedVariables false
set_option linter.unusedSimpArgs false
set_option maxRecDepth 100000

/-! ### plain law -/
def fN (b : List (BitVec 8)) (s : Rst) (w : Nat) : BitVec 64 × Rst := if s.bad = false ∧ s.pos + w ≤ b.length then (numAt b s.pos w, ⟨s.pos + w, false⟩) else (0#64, ⟨s.pos, true⟩)
def fT (b : List (BitVec 8)) (s : Rst) (m : Nat) : List (BitVec 8) × Rst :=
  if s.bad = false ∧ s.pos + 1 ≤ b.length ∧ cnt b s.pos ≤ m ∧ s.pos + 1 + cnt b s.pos ≤ b.length then (seg b (s.pos + 1) (cnt b s.pos), ⟨s.pos + 1 + cnt b s.pos, false⟩) else ([], ⟨(fN b s 1).2.pos, true⟩)
def fKey (b : List (BitVec 8)) (s : Rst) : Key × Rst := (mkKey (fT b s 8).1, (fT b s 8).2)
def fVl (b : List (BitVec 8)) (s : Rst) : Vl × Rst := (mkVl (fT b s 16).1, (fT b s 16).2)
def fKid (b : List (BitVec 8)) (s : Rst) : Int × Rst := ((fN b s 4).1.toInt, (fN b s 4).2)
def fEnt (b : List (BitVec 8)) (s : Rst) : Ent × Rst := (⟨(fKey b s).1, (fVl b (fKey b s).2).1⟩, (fVl b (fKey b s).2).2)
def fRest (b : List (BitVec 8)) (k : Int) (s : Rst) : (Vl × BitVec 64) × Rst := if k = 1 then (((fVl b s).1, 0#64), (fVl b s).2) else if k = 3 then ((Vl.zero, (fN b s 8).1), (fN b s 8).2) else ((Vl.zero, 0#64), s)
def fmK (b : List (BitVec 8)) (s : Rst) : Int := (fN b s 1).1.toInt
def fmS1 (b : List (BitVec 8)) (s : Rst) : Rst := (fN b s 1).2
def fmS2 (b : List (BitVec 8)) (s : Rst) : Rst := (fN b (fmS1 b s) 8).2
def fmS3 (b : List (BitVec 8)) (s : Rst) : Rst := (fKey b (fmS2 b s)).2
def fMsg (b : List (BitVec 8)) (s : Rst) : Msg × Rst := (⟨fmK b s, (fN b (fmS1 b s) 8).1, (fKey b (fmS2 b s)).1, (fRest b (fmK b s) (fmS3 b s)).1.1, (fRest b (fmK b s) (fmS3 b s)).1.2⟩, (fRest b (fmK b s) (fmS3 b s)).2)
/-! ### walks -/
section
variable {E : Env} {nt : Nat} {ops : Array Oper} {T : Nat → Option AV} {H : Hp} {d : Option Nat} {ty : TypeId} {pos : String} {af : Array Edge} {gd : Option (Nat × Bool)}
end
attribute [local irreducible] OpOK AWops AW CondB Go2 AFn thenA inBlockA noGotoA orderOk wantedA
end Go.Proofs.Ytcmdhpinelnclaa

namespace Go.Proofs.Ytcmdhpinelnclaa
open Go Go.RowKit
set_option linter.unusedVariables false
set_option linter.unusedSimpArgs false
set_option maxRecDepth 100000

/-- x' is x, nil being a row to be appended to -/
def TokW (g n : Nat) (e : TypeId) (x x' : AV) : Prop := ∀ (U : Uns) (w : World) (B : Blk) (H : Hp) (c : List Value), H g = some (.tail e n 0) → B g = none → Rd U w x B H c → Rd U w x' B H c
inductive TokL (g n : Nat) : List AV → List AV → Prop
  | nil : TokL g n [] []
  | same {x : AV} {xs ys : List AV} (t : TokL g n xs ys) : TokL g n (x :: xs) (x :: ys)
  | tok {xs ys : List AV} (t : TokL g n xs ys) : TokL g n (.v (.slice none 0 0) :: xs) (.sl (some g) n [] :: ys)
theorem TokL.rds {g n : Nat} {e : TypeId} {U : Uns} {w : World} {B : Blk} {H : Hp} (hg : H g = some (.tail e n 0)) (hb : B g = none) {xs ys : List AV} (h : TokL g n xs ys) : ∀ {c : List Value}, Rds U w xs B H c → Rds U w ys B H c := by
  induction h with
  | nil => exact fun h => h
  | same t ih =>
    intro c hr
    simp only [Rds] at hr ⊢
    obtain ⟨c1, c2, rfl, h1, h2⟩ := hr
    exact ⟨c1, c2, rfl, h1, ih h2⟩
  | tok t ih =>
    intro c hr
    simp only [Rds] at hr ⊢
    obtain ⟨c1, c2, rfl, h1, h2⟩ := hr
    refine ⟨c1, c2, rfl, ?_, ih h2⟩
    simp only [Rd] at h1
    obtain ⟨_, rfl⟩ := h1
    exact nil_token hg hb
theorem TokL.agg {g n m : Nat} {e : TypeId} {xs ys : List AV} (h : TokL g n xs ys) : TokW g n e (.agg m xs) (.agg m ys) := fun U w B H c hg hb hr => by
  simp only [Rd] at hr ⊢
  exact ⟨hr.1, h.rds hg hb hr.2⟩
attribute [local irreducible] OpOK AWops AW CondB Go2 AFn thenA inBlockA noGotoA orderOk wantedA
end Go.Proofs.Ytcmdhpinelnclaa

namespace Go.Proofs.Ytcmdhpinelnclaa
open Go Go.RowKit
set_option linter.unusedVariables false
set_option linter.unusedSimpArgs false
set_option maxRecDepth 100000

section
variable {P : Program} {E : Env} {nt : Nat} {c : Code} {S : St} {Q : Exit → St → Prop}
end
def fNode (b : List (BitVec 8)) : Nd × Rst :=
  if byAt b 0 = 1#8 then
    (⟨true, (rdMany (fEnt b) (byAt b 1).toNat ⟨8, false⟩).1, [], [], (rdMany (fMsg b) (byAt b 2).toNat (rdMany (fEnt b) (byAt b 1).toNat ⟨8, false⟩).2).1⟩, (rdMany (fMsg b) (byAt b 2).toNat (rdMany (fEnt b) (byAt b 1).toNat ⟨8, false⟩).2).2)
  else
    (⟨false, [], (rdMany (fKid b) (byAt b 1).toNat ⟨8, false⟩).1, (rdMany (fKey b) ((byAt b 1).toNat - 1) (rdMany (fKid b) (byAt b 1).toNat ⟨8, false⟩).2).1, (rdMany (fMsg b) (byAt b 2).toNat (rdMany (fKey b) ((byAt b 1).toNat - 1) (rdMany (fKid b) (byAt b 1).toNat ⟨8, false⟩).2).2).1⟩,
     (rdMany (fMsg b) (byAt b 2).toNat (rdMany (fKey b) ((byAt b 1).toNat - 1) (rdMany (fKid b) (byAt b 1).toNat ⟨8, false⟩).2).2).2)
def fRead (b : List (BitVec 8)) : Nd := if (fNode b).2.bad = true then Nd.zero else (fNode b).1
attribute [local irreducible] OpOK AWops AW CondB Go2 AFn thenA inBlockA noGotoA orderOk wantedA
end Go.Proofs.Ytcmdhpinelnclaa

namespace Go.Proofs.Ytcmdhpinelnclaa
open Go Go.RowKit
set_option linter.unusedVariables false
set_option linter.unusedSimpArgs false
set_option maxRecDepth 100000

/-! ### both readers -/
def Sim {α : Type} (p r : α × Rst) : Prop := p.2.bad = r.2.bad ∧ (p.2.bad = false → p = r)
theorem Sim.map {α β : Type} {p r : α × Rst} (g : α → β) (h : Sim p r) : Sim (g p.1, p.2) (g r.1, r.2) := ⟨h.1, fun k => by rw [h.2 k]⟩
/-- one behind the other -/
theorem Sim.bind {α β γ : Type} {p r : α × Rst} (h : Sim p r) (f g : α → Rst → β × Rst) (hf : ∀ a s, s.bad = true → (f a s).2.bad = true) (hg : ∀ a s, s.bad = true → (g a s).2.bad = true) (hs : ∀ a s, s.bad = false → Sim (f a s) (g a s)) (k : α → β → γ) :
    Sim (k p.1 (f p.1 p.2).1, (f p.1 p.2).2) (k r.1 (g r.1 r.2).1, (g r.1 r.2).2) := by
  obtain ⟨h1, h2⟩ := h
  cases hb : p.2.bad with
  | true =>
    have hb' : r.2.bad = true := by rw [← h1]; exact hb
    have e1 := hf p.1 p.2 hb
    have e2 := hg r.1 r.2 hb'
    exact ⟨by show (f p.1 p.2).2.bad = (g r.1 r.2).2.bad; rw [e1, e2], fun k => by have k' : (f p.1 p.2).2.bad = false := k; rw [e1] at k'; cases k'⟩
  | false =>
    have e := h2 hb
    rw [← e]
    have hs' := hs p.1 p.2 hb
    exact ⟨hs'.1, fun k => by have k' : (f p.1 p.2).2.bad = false := k; rw [hs'.2 k']⟩
theorem zero_nofit : nodeFits Nd.zero = false := by unfold nodeFits nodeOk innerOk fanOkBy Nd.zero; simp
theorem zero_sm : Nd.zero.Sm := ⟨Nat.zero_le _, Nat.zero_le _, Nat.zero_le _, Nat.zero_le _⟩
/-! ### sums -/
theorem leNum_four (x : BitVec 32) : leNum (leBytes (x.setWidth 64) 4) = x.setWidth 64 := by
  apply BitVec.eq_of_getLsbD_eq
  intro i hi
  rw [leNum_leBytes _ _ _ hi, BitVec.getLsbD_setWidth]
  by_cases c : i < 32
  · simp [show i < 8 * 4 by omega]
  · rw [BitVec.getLsbD_of_ge x i (by omega)]; simp
attribute [local irreducible] OpOK AWops AW CondB Go2 AFn thenA inBlockA noGotoA orderOk wantedA
end Go.Proofs.Ytcmdhpinelnclaa

namespace Go.Proofs.Ytcmdhpinelnclaa
open Go Go.RowKit
set_option linter.unusedVariables false
set_option linter.unusedSimpArgs false
set_option maxRecDepth 100000

/-- l stands at i -/
def At (b : List (BitVec 8)) (i : Nat) (l : List (BitVec 8)) : Prop := ∃ post, b.drop i = l ++ post
theorem At.left {b : List (BitVec 8)} {i : Nat} {l m : List (BitVec 8)} (h : At b i (l ++ m)) : At b i l := by
  obtain ⟨p, h⟩ := h
  exact ⟨m ++ p, by rw [h, List.append_assoc]⟩
theorem At.right {b : List (BitVec 8)} {i : Nat} {l m : List (BitVec 8)} (h : At b i (l ++ m)) : At b (i + l.length) m := by
  obtain ⟨p, h⟩ := h
  exact ⟨p, by rw [← List.drop_drop, h, List.append_assoc, List.drop_left]⟩
theorem At.le {b : List (BitVec 8)} {i : Nat} {l : List (BitVec 8)} (h : At b i l) (h0 : 0 < l.length) : i + l.length ≤ b.length := by
  obtain ⟨p, h⟩ := h
  have := congrArg List.length h
  rw [List.length_drop, List.length_append] at this
  omega
theorem At.seg {b : List (BitVec 8)} {i : Nat} {l : List (BitVec 8)} (h : At b i l) : seg b i l.length = l := by
  obtain ⟨p, h⟩ := h
  unfold Proofs.Ytcmdhpinelnclaa.seg
  rw [h, List.take_left]
theorem At.one {b : List (BitVec 8)} {i : Nat} {x : BitVec 8} (h : At b i [x]) : b.getD i 0#8 = x := by
  obtain ⟨p, h⟩ := h
  have : (b.drop i)[0]? = some x := by rw [h]; rfl
  rw [List.getElem?_drop, Nat.add_zero] at this
  rw [List.getD_eq_getElem?_getD, this]; rfl
theorem ofInt8 {n : Nat} (h : n < 256) : (BitVec.ofInt 8 (n : Nat)).toNat = n := by
  rw [BitVec.toNat_ofInt]; omega
theorem at_num {b : List (BitVec 8)} {i : Nat} {l : List (BitVec 8)} (h : At b i l) (h0 : 0 < l.length) : numAt b i l.length = leNum l ∧ stN b ⟨i, false⟩ l.length = ⟨i + l.length, false⟩ := by
  have hl := h.le h0
  refine ⟨by rw [numAt_yes hl, h.seg], ?_⟩
  unfold stN
  dsimp only
  rw [decide_eq_true hl]; rfl
theorem at_take {b : List (BitVec 8)} {i m : Nat} {s : List (BitVec 8)} (h : At b i (tx s)) (hm : s.length ≤ m) (h8 : m ≤ 255) : takeS b ⟨i, false⟩ m = s ∧ stT b ⟨i, false⟩ m = ⟨i + (tx s).length, false⟩ := by
  have h1 : At b i [BitVec.ofInt 8 (s.length : Nat)] := At.left h
  have h2 : At b (i + 1) s := At.right h
  have hc : cnt b i = s.length := by unfold cnt; rw [h1.one, ofInt8 (by omega)]
  have hle := h.le (by rw [tx_len]; omega)
  rw [tx_len] at hle
  unfold takeS stT takeOk
  dsimp only
  rw [hc, decide_eq_true hm, decide_eq_true (by omega)]
  exact ⟨h2.seg, by rw [tx_len, Nat.add_assoc]; rfl⟩
theorem mkKey_ky {k : Key} (h : k.ok = true) : mkKey (kyS k) = k := by
  obtain ⟨h1, h2, h3⟩ := (Key.ok_iff k).1 h
  have hl := (kyS_len ⟨h1, h2⟩).1
  unfold mkKey
  have e : padded 8 (kyS k) = k.b := padded_cut k.b _ h3
  rw [e, hl]
  obtain ⟨n, v⟩ := k
  dsimp only at h1 ⊢
  congr 1 <;> omega
theorem mkVl_vl {k : Vl} (h : k.ok = true) : mkVl (vlS k) = k := by
  obtain ⟨h1, h2, h3⟩ := (Vl.ok_iff k).1 h
  have hl := (vlS_len ⟨h1, h2⟩).1
  unfold mkVl
  have e : padded 16 (vlS k) = k.b := padded_cut k.b _ h3
  rw [e, hl]
  obtain ⟨n, v⟩ := k
  dsimp only at h1 ⊢
  congr 1 <;> omega
theorem at_key {b : List (BitVec 8)} {i : Nat} {k : Key} (hk : k.ok = true) (h : At b i (tx (kyS k))) : rdKey b ⟨i, false⟩ = (k, ⟨i + (tx (kyS k)).length, false⟩) := by
  obtain ⟨h1, h2⟩ := at_take (m := 8) h (kyS_len (KyR.of hk)).2 (by omega)
  unfold rdKey
  rw [h1, h2, mkKey_ky hk]
theorem at_vl {b : List (BitVec 8)} {i : Nat} {k : Vl} (hk : k.ok = true) (h : At b i (tx (vlS k))) : rdVl b ⟨i, false⟩ = (k, ⟨i + (tx (vlS k)).length, false⟩) := by
  obtain ⟨h1, h2⟩ := at_take (m := 16) h (vlS_len (VlR.of hk)).2 (by omega)
  unfold rdVl
  rw [h1, h2, mkVl_vl hk]
theorem at_ent {b : List (BitVec 8)} {i : Nat} {e : Ent} (he : e.key.ok = true ∧ e.val.ok = true) (h : At b i (entB e)) : rdEnt b ⟨i, false⟩ = (e, ⟨i + (entB e).length, false⟩) := by
  have h1 := at_key he.1 (At.left h)
  have h2 := at_vl he.2 (At.right h)
  unfold rdEnt
  rw [h1]
  dsimp only
  rw [h2]
  unfold entB
  rw [List.length_append, Nat.add_assoc]
theorem at_kid {b : List (BitVec 8)} {i : Nat} {k : Int} (hk : 1 ≤ k ∧ k < 256) (h : At b i (kidB k)) : rdKid b ⟨i, false⟩ = (k, ⟨i + (kidB k).length, false⟩) := by
  have hl := kidB_len k
  obtain ⟨h1, h2⟩ := at_num h (by omega)
  rw [hl] at h1 h2
  unfold rdKid
  dsimp only
  rw [h1, h2, hl]
  have e : leNum (kidB k) = BitVec.ofInt 64 k := by
    have := leNum_four (BitVec.ofInt 32 k)
    have e2 : (BitVec.ofInt 32 k).setWidth 64 = BitVec.ofInt 64 k := by
      apply BitVec.eq_of_toNat_eq
      rw [BitVec.toNat_setWidth, BitVec.toNat_ofInt, BitVec.toNat_ofInt]
      omega
    rw [e2] at this
    exact this
  rw [e]
  have e3 : (BitVec.ofInt 64 k).toInt = k := by
    rw [BitVec.toInt_ofInt]
    rw [Int.bmod_def]
    split <;> omega
  rw [e3]
theorem at_piv {b : List (BitVec 8)} {i : Nat} {k : Key} (hk : k.ok = true) (h : At b i (pivB k)) : rdKey b ⟨i, false⟩ = (k, ⟨i + (pivB k).length, false⟩) := at_key hk h
theorem at_msg {b : List (BitVec 8)} {i : Nat} {m : Msg} (hm : m.ok = true) (h : At b i (msgB m)) : rdMsg b ⟨i, false⟩ = (m, ⟨i + (msgB m).length, false⟩) := by
  obtain ⟨a1, a2, a3, a4, a5, a6⟩ := Msg.spec hm
  unfold msgB at h
  have h1 : At b i [BitVec.ofInt 8 m.kind] := h.left.left.left
  have h2 : At b (i + 1) (leBytes m.seq 8) := h.left.left.right
  have h3 : At b (i + 9) (tx (kyS m.key)) := by
    have := h.left.right
    rw [List.length_append, leBytes_length] at this
    exact this
  have h4 : At b (i + 9 + (tx (kyS m.key)).length) (restB m) := by
    have := h.right
    rw [List.length_append, List.length_append, leBytes_length, ← Nat.add_assoc] at this
    exact this
  obtain ⟨n1, s1⟩ := at_num h1 (by simp)
  obtain ⟨n2, s2⟩ := at_num h2 (by rw [leBytes_length]; omega)
  rw [leBytes_length, leNum_bytes] at n2
  rw [leBytes_length] at s2
  have hk := at_key a3 h3
  have ek : msK b ⟨i, false⟩ = m.kind := by
    unfold msK
    dsimp only
    rw [numAt_one]
    unfold cnt
    rw [h1.one, BitVec.toNat_ofInt]
    omega
  have e1 : msS1 b ⟨i, false⟩ = ⟨i + 1, false⟩ := s1
  have e2 : msS2 b ⟨i, false⟩ = ⟨i + 9, false⟩ := by unfold msS2; rw [e1]; exact s2
  have e3 : msS3 b ⟨i, false⟩ = ⟨i + 9 + (tx (kyS m.key)).length, false⟩ := by unfold msS3; rw [e2, hk]
  unfold rdMsg
  rw [ek, e1, e2, e3, hk]
  dsimp only
  rw [n2]
  have hlen : (msgB m).length = 9 + (tx (kyS m.key)).length + (restB m).length := by unfold msgB; simp only [List.length_append, List.length_singleton, leBytes_length]
  rw [hlen]
  obtain ⟨kind, seq, key, val, add⟩ := m
  dsimp only at a1 a2 a3 a4 a5 a6 h4 ⊢
  unfold rdRest
  unfold restB at h4 ⊢
  dsimp only at h4 ⊢
  by_cases k1 : kind = 1
  · rw [if_pos k1] at h4 ⊢
    rw [if_pos k1]
    have hv := at_vl a4 h4
    rw [hv, a6 (by omega)]
    dsimp only
    simp only [Nat.add_assoc]
  · rw [if_neg k1] at h4 ⊢
    rw [if_neg k1]
    by_cases k3 : kind = 3
    · rw [if_pos k3] at h4 ⊢
      rw [if_pos k3]
      obtain ⟨n4, s4⟩ := at_num h4 (by rw [leBytes_length]; omega)
      rw [leBytes_length, leNum_bytes] at n4
      rw [leBytes_length] at s4
      rw [n4, s4, a5 k1, leBytes_length]
      simp only [Nat.add_assoc]
    · rw [if_neg k3]
      rw [if_neg k3, a5 k1, a6 k3]
      simp only [List.length_nil, Nat.add_zero, Nat.add_assoc]
/-- many, one behind the other -/
theorem at_many {α : Type} (f : Rst → α × Rst) (enc : α → List (BitVec 8)) {b : List (BitVec 8)} {i : Nat} (l : List α) (hf : ∀ a ∈ l, ∀ i, At b i (enc a) → f ⟨i, false⟩ = (a, ⟨i + (enc a).length, false⟩)) (h : At b i (l.flatMap enc)) :
    ∀ j, j ≤ l.length → rdMany f j ⟨i, false⟩ = (l.take j, ⟨i + ((l.take j).flatMap enc).length, false⟩)
  | 0, _ => by simp [rdMany]
  | j + 1, hj => by
    have ih := at_many f enc l hf h j (by omega)
    have hlt : j < l.length := hj
    have e : l.flatMap enc = (l.take j).flatMap enc ++ (enc l[j] ++ (l.drop (j + 1)).flatMap enc) := by
      rw [← List.flatMap_cons, ← List.flatMap_append, ← List.drop_eq_getElem_cons hlt, List.take_append_drop]
    rw [e] at h
    have h1 := At.left (At.right h)
    have h2 := hf l[j] (List.getElem_mem hlt) _ h1
    show ((rdMany f j ⟨i, false⟩).1 ++ [(f (rdMany f j ⟨i, false⟩).2).1], (f (rdMany f j ⟨i, false⟩).2).2) = _
    rw [ih]
    dsimp only
    rw [h2, ← List.take_append_getElem hlt, List.flatMap_append]
    simp [Nat.add_assoc]
theorem at_all {α : Type} (f : Rst → α × Rst) (enc : α → List (BitVec 8)) {b : List (BitVec 8)} {i : Nat} (l : List α) (hf : ∀ a ∈ l, ∀ i, At b i (enc a) → f ⟨i, false⟩ = (a, ⟨i + (enc a).length, false⟩)) (h : At b i (l.flatMap enc)) :
    rdMany f l.length ⟨i, false⟩ = (l, ⟨i + (l.flatMap enc).length, false⟩) := by
  have := at_many f enc l hf h l.length (Nat.le_refl _)
  rwa [List.take_length] at this
/-! ### a block -/
theorem put4_lo {α : Type} (xs : List α) (off : Nat) (ys : List α) (h : off ≤ xs.length) {i : Nat} (hi : i < off) : (put4 xs off ys)[i]? = xs[i]? := by
  unfold put4
  rw [List.getElem?_append_left (by rw [List.length_take]; omega), List.getElem?_take, if_pos hi]
theorem put4_hi {α : Type} (xs : List α) (off : Nat) (ys : List α) (h : off ≤ xs.length) {i : Nat} (hi : off + ys.length ≤ i) : (put4 xs off ys)[i]? = xs[i]? := by
  unfold put4
  have e : (xs.take off).length = off := by rw [List.length_take]; omega
  rw [List.getElem?_append_right (by omega), e, List.getElem?_append_right (by omega), List.getElem?_drop]
  congr 1 <;> omega
theorem put4_in {α : Type} (xs : List α) (off : Nat) (ys : List α) (h : off ≤ xs.length) {i : Nat} (hi : off ≤ i) (hj : i < off + ys.length) : (put4 xs off ys)[i]? = ys[i - off]? := by
  unfold put4
  have e : (xs.take off).length = off := by rw [List.length_take]; omega
  rw [List.getElem?_append_right (by omega), e, List.getElem?_append_left (by omega)]
theorem put4_put4 {α : Type} (xs : List α) (off : Nat) (ys zs : List α) (hl : ys.length = zs.length) (h : off + ys.length ≤ xs.length) : put4 (put4 xs off ys) off zs = put4 xs off zs := by
  have hp := put4_len xs off ys h
  apply List.ext_getElem?
  intro i
  by_cases h1 : i < off
  · rw [put4_lo _ _ _ (by omega) h1, put4_lo _ _ _ (by omega) h1, put4_lo _ _ _ (by omega) h1]
  · by_cases h2 : i < off + ys.length
    · rw [put4_in _ _ _ (by omega) (by omega) (by omega), put4_in _ _ _ (by omega) (by omega) (by omega)]
    · rw [put4_hi _ _ _ (by omega) (by omega), put4_hi _ _ _ (by omega) (by omega), put4_hi _ _ _ (by omega) (by omega)]
theorem sumIn_put {b s : List (BitVec 8)} (hb : b.length = 256) (hs : s.length = 4) : sumIn (put4 b 4 s) = s := by
  unfold sumIn put4
  have e : (b.take 4).length = 4 := by rw [List.length_take]; omega
  apply List.ext_getElem?
  intro i
  rw [List.getElem?_drop, List.getElem?_take]
  by_cases h : i < 4
  · rw [if_pos (by omega), List.getElem?_append_right (by omega), e, List.getElem?_append_left (by omega)]
    congr 1 <;> omega
  · rw [if_neg (by omega), List.getElem?_eq_none (by omega)]
theorem raw_bare {n : Nd} (h : nodeFits n = true) : bareB (encB n) = rawB n := by
  have hl := rawB_len h
  unfold bareB encB
  rw [put4_put4 _ _ _ _ (by rw [sum4_len]; rfl) (by rw [sum4_len]; omega)]
  unfold rawB put4
  have e : (headB n).length = 4 := rfl
  simp only [List.append_assoc]
  rw [List.take_left' e]
  congr 1
theorem enc_sum {n : Nd} (h : nodeFits n = true) : sum4 (bareB (encB n)) = sumIn (encB n) := by
  rw [raw_bare h]
  exact (sumIn_put (rawB_len h) (sum4_len _)).symm
theorem enc_body {n : Nd} (h : nodeFits n = true) : At (encB n) 8 (bodyB n) := by
  refine ⟨List.replicate (248 - (bodyB n).length) 0#8, ?_⟩
  have hl := rawB_len h
  have e : (encB n).drop 8 = (rawB n).drop 8 := by
    apply List.ext_getElem?
    intro i
    rw [List.getElem?_drop, List.getElem?_drop]
    exact put4_hi _ _ _ (by omega) (by rw [sum4_len]; omega)
  rw [e]
  unfold rawB
  have e2 : (headB n ++ List.replicate 4 0#8).length = 8 := by simp [headB_len]
  rw [List.append_assoc (headB n ++ List.replicate 4 0#8)]
  exact List.drop_left' e2
theorem enc_head {n : Nd} (h : nodeFits n = true) {i : Nat} (hi : i < 4) : byAt (encB n) i = (headB n).getD i 0#8 := by
  have hl := rawB_len h
  unfold byAt
  rw [List.getD_eq_getElem?_getD, List.getD_eq_getElem?_getD]
  congr 1
  unfold encB
  rw [put4_lo _ _ _ (by omega) hi]
  unfold rawB
  rw [List.append_assoc, List.append_assoc, List.getElem?_append_left (by rw [headB_len]; exact hi)]
theorem rd_enc {n : Nd} (h : nodeFits n = true) : (rdNode (encB n)).1 = n ∧ (rdNode (encB n)).2.bad = false := by
  have hb := enc_body h
  have hr := fits_ndr h
  have h0 : byAt (encB n) 0 = if n.leaf = true then 1#8 else 2#8 := enc_head h (by omega)
  have h1 : byAt (encB n) 1 = BitVec.ofInt 8 (manyB n : Nat) := enc_head h (by omega)
  have h2 : byAt (encB n) 2 = BitVec.ofInt 8 (n.ms.length : Nat) := enc_head h (by omega)
  unfold rdNode
  rcases fits_is h with f | f
  · have hle := len_sum n.es f.ok
    have := f.sum
    rw [h0, f.leaf, if_pos rfl, if_pos rfl]
    have e1 : (byAt (encB n) 1).toNat = n.es.length := by rw [h1, ofInt8 (by unfold manyB; rw [f.leaf, if_pos rfl]; omega)]; unfold manyB; rw [f.leaf, if_pos rfl]
    have e2 : (byAt (encB n) 2).toNat = 0 := by rw [h2, f.ms]; rfl
    rw [e1, e2]
    have hb' : At (encB n) 8 (n.es.flatMap entB) := by
      unfold bodyB at hb
      rw [f.ks, f.ps, f.ms] at hb
      simpa using hb
    have q := at_all (rdEnt (encB n)) entB n.es (fun e he i hi => at_ent (f.ok e he) hi) hb'
    rw [q]
    obtain ⟨leaf, es, ks, ps, ms⟩ := n
    obtain rfl : leaf = true := f.leaf
    obtain rfl : ks = [] := f.ks
    obtain rfl : ps = [] := f.ps
    obtain rfl : ms = [] := f.ms
    exact ⟨rfl, rfl⟩
  · have hle := len_sumM n.ms f.ms
    have := f.sum
    have k4 := f.k4
    have kp := f.kp
    have hlf := f.leaf
    rw [h0, hlf, if_neg (by simp)]
    have e1 : (byAt (encB n) 1).toNat = n.ks.length := by rw [h1, ofInt8 (by unfold manyB; rw [hlf, if_neg (by simp)]; omega)]; unfold manyB; rw [hlf, if_neg (by simp)]
    have e2 : (byAt (encB n) 2).toNat = n.ms.length := by rw [h2, ofInt8 (by omega)]
    rw [e1, e2, show n.ks.length - 1 = n.ps.length by omega]
    have hb' : At (encB n) 8 (n.ks.flatMap kidB ++ n.ps.flatMap pivB ++ n.ms.flatMap msgB) := by
      unfold bodyB at hb
      rw [f.es] at hb
      simpa using hb
    have q1 := at_all (rdKid (encB n)) kidB n.ks (fun k hk i hi => at_kid (f.ks k hk) hi) (At.left (At.left hb'))
    have q2 := at_all (rdKey (encB n)) pivB n.ps (fun k hk i hi => at_piv (f.ps k hk) hi) (At.right (At.left hb'))
    have h3 := At.right hb'
    rw [List.length_append, ← Nat.add_assoc] at h3
    have q3 := at_all (rdMsg (encB n)) msgB n.ms (fun m hm i hi => at_msg (f.ms m hm) hi) h3
    rw [q1]
    dsimp only
    rw [q2]
    dsimp only
    rw [q3]
    obtain ⟨leaf, es, ks, ps, ms⟩ := n
    obtain rfl : leaf = false := f.leaf
    obtain rfl : es = [] := f.es
    exact ⟨rfl, rfl⟩
/-- what is put is read again -/
theorem decode_enc {n : Nd} (h : nodeFits n = true) : decode (encB n) = (n, 0) := by
  obtain ⟨h1, h2⟩ := rd_enc h
  have he : encode n = (encB n, 0) := by unfold encode; rw [if_pos h]
  unfold decode
  rw [if_pos (encB_len h), if_pos (enc_sum h), h1, he, if_pos ⟨h2, rfl, rfl⟩]
end Go.Proofs.Ytcmdhpinelnclaa

namespace Go.Proofs.Ytcmdhpinelnclaa
open Go Go.RowKit
set_option linter.unusedVariables false
set_option linter.unusedSimpArgs false
set_option maxRecDepth 100000

section
variable {H : Type} {enc : TypeId × Value → H} {P : Program} {w : World} {base : Nat} {spare : Nat → Bool} {held : Bool} {fuel : Nat} {t : TypeId} {cs : List Value} {x : DataW H × List MemPlace}
theorem in_bytes {m : Nat} {e : TypeId} (ht : P.underlying t = some (.array m e)) (he : P.underlying e = some (.int .u8)) (hc : P.cellsOf e = 1) (hct : P.cellsOf t = m) (h : DataW.trod enc P w base spare held fuel t cs = some x) : ∃ b : Vector (BitVec 8) m, cs = (bArr b).toList := by
  obtain ⟨xs, n, _, _, hl, hx, hi⟩ := DataW.trod_array ht h
  rw [hct] at hl
  have each : ∀ i (hi : i < cs.length), ∃ z : Int, cs[i] = .int .u8 z ∧ 0 ≤ z ∧ z ≤ 255 := fun i hil => by
    have h1 := hi i (by omega)
    rw [hc, Nat.mul_one, List.getElem?_eq_getElem (by omega)] at h1
    obtain ⟨z, h2, _, h3⟩ := DataW.trod_int he h1
    rw [List.drop_eq_getElem_cons hil] at h2
    simp only [List.take_succ_cons, List.take_zero, List.cons.injEq, and_true] at h2
    exact ⟨z, h2, bounds_u8 h3⟩
  refine ⟨Vector.ofFn fun i => BitVec.ofInt 8 (intOf (cs.getD i.1 undef)), ?_⟩
  apply List.ext_getElem
  · simp [bArr_size, hl]
  · intro i h1 h2
    obtain ⟨z, h3, h4, h5⟩ := each i h1
    have := bArr_get (Vector.ofFn fun i => BitVec.ofInt 8 (intOf (cs.getD i.1 undef)) : Vector (BitVec 8) m) i (by omega)
    have h6 : (bArr (Vector.ofFn fun i => BitVec.ofInt 8 (intOf (cs.getD i.1 undef)) : Vector (BitVec 8) m)).toList[i]? = some (.int .u8 z) := by
      rw [Array.getElem?_toList, this]
      simp only [Vector.getElem_ofFn, List.getD_eq_getElem?_getD, List.getElem?_eq_getElem h1, Option.getD_some, h3, intOf]
      rw [B8_ofInt _ h4 (by omega)]
    rw [List.getElem?_eq_getElem h2] at h6
    rw [h3]
    exact (Option.some.inj h6).symm
theorem in_i64 (ht : P.underlying t = some (.int .i64)) (h : DataW.trod enc P w base spare held fuel t cs = some x) : ∃ n : Int, cs = [.int .i64 n] ∧ -9223372036854775808 ≤ n ∧ n ≤ 9223372036854775807 := by
  obtain ⟨n, h1, _, h2⟩ := DataW.trod_int ht h
  exact ⟨n, h1, bounds_i64 h2⟩
theorem in_u64 (ht : P.underlying t = some (.int .u64)) (h : DataW.trod enc P w base spare held fuel t cs = some x) : ∃ n : BitVec 64, cs = [.int .u64 (D64 n)] := by
  obtain ⟨n, h1, _, h2⟩ := DataW.trod_int ht h
  have := bounds_u64 h2
  exact ⟨BitVec.ofInt 64 n, by rw [D64_ofInt _ (by omega) (by omega)]; exact h1⟩
theorem row_of_cells {w : World} {b off n : Nat} {c : Array Value} (h : ∀ k, k < n → w.cell? ⟨b, off + k, none⟩ = c[k]?) (hs : c.size = n) (hn : 0 < n) : row? w b off n = some c := by
  have h0 := h 0 hn
  rw [Array.getElem?_eq_getElem (by omega)] at h0
  unfold World.cell? at h0
  split at h0
  · rename_i cs t fr hb
    rw [row_block hb]
    have each : ∀ k, k < n → cs[off + k]? = c[k]? := fun k hk => by
      have h1 := h k hk
      unfold World.cell? at h1
      simp only [hb, Option.isSome_none, Bool.false_eq_true, if_false] at h1
      exact h1
    have hlast := each (n - 1) (by omega)
    rw [Array.getElem?_eq_getElem (show n - 1 < c.size by omega)] at hlast
    have hlt := (Array.getElem?_eq_some_iff.1 hlast).1
    unfold rowOf
    rw [if_pos (by omega)]
    congr 1
    apply Array.ext_getElem?
    intro k
    rw [Array.getElem?_extract]
    by_cases hk : k < n
    · rw [if_pos (by omega)]; exact each k hk
    · rw [if_neg (by omega), Array.getElem?_eq_none (by omega)]
  · cases h0
/-- whatever the elements: a slice of them -/
theorem in_sliceG {α : Type} [Inhabited α] {e : TypeId} {n : Nat} {arr : α → Array Value} (he : EncOk arr n) (Q : α → Prop) (ht : P.underlying t = some (.slice e)) (hc : P.cellsOf e = n) (each : ∀ {fuel : Nat} {cs : List Value} {x : DataW H × List MemPlace}, DataW.trod enc P w base spare held fuel e cs = some x → ∃ a : α, cs = (arr a).toList ∧ Q a)
    (h : DataW.trod enc P w base spare held fuel t cs = some x) : ∃ v xs, cs = [v] ∧ Sl arr n w v xs ∧ ∀ a ∈ xs, Q a := by
  rcases Go.Deep.open_slice ht h with ⟨h1, _⟩ | ⟨a, len, cap, m, nn, Da, Pl, rfl, hb, hl, hm, hmm, _, hx⟩
  · exact ⟨_, [], h1, Sl.nil _ _ _, fun a h => by cases h⟩
  · rw [hc] at hx
    have hlm : len ≤ m := by rw [hmm]; split <;> omega
    obtain ⟨f, hf⟩ := Go.Deep.choose_lt (α := α) (p := fun i y => w.cells? base (a.add (i * n)) n = some (arr y).toList ∧ Q y) (n := len) (fun i hi => by
      obtain ⟨cs', k1, k2⟩ := hx i (by omega)
      obtain ⟨y, rfl, hq⟩ := each k2
      exact ⟨y, k1, hq⟩)
    refine ⟨_, (List.range len).map f, rfl, ⟨some a, cap, by simp, by simpa using hl, hm, fun h0 => ?_⟩, fun y hy => ?_⟩
    · have hsz := fun y => he.size y
      have hpos := he.pos
      obtain ⟨b, off, spot⟩ := a
      have h0' : 0 < len := by simpa using h0
      have hc0 := (World.cells?_some (hf 0 h0').1).2.2 0 (by omega)
      rw [Array.getElem?_toList, Array.getElem?_eq_getElem (by rw [hsz]; omega)] at hc0
      have hspot : spot = none := by simpa [Addr.add] using World.cell?_spot hc0
      subst hspot
      have hadd : ∀ o k, (⟨b, o, none⟩ : Addr).add k = ⟨b, o + k, none⟩ := fun o k => by unfold Addr.add; split <;> simp_all
      have hb' : b < w.heap.size := by
        have := block_lt_of_cell hc0
        simpa [hadd] using this
      refine ⟨b, off, rfl, hb', fun i hi => ?_⟩
      have hi' : i < len := by simpa using hi
      have h1 := (World.cells?_some (hf i hi').1).2.2
      simp only [List.getElem_map, List.getElem_range]
      refine row_of_cells (fun k hk => ?_) (hsz _) hpos
      have := h1 k hk
      rw [hadd, hadd] at this
      rw [this, Array.getElem?_toList]
    · obtain ⟨i, hi, rfl⟩ := List.mem_map.1 hy
      exact (hf i (List.mem_range.1 hi)).2
theorem in_slice {α : Type} [Inhabited α] (D : DT α) (Q : α → Prop) (ht : P.underlying t = some (.slice D.t)) (hc : P.cellsOf D.t = D.n) (each : ∀ {fuel : Nat} {cs : List Value} {x : DataW H × List MemPlace}, DataW.trod enc P w base spare held fuel D.t cs = some x → ∃ a : α, cs = (D.arr a).toList ∧ Q a)
    (h : DataW.trod enc P w base spare held fuel t cs = some x) : ∃ v xs, cs = [v] ∧ Sl D.arr D.n w v xs ∧ ∀ a ∈ xs, Q a := in_sliceG D.enc Q ht hc each h
end
section
variable {H : Type} {enc : TypeId × Value → H} {w : World} {base : Nat} {spare : Nat → Bool} {held : Bool} {fuel : Nat} {cs : List Value} {x : DataW H × List MemPlace}
theorem in_Key (h : DataW.trod enc Try.prog w base spare held fuel 59 cs = some x) : ∃ k : Key, cs = k.arr.toList ∧ -9223372036854775808 ≤ k.n ∧ k.n ≤ 9223372036854775807 := by
  obtain ⟨y0, y1, n, _, hl, h0, h1⟩ := Go.ChangeShapes.trod_struct2 Try.underlying59 h
  obtain ⟨z, e0, hz⟩ := in_i64 Try.underlying3 h0
  obtain ⟨b, e1⟩ := in_bytes (m := 8) Try.underlying57 Try.underlying5 (by kernel_rfl) (by kernel_rfl) h1
  have hl' : cs.length = 9 := hl.trans (by kernel_rfl)
  refine ⟨⟨z, b⟩, ?_, hz⟩
  rw [show Try.prog.cellsOf 3 = 1 from by kernel_rfl, List.drop_zero] at e0
  rw [show Try.prog.cellsOf 57 = 8 from by kernel_rfl] at e1
  rw [List.take_of_length_le (by simp; omega)] at e1
  rw [← List.take_append_drop 1 cs, e0, e1, Key.arr_def, cat_def, cel_def]
  simp
theorem in_Vl (h : DataW.trod enc Try.prog w base spare held fuel 62 cs = some x) : ∃ k : Vl, cs = k.arr.toList ∧ -9223372036854775808 ≤ k.n ∧ k.n ≤ 9223372036854775807 := by
  obtain ⟨y0, y1, n, _, hl, h0, h1⟩ := Go.ChangeShapes.trod_struct2 Try.underlying62 h
  obtain ⟨z, e0, hz⟩ := in_i64 Try.underlying3 h0
  obtain ⟨b, e1⟩ := in_bytes (m := 16) Try.underlying60 Try.underlying5 (by kernel_rfl) (by kernel_rfl) h1
  have hl' : cs.length = 17 := hl.trans (by kernel_rfl)
  refine ⟨⟨z, b⟩, ?_, hz⟩
  rw [show Try.prog.cellsOf 3 = 1 from by kernel_rfl, List.drop_zero] at e0
  rw [show Try.prog.cellsOf 60 = 16 from by kernel_rfl] at e1
  rw [List.take_of_length_le (by simp; omega)] at e1
  rw [← List.take_append_drop 1 cs, e0, e1, Vl.arr_def, cat_def, cel_def]
  simp
theorem in_Ent (h : DataW.trod enc Try.prog w base spare held fuel 64 cs = some x) : ∃ k : Ent, cs = k.arr.toList ∧ (-9223372036854775808 ≤ k.key.n ∧ k.key.n ≤ 9223372036854775807) ∧ (-9223372036854775808 ≤ k.val.n ∧ k.val.n ≤ 9223372036854775807) := by
  obtain ⟨y0, y1, n, _, hl, h0, h1⟩ := Go.ChangeShapes.trod_struct2 Try.underlying64 h
  obtain ⟨k, e0, hk⟩ := in_Key h0
  obtain ⟨v, e1, hv⟩ := in_Vl h1
  have hl' : cs.length = 26 := hl.trans (by kernel_rfl)
  refine ⟨⟨k, v⟩, ?_, hk, hv⟩
  rw [show Try.prog.cellsOf 59 = 9 from by kernel_rfl, List.drop_zero] at e0
  rw [show Try.prog.cellsOf 62 = 17 from by kernel_rfl] at e1
  rw [List.take_of_length_le (by simp; omega)] at e1
  rw [← List.take_append_drop 9 cs, e0, e1, Ent.arr_def, cat_def]
  simp
theorem in_Msg (h : DataW.trod enc Try.prog w base spare held fuel 73 cs = some x) : ∃ k : Msg, cs = k.arr.toList ∧ (-9223372036854775808 ≤ k.kind ∧ k.kind ≤ 9223372036854775807) := by
  obtain ⟨ys, n, _, _, hl, hys, hf⟩ := DataW.trod_struct Try.underlying73 h
  have hys' : ys.length = 5 := hys
  match ys, hys' with
  | [y0, y1, y2, y3, y4], _ =>
    obtain ⟨k0, e0, hk⟩ := in_i64 Try.underlying3 (show DataW.trod enc Try.prog w base spare held n 3 ((cs.drop 0).take (Try.prog.cellsOf 3)) = some y0 from hf 0 _ rfl)
    obtain ⟨k1, e1⟩ := in_u64 Try.underlying71 (show DataW.trod enc Try.prog w base spare held n 71 ((cs.drop 1).take (Try.prog.cellsOf 71)) = some y1 from hf 1 _ rfl)
    obtain ⟨k2, e2, _⟩ := in_Key (show DataW.trod enc Try.prog w base spare held n 59 ((cs.drop 2).take (Try.prog.cellsOf 59)) = some y2 from hf 2 _ rfl)
    obtain ⟨k3, e3, _⟩ := in_Vl (show DataW.trod enc Try.prog w base spare held n 62 ((cs.drop 11).take (Try.prog.cellsOf 62)) = some y3 from hf 3 _ rfl)
    obtain ⟨k4, e4⟩ := in_u64 Try.underlying71 (show DataW.trod enc Try.prog w base spare held n 71 ((cs.drop 28).take (Try.prog.cellsOf 71)) = some y4 from hf 4 _ rfl)
    have hl' : cs.length = 29 := hl.trans (by kernel_rfl)
    refine ⟨⟨k0, k1, k2, k3, k4⟩, ?_, hk⟩

    rw [show Try.prog.cellsOf 3 = 1 from by kernel_rfl, List.drop_zero] at e0
    rw [show Try.prog.cellsOf 71 = 1 from by kernel_rfl] at e1 e4
    rw [show Try.prog.cellsOf 59 = 9 from by kernel_rfl] at e2
    rw [show Try.prog.cellsOf 62 = 17 from by kernel_rfl] at e3
    have d1 : cs = cs.take 1 ++ ((cs.drop 1).take 1 ++ ((cs.drop 2).take 9 ++ ((cs.drop 11).take 17 ++ (cs.drop 28).take 1))) := by
      have sp : ∀ i n, cs.drop i = (cs.drop i).take n ++ cs.drop (i + n) := fun i n => by
        rw [← List.drop_drop]; exact (List.take_append_drop _ _).symm
      have s4 : (cs.drop 28).take 1 = cs.drop 28 := List.take_of_length_le (by simp; omega)
      rw [s4, ← sp 11 17, ← sp 2 9, ← sp 1 1, List.take_append_drop]
    rw [d1, e0, e1, e2, e3, e4, Msg.arr_def]
    simp only [cat_def, cel_def]
    simp
end
instance : Inhabited Key := ⟨Key.zero⟩
instance : Inhabited Vl := ⟨Vl.zero⟩
instance : Inhabited Ent := ⟨Ent.zero⟩
instance : Inhabited Msg := ⟨Msg.zero⟩
end Go.Proofs.Ytcmdhpinelnclaa

namespace Go.Proofs.Ytcmdhpinelnclaa
open Go Go.RowKit
set_option linter.unusedVariables false
set_option linter.unusedSimpArgs false
set_option maxRecDepth 100000

/-- a node's value: its slices' values, what these read as -/
structure NodeV (w : World) (v : Value) (n : Nd) : Prop where
  is : ∃ v1 v2 v3 v4, v = .agg #[.bool n.leaf, v1, v2, v3, v4] ∧ Sl Ent.arr 26 w v1 n.es ∧ Sl ie 1 w v2 n.ks ∧ Sl Key.arr 9 w v3 n.ps ∧ Sl Msg.arr 29 w v4 n.ms
section
variable {H : Type} {enc : TypeId × Value → H} {w : World} {base : Nat} {spare : Nat → Bool} {held : Bool} {fuel : Nat} {cs : List Value} {x : DataW H × List MemPlace}
theorem in_int (h : DataW.trod enc Try.prog w base spare held fuel 3 cs = some x) : ∃ n : Int, cs = (ie n).toList ∧ True := by
  obtain ⟨n, h1, _⟩ := in_i64 Try.underlying3 h
  exact ⟨n, h1, trivial⟩
theorem in_Node (h : DataW.trod enc Try.prog w base spare held fuel 28 cs = some x) : ∃ n v1 v2 v3 v4, cs = [.bool (Nd.leaf n), v1, v2, v3, v4] ∧ Sl Ent.arr 26 w v1 n.es ∧ Sl ie 1 w v2 n.ks ∧ Sl Key.arr 9 w v3 n.ps ∧ Sl Msg.arr 29 w v4 n.ms := by
  obtain ⟨ys, n, _, _, hl, hys, hf⟩ := DataW.trod_struct Try.underlying28 h
  have hys' : ys.length = 5 := hys
  match ys, hys' with
  | [y0, y1, y2, y3, y4], _ =>
    obtain ⟨lf, e0, _⟩ := DataW.trod_bool Try.underlying4 (show DataW.trod enc Try.prog w base spare held n 4 ((cs.drop 0).take (Try.prog.cellsOf 4)) = some y0 from hf 0 _ rfl)
    obtain ⟨v1, es, e1, s1, _⟩ := in_slice dEnt (fun _ => True) Try.underlying24 (by kernel_rfl) (fun h => by obtain ⟨k, hk, _⟩ := in_Ent h; exact ⟨k, hk, trivial⟩) (show DataW.trod enc Try.prog w base spare held n 24 ((cs.drop 1).take (Try.prog.cellsOf 24)) = some y1 from hf 1 _ rfl)
    obtain ⟨v2, ks, e2, s2, _⟩ := in_sliceG ie_ok (fun _ => True) Try.underlying22 (by kernel_rfl) (fun h => in_int h) (show DataW.trod enc Try.prog w base spare held n 22 ((cs.drop 2).take (Try.prog.cellsOf 22)) = some y2 from hf 2 _ rfl)
    obtain ⟨v3, ps, e3, s3, _⟩ := in_slice dKey (fun _ => True) Try.underlying25 (by kernel_rfl) (fun h => by obtain ⟨k, hk, _⟩ := in_Key h; exact ⟨k, hk, trivial⟩) (show DataW.trod enc Try.prog w base spare held n 25 ((cs.drop 3).take (Try.prog.cellsOf 25)) = some y3 from hf 3 _ rfl)
    obtain ⟨v4, ms, e4, s4, _⟩ := in_slice dMsg (fun _ => True) Try.underlying26 (by kernel_rfl) (fun h => by obtain ⟨k, hk, _⟩ := in_Msg h; exact ⟨k, hk, trivial⟩) (show DataW.trod enc Try.prog w base spare held n 26 ((cs.drop 4).take (Try.prog.cellsOf 26)) = some y4 from hf 4 _ rfl)
    have hl' : cs.length = 5 := hl.trans (by kernel_rfl)
    refine ⟨⟨lf, es, ks, ps, ms⟩, v1, v2, v3, v4, ?_, s1, s2, s3, s4⟩
    rw [show Try.prog.cellsOf 4 = 1 from by kernel_rfl, List.drop_zero] at e0
    rw [show Try.prog.cellsOf 24 = 1 from by kernel_rfl] at e1
    rw [show Try.prog.cellsOf 22 = 1 from by kernel_rfl] at e2
    rw [show Try.prog.cellsOf 25 = 1 from by kernel_rfl] at e3
    rw [show Try.prog.cellsOf 26 = 1 from by kernel_rfl] at e4
    match cs, hl' with
    | [c0, c1, c2, c3, c4], _ =>
      simp at e0 e1 e2 e3 e4
      subst e0 e1 e2 e3 e4
      rfl
end
/-- as the law's frame has it -/
theorem in_node {H : Type} {enc : TypeId × Value → H} {w : World} {base : Nat} {spare : Nat → Bool} {held : Bool} {v : Value} {d : DataW H} {ps : List MemPlace} (h : DataW.Trod enc Try.prog w base spare held 28 v d ps) (hv : ∃ cs, v = .agg cs ∧ cs.size = Try.prog.cellsOf 28) : ∃ n, NodeV w v n := by
  obtain ⟨fuel, hf⟩ := h
  obtain ⟨n, v1, v2, v3, v4, h1, h2⟩ := in_Node hf
  obtain ⟨cs, rfl, hs⟩ := hv
  have h3 : cs.toList = [.bool n.leaf, v1, v2, v3, v4] := h1
  exact ⟨n, v1, v2, v3, v4, by rw [← h3], h2⟩
theorem node_in {w : World} {v : Value} {n : Nd} (h : NodeV w v n) : Rdv (fun _ _ => False) w B0 H0 n.av v := by
  obtain ⟨v1, v2, v3, v4, rfl, s1, s2, s3, s4⟩ := h.is
  have r1 := Rdv_one (by simp) (DT.sl_in dEnt s1) rfl
  have r2 := Rdv_one (by simp) (ints_in s2) rfl
  have r3 := Rdv_one (by simp) (DT.sl_in dKey s3) rfl
  have r4 := Rdv_one (by simp) (DT.sl_in dMsg s4) rfl
  refine (Rdv_not (by simp [Nd.av, nodeA])).2 ⟨[.bool n.leaf, v1, v2, v3, v4], ?_, rfl⟩
  show Rd _ _ (.agg 5 [boolA n.leaf, entsA n.es, intsA n.ks, keysA n.ps, msgsA n.ms]) _ _ _
  simp only [Rd, Rds]
  exact ⟨rfl, [_], _, rfl, ⟨rfl, rfl⟩, [_], _, rfl, r1, [_], _, rfl, r2, [_], _, rfl, r3, [_], _, rfl, r4, rfl⟩
end Go.Proofs.Ytcmdhpinelnclaa
