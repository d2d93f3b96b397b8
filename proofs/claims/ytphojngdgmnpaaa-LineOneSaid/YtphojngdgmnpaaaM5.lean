/-
  M5: several texts as one: Model1, Model2, AbsRange, Model3, LeafMore, LawEnts, Model4, AfnFan0, AfnFan, AfnRef8, Model5, Line1, LineClone, AbsX, AbsX2, Line2, AbsX3, Line3, AbsIfc, AbsAct, LineOps. No condition beyond those that each theorem states.
-/
import Derived.Test.YtphojngdgmnpaaaM4
import Derived.Laws.IdiomStrings
import Derived.RangeFuncRecord
import Derived.DeepKeys5
namespace Go.Proofs.Ytphojngdgmnpaaa
open Go Go.RowKit
set_option linter.unusedVariables false
set_option linter.unusedSimpArgs false
set_option maxRecDepth 100000

/-! ### plain law -/
def keyOf (s : ByteArray) : Key × Int := if s.size ≤ 8 then (mkKey (bitsOf s), 0) else (Key.zero, 2)
def vlOf (s : ByteArray) : Vl × Int := if s.size ≤ 16 then (mkVl (bitsOf s), 0) else (Vl.zero, 2)
def large (o : Opn) : Bool := decide (8 < o.key.size) || (decide (o.kind = 1) && decide (16 < o.val.size))
theorem key_zero_ok : Key.zero.ok = true := by
  rw [Key.ok_iff]
  exact ⟨by decide, by decide, by decide⟩
theorem keyOf_ok (s : ByteArray) : (keyOf s).1.ok = true := by
  unfold keyOf
  split
  · exact mkKey_ok _ (by rw [bitsOf_length]; assumption)
  · exact key_zero_ok
theorem vlOf_ok (s : ByteArray) : (vlOf s).1.ok = true := by
  unfold vlOf
  split
  · exact mkVl_ok _ (by rw [bitsOf_length]; assumption)
  · exact Vl.zero_ok
/-- the message that an operation is -/
def msgOf (o : Opn) : Msg := ⟨o.kind, 0#64, (keyOf o.key).1, if o.kind = 1 then (vlOf o.val).1 else Vl.zero, if o.kind = 3 then o.add else 0#64⟩
/-- what an operation does -/
def mdDo (l : List Ent) (o : Opn) : List Ent × Ans :=
  if large o then (l, ⟨2, false, Vl.zero⟩) else
  if o.kind = 4 then (l, ⟨0, (opA (lfGet (keyOf o.key).1 l)).2, (opA (lfGet (keyOf o.key).1 l)).1⟩) else
  if o.kind < 1 ∨ 4 < o.kind then (l, ⟨1, false, Vl.zero⟩) else (lfPut l (msgOf o), ⟨0, false, Vl.zero⟩)
theorem res_yesm {P : Program} {S : St} {t : Nat} {p : Prop} [Decidable p] (hx : S.t t = some (.v (.bool (decide p)))) (hp : p) : Res1 P S (.tmp t) (boolA true) := res_of (by rw [hx, decide_eq_true hp]; rfl) rfl rfl
theorem res_nom {P : Program} {S : St} {t : Nat} {p : Prop} [Decidable p] (hx : S.t t = some (.v (.bool (decide p)))) (hp : ¬ p) : Res1 P S (.tmp t) (boolA false) := res_of (by rw [hx, decide_eq_false hp]; rfl) rfl rfl
theorem wM {Q R : Prop} (k : R) (h : Hid R → Q := by intro kHid; (repeat (first | (first | refine Wend _ ?_ | refine AW_seq ?_ | refine AW_reg ?_ | refine AW_drw mixed ?_ | refine AW_block ?_ | refine AW_scope ?_ | refine thenA_n ?_ | refine blockA_n ?_ | refine blockA_h ?_ | refine scopeA_n ?_ | refine thenA_r ?_ | refine blockA_r ?_ | refine scopeA_r ?_ | refine thenA_e ?_ | refine scopeA_e ?_ | refine blockA_e rfl ?_ | refine AW_exit ?_ | refine AW_ret ?_ | refine AW_skip ?_ | refine AW_c rfl ?_ | with_reducible refine cb_t ?_ | with_reducible refine cb_f ?_ | with_reducible refine cb_yes (by first | assumption | omega) ?_ | with_reducible refine cb_no (by first | assumption | omega) ?_ | refine And.intro (by decide +kernel) ?_) | (first | (apply Wv; (focus (first | exact step_ok rfl rfl | exact o_idx rfl rfl rfl rfl (by first | assumption | omega | decide) | exact o_idx3 rfl rfl rfl rfl (by first | assumption | omega | decide) | exact o_idx2 rfl rfl rfl rfl rfl (by first | assumption | omega | decide) | exact o_idxr rfl rfl rfl rfl rfl rfl | exact o_lenm rfl rfl rfl | exact o_len rfl rfl rfl | exact o_len0 rfl rfl rfl | exact o_lens rfl rfl rfl | exact o_lent rfl rfl | exact o_add1 rfl rfl rfl (by omega) | exact o_addn rfl rfl rfl (by omega) | exact o_add rfl rfl rfl (by omega) | exact o_sub1 rfl rfl rfl (by omega) | exact o_sub rfl rfl rfl (by omega) | exact o_mul rfl rfl rfl (by omega) | exact o_rem rfl rfl rfl (by omega) | exact ok_rem rfl rfl rfl (by decide) rfl | exact o_eqKey rfl rfl rfl | exact o_neKey rfl rfl rfl | exact o_eqVl rfl rfl rfl | exact o_neVl rfl rfl rfl | exact o_eqEnt rfl rfl rfl | exact o_neEnt rfl rfl rfl | exact o_eqMsg rfl rfl rfl | exact o_neMsg rfl rfl rfl | exact o_acall rfl rfl rfl rfl (by assumption) | exact o_minn rfl rfl rfl | exact o_cutl rfl rfl rfl rfl (by omega) | exact o_cuth rfl rfl rfl rfl (by omega) | exact o_cutl3 rfl rfl rfl rfl (by omega) | exact o_cuth3 rfl rfl rfl rfl (by omega) | exact o_cutl2 rfl rfl rfl rfl rfl (by omega) | exact o_cuth2 rfl rfl rfl rfl rfl (by omega) | exact o_cutlh2 rfl rfl rfl rfl rfl rfl rfl (by omega) (by omega) | exact o_bld zero_Opn rfl rfl rfl rfl rfl rfl rfl | exact o_bld zero_Ans rfl rfl rfl rfl rfl rfl rfl | exact o_eqAns rfl rfl rfl | exact o_neAns rfl rfl rfl | exact e_bld rfl rfl rfl | exact e_bldk rfl rfl | exact z_bld0 rfl rfl rfl rfl rfl | exact z_bld rfl rfl rfl rfl rfl rfl rfl | exact o_addu rfl rfl rfl | exact z_blda rfl rfl rfl rfl rfl rfl rfl rfl rfl | exact o_idxa rfl rfl rfl rfl rfl rfl | exact o_idxra rfl rfl rfl rfl rfl rfl rfl | exact o_quo2 rfl rfl rfl (by omega) | exact o_quo rfl rfl rfl (by omega))); (focus (first | exact want_n | exact want_g rfl (by with_reducible rfl)))) | (apply Wb; (focus (first | exact o_box rfl rfl rfl rfl | exact o_app rfl rfl rfl rfl rfl (by first | exact o_many rfl | exact o_one _ _ rfl) (by first | omega | (simp; omega) | simp) (by first | omega | (simp; omega) | simp) | exact o_appn rfl rfl rfl rfl rfl (by first | exact o_many rfl | exact o_one _ _ rfl) (by first | omega | (simp; omega) | simp) (by first | omega | (simp; omega) | simp) | exact o_app1 rfl rfl rfl rfl rfl (by first | exact o_many rfl | exact o_one _ _ rfl) (by exact rfl) (by first | omega | (simp; omega) | simp) (by first | omega | (simp; omega) | simp) | exact o_app0 rfl rfl rfl rfl rfl (by first | exact o_many rfl | exact o_one _ _ rfl) (by first | omega | (simp; omega) | simp) (by first | omega | (simp; omega) | simp) | exact o_bsl0 rfl rfl rfl | exact z_bsll rfl rfl rfl rfl rfl rfl rfl rfl rfl | exact z_alloc rfl rfl rfl | exact o_alloc zero_Opn rfl rfl | exact o_alloc zero_Ans rfl rfl | exact o_bsll zero_Ans rfl rfl rfl rfl rfl rfl rfl rfl | exact o_bsll zero_Opn rfl rfl rfl rfl rfl rfl rfl rfl)); (focus (first | exact want_n | exact want_g rfl (by with_reducible rfl)))) | (apply Ws; (focus (exact ok_store tabT (d := none) rfl rfl rfl rfl rfl rfl rfl rfl rfl rfl)); (focus (first | exact want_n | exact want_g rfl (by with_reducible rfl)))) | (refine Wskip (by first | exact want_f rfl (by with_reducible exact b_nt) | exact want_f rfl (by with_reducible exact b_nf) | exact want_t rfl) rfl ?_) | refine Wgt rfl rfl (by first | assumption | omega | exact rfl) ?_ | refine Wgf rfl rfl (by first | assumption | omega | exact rfl) ?_ | (refine Wgb rfl rfl (by with_reducible assumption) ?_) | (refine cb_is _ (by assumption) ?_)))); exact kHid.out) : Q := h ⟨k⟩
/-! ### bytes copied into an array -/
theorem bytesAV_bits (s : ByteArray) : bytesAV s = (bitsOf s).map byteA := by
  unfold bytesAV bitsOf
  rw [List.map_map]
  refine List.map_congr_left fun b _ => ?_
  simp only [Function.comp, byteA, B8_def]
  rfl
theorem over_list {m : Nat} (b : Vector (BitVec 8) m) (ys : List (BitVec 8)) (h : ys.length ≤ m) : (over b ys).toList = ys ++ b.toList.drop ys.length := by
  apply List.ext_getElem
  · simp; omega
  · intro i h1 h2
    have hi : i < m := by simpa using h1
    rw [Vector.getElem_toList, over_get b ys i hi]
    by_cases c : i < ys.length
    · rw [List.getElem_append_left c, List.getElem?_eq_getElem c]; rfl
    · rw [List.getElem_append_right (by omega), List.getElem?_eq_none (by omega)]
      simp [show ys.length + (i - ys.length) = i by omega]
section
variable {E : Env} {nt : Nat} {ops : Array Oper} {T : Nat → Option AV} {H : Hp} {d : Option Nat} {ty : TypeId} {pos : String} {af : Array Edge} {gd : Option (Nat × Bool)}
theorem o_cutarr {t e : TypeId} {tn len es : Nat} {ea : Bool} {x : Operand} {g off : Nat} {p : List Nat} (hd : dOk nt d = true) (hs : tabT.ti t = some (.arr tn (len + 1) es ea e)) (hx : evalO T x = some (.ptr g off p)) (hl : Nat.blt len 9223372036854775807 = true) :
    OpOK Try.prog E nt ops ⟨d, .slice t x none none none, ty, pos, af, gd⟩ T H [] ⟨.seg g off es p (len + 1) (len + 1), []⟩ :=
  ok_cut_arr tabT hd hs hx (show BndA T none (len + 1) (len + 1) from rfl) (Nat.le_refl _) (by simpa using hl)
theorem o_cpbytes {x y : Operand} {t tx e : TypeId} {bytes : Nat} {ea : Bool} {g off cap m : Nat} {p : List Nat} {z z' src : AV} {b : Vector (BitVec 8) m} {ys : List (BitVec 8)} (hd : dOk nt d = true) (hs : tabT.ti t = some (.sl e 1 bytes ea)) (hx : evalO T x = some (.seg g off 1 p m cap)) (hy : evalO T y = some src) (hsrc : SrcNOf Try.prog 1 src (ys.map byteA))
    (hg : H g = some (.var z)) (hp : subA p z = some (vecA b)) (ho : offA p z = off) (hz : setA (vecA (over b ys)) p z = some z') (hle : ys.length ≤ m) :
    OpOK Try.prog E nt ops ⟨d, .call { callee := .builtin .copy, args := #[x, y], argTypes := #[t, tx] }, ty, pos, af, gd⟩ T H [g] ⟨.v (.int .i64 (ys.length : Nat)), [(g, .var z')]⟩ := by
  have hmin : min (ys.map byteA).length m = ys.length := by rw [List.length_map]; omega
  have h := ok_copy tabT (E := E) (nt := nt) (ops := ops) (T := T) (H := H) (d := d) (ty := ty) (pos := pos) (af := af) (gd := gd) (x := x) (y := y) (t := t) (tx := tx) (g := g) (off := off) (len := m) (cap := cap) (m := m) (p := p) (z := z) (z' := z') (src := src) (xs := b.toList.map byteA) (ys := ys.map byteA) hd hs hx hy hsrc hg hp ho (by simp) (by
    rw [hmin]
    rw [← hz, vecA, over_list b ys hle, List.map_append, List.map_drop]
    rw [List.take_of_length_le (by simp)])
  rw [hmin] at h
  exact h
theorem o_cpstr {x y : Operand} {t tx e : TypeId} {bytes : Nat} {ea : Bool} {g off cap m : Nat} {p : List Nat} {z z' : AV} {b : Vector (BitVec 8) m} {s : ByteArray} (hd : dOk nt d = true) (hs : tabT.ti t = some (.sl e 1 bytes ea)) (hx : evalO T x = some (.seg g off 1 p m cap)) (hy : evalO T y = some (.v (.string s)))
    (hg : H g = some (.var z)) (hp : subA p z = some (vecA b)) (ho : offA p z = off) (hz : setA (vecA (over b (bitsOf s))) p z = some z') (hle : s.size ≤ m) :
    OpOK Try.prog E nt ops ⟨d, .call { callee := .builtin .copy, args := #[x, y], argTypes := #[t, tx] }, ty, pos, af, gd⟩ T H [g] ⟨.v (.int .i64 (s.size : Nat)), [(g, .var z')]⟩ := by
  have h := o_cpbytes (E := E) (nt := nt) (ops := ops) (ty := ty) (pos := pos) (af := af) (gd := gd) (tx := tx) hd hs hx hy (by rw [← bytesAV_bits]; exact srcn_str) hg hp ho hz (by rw [bitsOf_length]; exact hle)
  rw [bitsOf_length] at h
  exact h
end
section
variable {E : Env} {nt : Nat} {ops : Array Oper} {T : Nat → Option AV} {H : Hp} {d : Option Nat} {ty : TypeId} {pos : String} {af : Array Edge} {gd : Option (Nat × Bool)}
/-- a text's bytes, in a row of their own that nobody writes -/
theorem o_convt {s t e : TypeId} {x : Operand} {l : ByteArray} (hs : Try.prog.underlying s = some .string) (ht : Try.prog.underlying t = some (.slice e)) (he : Try.prog.underlying e = some (.int .u8)) (hd : dOk nt d = true) (hx : evalO T x = some (.v (.string l))) (hl : l.size ≤ maxLen) :
    OpOK Try.prog E nt ops ⟨d, .convert s t x, ty, pos, af, gd⟩ T H [] ⟨.sl none 1 ((bitsOf l).map byteA), []⟩ :=
  ok_eff hd fun B T' H' a w r hto hh hw => by
    have hxv := r.evalv ((hto x (by simp [Op.operands])).trans hx)
    have hcv := run_bytes_of_string (P := Try.prog) w s t e l hs ht he
    have hcap := grownCap_ge w l.size 0 e
    have hcap2 := grownCap_le_maxLen w l.size 0 e hl
    have r1 : Rel E nt B T' H' a (w.drew.alloc (.cells (bytesRow l (grownCap w l.size 0 e)) e ((bytesRow l (grownCap w l.size 0 e)).size, (bytesRow l (grownCap w l.size 0 e)).size + 1))) := r.drew.ext ((Ext.refl _).alloc _)
    refine ⟨_, _, B, by simp only [execOp, hxv, Sem.run_bind, hcv]; rfl, r1, ?_⟩
    have hlen : ((bitsOf l).map byteA).length = l.size := by rw [List.length_map, bitsOf_length]
    rw [Rdv_not (by simp)]
    refine ⟨[.slice (some ⟨w.heap.size, 0, none⟩) l.size (grownCap w l.size 0 e)], ?_, rfl⟩
    simp only [Rd]
    refine ⟨some ⟨w.heap.size, 0, none⟩, grownCap w l.size 0 e, by rw [hlen], by rw [hlen]; exact hcap, hcap2, fun _ => ?_, fun t ht => (by cases ht)⟩
    have hnew : (w.drew.alloc (.cells (bytesRow l (grownCap w l.size 0 e)) e ((bytesRow l (grownCap w l.size 0 e)).size, (bytesRow l (grownCap w l.size 0 e)).size + 1))).heap[w.heap.size]? = some (.cells (bytesRow l (grownCap w l.size 0 e)) e ((bytesRow l (grownCap w l.size 0 e)).size, (bytesRow l (grownCap w l.size 0 e)).size + 1)) := heap_alloc_new _ _
    refine ⟨w.heap.size, 0, (bitsOf l).map (fun x => Value.int .u8 (B8 x)), rfl, ?_, fun o _ _ hu => ?_, (rdu_bytes _).2 rfl⟩
    · rw [row_block hnew]
      unfold rowOf
      rw [hlen, if_pos (by simp [bytesRow])]
      congr 1
      apply Array.ext'
      simp only [bytesRow, Nat.mul_one, Nat.zero_add]
      have hb : bitsOf l = l.data.toList.map (·.toBitVec) := rfl
      rw [hb, List.map_map]
      have hsz : l.size = l.data.toList.length := rfl
      rw [Array.toList_extract, List.extract_eq_take_drop]
      simp only [Array.toList_append, Array.toList_map, Array.toList_replicate, Nat.sub_zero, List.drop_zero]
      rw [List.take_append_of_le_length (by simp), List.take_of_length_le (by simp)]
      refine List.map_congr_left fun b _ => ?_
      simp only [Function.comp, B8_def]
      rfl
    · have := r.mem.unst_lt hu
      omega
end
/-! ### contracts -/
theorem a_vlof (xs : List (BitVec 8)) (h : xs.length ≤ 16) : AFn Try.prog 68 [.sl none 1 (xs.map byteA)] (mkVl xs).av := fun U w vs hr => by
  obtain ⟨v1, us, rfl, h1, hr⟩ := rdp_one hr
  obtain rfl := rdp_nil hr
  exact ofIs (vlof_any v1 xs w (sl_bytes_of h1) h) fun w' => dVl.rdv.2 rfl
theorem a_refvlofs (s : ByteArray) : AFn Try.prog 40 [strA s] (.tup [(vlOf s).1.av, intA (vlOf s).2]) := fun U w vs hr => by
  obtain ⟨v1, us, rfl, h1, hr⟩ := rdp_one hr
  obtain rfl := rdp_nil hr
  rw [(Rdv_v.1 h1).2, ← bytes_bits s]
  refine ofIs (refvlof_any (bitsOf s) w) fun w' => ?_
  rw [bytes_bits, Rdv_tup]
  have hl := bitsOf_length s
  unfold vlOf
  by_cases h : s.size ≤ 16
  · rw [if_pos (by omega), if_pos h]
    refine ⟨[.agg (mkVl (bitsOf s)).arr, .int .i64 0], rfl, ?_⟩
    simp only [Rdp]
    exact ⟨(mkVl (bitsOf s)).arr.toList, [.int .i64 0], rfl, Vl.rd.2 rfl, [.int .i64 0], [], rfl, (rd_v rfl).2 rfl, rfl⟩
  · rw [if_neg (by omega), if_neg h]
    refine ⟨[.agg Vl.zero.arr, .int .i64 2], rfl, ?_⟩
    simp only [Rdp]
    exact ⟨Vl.zero.arr.toList, [.int .i64 2], rfl, Vl.rd.2 rfl, [.int .i64 2], [], rfl, (rd_v rfl).2 rfl, rfl⟩
theorem a_refkeyofs (s : ByteArray) : AFn Try.prog 54 [strA s] (.tup [(keyOf s).1.av, intA (keyOf s).2]) := fun U w vs hr => by
  obtain ⟨v1, us, rfl, h1, hr⟩ := rdp_one hr
  obtain rfl := rdp_nil hr
  rw [(Rdv_v.1 h1).2, ← bytes_bits s]
  refine ofIs (refkeyof_any (bitsOf s) w) fun w' => ?_
  rw [bytes_bits, Rdv_tup]
  have hl := bitsOf_length s
  unfold keyOf
  by_cases h : s.size ≤ 8
  · rw [if_pos (by omega), if_pos h]
    refine ⟨[.agg (mkKey (bitsOf s)).arr, .int .i64 0], rfl, ?_⟩
    simp only [Rdp]
    exact ⟨(mkKey (bitsOf s)).arr.toList, [.int .i64 0], rfl, Key.rd.2 rfl, [.int .i64 0], [], rfl, (rd_v rfl).2 rfl, rfl⟩
  · rw [if_neg (by omega), if_neg h]
    refine ⟨[.agg Key.zero.arr, .int .i64 2], rfl, ?_⟩
    simp only [Rdp]
    exact ⟨Key.zero.arr.toList, [.int .i64 2], rfl, Key.rd.2 rfl, [.int .i64 2], [], rfl, (rd_v rfl).2 rfl, rfl⟩
attribute [local irreducible] OpOK AWops AW CondB Go2 AFn thenA inBlockA noGotoA orderOk wantedA
set_option maxRecDepth 100000 in
set_option maxHeartbeats 4000000 in
theorem a_keyofs (s : ByteArray) : AFn Try.prog 61 [strA s] (.tup [(keyOf s).1.av, intA (keyOf s).2]) := by
  refine AFn_intro Try.func61 rfl Try.ntmps61 rfl (by simp) [_, _] rfl fun E hE => ?_
  unfold keyOf
  by_cases h : s.size ≤ 8
  · have h' : ¬ (8 : Int) < (s.size : Nat) := by omega
    rw [if_pos h]
    refine wM ?_
    apply Wv; (focus (exact o_cutarr rfl rfl rfl rfl)); (focus (first | exact want_n | exact want_g rfl (by with_reducible rfl)))
    refine wM ?_
    apply Wb; (focus (exact o_cpstr (b := Key.zero.b) rfl rfl rfl rfl rfl rfl rfl rfl h)); (focus (first | exact want_n | exact want_g rfl (by with_reducible rfl)))
    refine wM ?_
    have e : (mkKey (bitsOf s)).av = .agg 9 [.v (.int .i64 s.size), vecA (over Key.zero.b (bitsOf s))] := by
      unfold mkKey Key.av
      rw [bitsOf_length, ← over_zero]
      rfl
    rw [e]
    exact fin ⟨res_var rfl rfl rfl rfl, res_of rfl rfl rfl, trivial⟩
  · have h' : (8 : Int) < (s.size : Nat) := by omega
    rw [if_neg h]
    refine wM ?_
    exact fin ⟨res_var rfl rfl rfl rfl, res_of rfl rfl rfl, trivial⟩
set_option maxRecDepth 100000 in
set_option maxHeartbeats 4000000 in
theorem a_vlofs (s : ByteArray) : AFn Try.prog 63 [strA s] (.tup [(vlOf s).1.av, intA (vlOf s).2]) := by
  refine AFn_intro Try.func63 rfl Try.ntmps63 rfl (by simp) [_, _] rfl fun E hE => ?_
  unfold vlOf
  by_cases h : s.size ≤ 16
  · have h' : ¬ (16 : Int) < (s.size : Nat) := by omega
    rw [if_pos h]
    have c0 := a_vlof (bitsOf s) (by rw [bitsOf_length]; exact h)
    have c1 := acall Try.func68 (c0) (by decide +kernel) (by decide +kernel)
    refine wM ?_
    apply Wv; (focus (exact o_convt Try.underlying9 Try.underlying33 Try.underlying5 rfl rfl (by unfold maxLen; omega))); (focus (first | exact want_n | exact want_g rfl (by with_reducible rfl)))
    refine wM ?_
    exact fin ⟨res_var rfl rfl rfl rfl, res_of rfl rfl rfl, trivial⟩
  · have h' : (16 : Int) < (s.size : Nat) := by omega
    rw [if_neg h]
    refine wM ?_
    exact fin ⟨res_var rfl rfl rfl rfl, res_of rfl rfl rfl, trivial⟩
set_option maxRecDepth 100000 in
set_option maxHeartbeats 4000000 in
theorem a_histlarge (o : Opn) : AFn Try.prog 51 [o.av] (boolA (large o)) := by
  refine AFn_intro Try.func51 rfl Try.ntmps51 rfl (by simp) [_] rfl fun E hE => ?_
  unfold large
  by_cases h : 8 < o.key.size
  · have h' : (8 : Int) < (o.key.size : Nat) := by omega
    rw [decide_eq_true h, Bool.true_or]
    refine wM ?_
    exact fin ⟨res_of rfl rfl rfl, trivial⟩
  · have h' : ¬ (8 : Int) < (o.key.size : Nat) := by omega
    rw [decide_eq_false h, Bool.false_or]
    by_cases k : o.kind = 1
    · rw [decide_eq_true k, Bool.true_and]
      by_cases q : 16 < o.val.size
      · have q' : (16 : Int) < (o.val.size : Nat) := by omega
        rw [decide_eq_true q]
        refine wM ?_
        exact fin ⟨res_yesm rfl q', trivial⟩
      · have q' : ¬ (16 : Int) < (o.val.size : Nat) := by omega
        rw [decide_eq_false q]
        refine wM ?_
        exact fin ⟨res_nom rfl q', trivial⟩
    · rw [decide_eq_false k, Bool.false_and]
      refine wM ?_
      exact fin ⟨res_of rfl rfl rfl, trivial⟩
set_option maxRecDepth 100000 in
set_option maxHeartbeats 4000000 in
theorem a_ref23large (o : Opn) : AFn Try.prog 27 [o.av] (boolA (large o)) := by
  refine AFn_intro Try.func27 rfl Try.ntmps27 rfl (by simp) [_] rfl fun E hE => ?_
  unfold large
  by_cases h : 8 < o.key.size
  · have h' : (8 : Int) < (o.key.size : Nat) := by omega
    rw [decide_eq_true h, Bool.true_or]
    refine wM ?_
    exact fin ⟨res_of rfl rfl rfl, trivial⟩
  · have h' : ¬ (8 : Int) < (o.key.size : Nat) := by omega
    rw [decide_eq_false h, Bool.false_or]
    by_cases k : o.kind = 1
    · rw [decide_eq_true k, Bool.true_and]
      by_cases q : 16 < o.val.size
      · have q' : (16 : Int) < (o.val.size : Nat) := by omega
        rw [decide_eq_true q]
        refine wM ?_
        exact fin ⟨res_yesm rfl q', trivial⟩
      · have q' : ¬ (16 : Int) < (o.val.size : Nat) := by omega
        rw [decide_eq_false q]
        refine wM ?_
        exact fin ⟨res_nom rfl q', trivial⟩
    · rw [decide_eq_false k, Bool.false_and]
      refine wM ?_
      exact fin ⟨res_of rfl rfl rfl, trivial⟩
end Go.Proofs.Ytphojngdgmnpaaa

namespace Go.Proofs.Ytphojngdgmnpaaa
open Go Go.RowKit
set_option linter.unusedVariables false
set_option linter.unusedSimpArgs false
set_option maxRecDepth 100000

def mdFind (l : List Ent) (s : ByteArray) : Vl × Bool := if s.size ≤ 8 then opA (lfGet (keyOf s).1 l) else (Vl.zero, false)
attribute [local irreducible] OpOK AWops AW CondB Go2 AFn thenA inBlockA noGotoA orderOk wantedA
set_option maxRecDepth 100000 in
set_option maxHeartbeats 4000000 in
theorem a_refdo (l : List Ent) (o : Opn) (h : Lf l) (hl : l.length ≤ 1000000000) : AFn Try.prog 39 [entsA l, o.av] (.tup [entsA (mdDo l o).1, (mdDo l o).2.av]) := by
  refine AFn_intro Try.func39 rfl Try.ntmps39 rfl (by simp) [_, _] rfl fun E hE => ?_
  have c1 := a_ref23large o
  unfold mdDo
  cases hL : large o with
  | true =>
    rw [hL] at c1
    have d1 := acall Try.func27 (c1) (by decide +kernel) (by decide +kernel)
    rw [if_pos rfl]
    refine wM ?_
    exact fin ⟨res_sl rfl, res_var rfl rfl rfl rfl, trivial⟩
  | false =>
  rw [hL] at c1
  have d1 := acall Try.func27 (c1) (by decide +kernel) (by decide +kernel)
  rw [if_neg (by simp)]
  have d2 := acall Try.func54 (a_refkeyofs o.key) (by decide +kernel) (by decide +kernel)
  by_cases k4 : o.kind = 4
  · rw [if_pos k4]
    have d3 := acall Try.func55 (a_ref07find l (keyOf o.key).1 h.srt hl) (by decide +kernel) (by decide +kernel)
    have n1 : ¬ o.kind = 1 := by omega
    have n3 : ¬ o.kind = 3 := by omega
    have n2 : ¬ o.kind = 2 := by omega
    refine wM ?_
    exact fin ⟨res_sl rfl, res_var rfl rfl rfl rfl, trivial⟩
  rw [if_neg k4]
  by_cases kr : o.kind < 1 ∨ 4 < o.kind
  · rw [if_pos kr]
    have n1 : ¬ o.kind = 1 := by omega
    have n3 : ¬ o.kind = 3 := by omega
    have n2 : ¬ o.kind = 2 := by omega
    by_cases kl : o.kind < 1
    · refine wM ?_
      exact fin ⟨res_sl rfl, res_var rfl rfl rfl rfl, trivial⟩
    · have kg : 4 < o.kind := by omega
      refine wM ?_
      exact fin ⟨res_sl rfl, res_var rfl rfl rfl rfl, trivial⟩
  rw [if_neg kr]
  have q1 : ¬ o.kind < 1 := by omega
  have q2 : ¬ 4 < o.kind := by omega
  have d4 := acall Try.func56 (a_ref07put l (msgOf o) h (keyOf_ok _) hl) (by decide +kernel) (by decide +kernel)
  by_cases k1 : o.kind = 1
  · have e1 : (msgOf o).av = .agg 29 [intA o.kind, u64A 0#64, (keyOf o.key).1.av, (vlOf o.val).1.av, u64A 0#64] := by
      unfold msgOf Msg.av
      rw [if_pos k1, if_neg (by omega)]
    have d5 := acall Try.func40 (a_refvlofs o.val) (by decide +kernel) (by decide +kernel)
    rw [e1] at d4
    have n3 : ¬ o.kind = 3 := by omega
    refine wM ?_
    exact fin ⟨res_sl rfl, res_var rfl rfl rfl rfl, trivial⟩
  by_cases k3 : o.kind = 3
  · have e1 : (msgOf o).av = .agg 29 [intA o.kind, u64A 0#64, (keyOf o.key).1.av, Vl.zero.av, u64A o.add] := by
      unfold msgOf Msg.av
      rw [if_neg k1, if_pos k3]
    rw [e1] at d4
    refine wM ?_
    exact fin ⟨res_sl rfl, res_var rfl rfl rfl rfl, trivial⟩
  have k2 : o.kind = 2 := by omega
  have e1 : (msgOf o).av = .agg 29 [intA o.kind, u64A 0#64, (keyOf o.key).1.av, Vl.zero.av, u64A 0#64] := by
    unfold msgOf Msg.av
    rw [if_neg k1, if_neg k3]
  rw [e1] at d4
  refine wM ?_
  exact fin ⟨res_sl rfl, res_var rfl rfl rfl rfl, trivial⟩
set_option maxRecDepth 100000 in
set_option maxHeartbeats 4000000 in
theorem a_mdo (l : List Ent) (o : Opn) (h : Lf l) (hl : l.length ≤ 1000000000) : AFn Try.prog 50 [entsA l, o.av] (.tup [entsA (mdDo l o).1, (mdDo l o).2.av]) := by
  refine AFn_intro Try.func50 rfl Try.ntmps50 rfl (by simp) [_, _] rfl fun E hE => ?_
  have c1 := a_histlarge o
  unfold mdDo
  cases hL : large o with
  | true =>
    rw [hL] at c1
    have d1 := acall Try.func51 (c1) (by decide +kernel) (by decide +kernel)
    rw [if_pos rfl]
    refine wM ?_
    exact fin ⟨res_sl rfl, res_var rfl rfl rfl rfl, trivial⟩
  | false =>
  rw [hL] at c1
  have d1 := acall Try.func51 (c1) (by decide +kernel) (by decide +kernel)
  rw [if_neg (by simp)]
  have d2 := acall Try.func61 (a_keyofs o.key) (by decide +kernel) (by decide +kernel)
  by_cases k4 : o.kind = 4
  · rw [if_pos k4]
    have d3 := acall Try.func62 (a_leaffind l (keyOf o.key).1 h.srt hl) (by decide +kernel) (by decide +kernel)
    have n1 : ¬ o.kind = 1 := by omega
    have n3 : ¬ o.kind = 3 := by omega
    have n2 : ¬ o.kind = 2 := by omega
    refine wM ?_
    exact fin ⟨res_sl rfl, res_var rfl rfl rfl rfl, trivial⟩
  rw [if_neg k4]
  by_cases kr : o.kind < 1 ∨ 4 < o.kind
  · rw [if_pos kr]
    have n1 : ¬ o.kind = 1 := by omega
    have n3 : ¬ o.kind = 3 := by omega
    have n2 : ¬ o.kind = 2 := by omega
    refine wM ?_
    exact fin ⟨res_sl rfl, res_var rfl rfl rfl rfl, trivial⟩
  rw [if_neg kr]
  have q1 : ¬ o.kind < 1 := by omega
  have q2 : ¬ 4 < o.kind := by omega
  have hk : 1 ≤ (msgOf o).kind ∧ (msgOf o).kind ≤ 3 := by show 1 ≤ o.kind ∧ o.kind ≤ 3; omega
  have d4 := acall Try.func64 (a_leafput l (msgOf o) h (keyOf_ok _) hk hl) (by decide +kernel) (by decide +kernel)
  by_cases k1 : o.kind = 1
  · have e1 : (msgOf o).av = .agg 29 [intA o.kind, u64A 0#64, (keyOf o.key).1.av, (vlOf o.val).1.av, u64A 0#64] := by
      unfold msgOf Msg.av
      rw [if_pos k1, if_neg (by omega)]
    have d5 := acall Try.func63 (a_vlofs o.val) (by decide +kernel) (by decide +kernel)
    rw [e1] at d4
    have n3 : ¬ o.kind = 3 := by omega
    refine wM ?_
    exact fin ⟨res_sl rfl, res_var rfl rfl rfl rfl, trivial⟩
  by_cases k3 : o.kind = 3
  · have e1 : (msgOf o).av = .agg 29 [intA o.kind, u64A 0#64, (keyOf o.key).1.av, Vl.zero.av, u64A o.add] := by
      unfold msgOf Msg.av
      rw [if_neg k1, if_pos k3]
    rw [e1] at d4
    refine wM ?_
    exact fin ⟨res_sl rfl, res_var rfl rfl rfl rfl, trivial⟩
  have k2 : o.kind = 2 := by omega
  have e1 : (msgOf o).av = .agg 29 [intA o.kind, u64A 0#64, (keyOf o.key).1.av, Vl.zero.av, u64A 0#64] := by
    unfold msgOf Msg.av
    rw [if_neg k1, if_neg k3]
  rw [e1] at d4
  refine wM ?_
  exact fin ⟨res_sl rfl, res_var rfl rfl rfl rfl, trivial⟩
end Go.Proofs.Ytphojngdgmnpaaa

namespace Go.Proofs.Ytphojngdgmnpaaa
open Go Go.RowKit
set_option linter.unusedVariables false
set_option linter.unusedSimpArgs false
set_option maxRecDepth 100000
set_option linter.unusedSectionVars false

mutual
theorem ren_id : ∀ (x : AV), renA (fun c => c) x = x
  | .v x => rfl
  | .agg n fs => by simp only [renA, ren_idL fs]
  | .arr m n xs => rfl
  | .ptr _ _ _ => rfl
  | .ref x => rfl
  | .sl none n xs => rfl
  | .sl (some t) n xs => rfl
  | .seg _ _ _ _ _ _ => rfl
  | .tup vs => by simp only [renA, ren_idL vs]
  | .fn f a b => by simp only [renA, ren_idL a, ren_idL b]
  | .ifc t x => by simp only [renA, ren_id x]
  | .own _ _ _ _ => rfl
theorem ren_idL : ∀ (xs : List AV), renL (fun c => c) xs = xs
  | [] => rfl
  | x :: xs => by simp only [renL, ren_id x, ren_idL xs]
end
theorem renB_id (bx : Bx) : renB (fun c => c) bx = bx := by cases bx <;> simp only [renB, ren_id]
/-- a live box's block is of cells -/
theorem Mem.cells {E : Env} {B : Blk} {H : Hp} {w : World} (m : Mem E B H w) {g b : Nat} {bx : Bx} (h : H g = some bx) (hl : liveB bx = true) (hb : B g = some b) : ∃ cs t fr, w.heap[b]? = some (.cells cs t fr) := by
  have h1 := m.box g bx h
  cases bx with
  | var x => obtain ⟨b', cs, t, k1, k2, _⟩ := h1; rw [hb] at k1; injection k1 with k1; subst k1; exact ⟨_, _, _, k2⟩
  | froz x => cases hl
  | tail e n k =>
    rcases h1.2.2 with ⟨k1, _⟩ | ⟨b', cur, cap, k1, k2, _⟩
    · rw [hb] at k1; cases k1
    · rw [hb] at k1; injection k1 with k1; subst k1; exact ⟨_, _, _, k2⟩
  | own e n xs =>
    rcases h1.2.2 with ⟨k1, _⟩ | ⟨b', cur, cap, c, k1, k2, _⟩
    · rw [hb] at k1; cases k1
    · rw [hb] at k1; injection k1 with k1; subst k1; exact ⟨_, _, _, k2⟩
def noCells (w : World) (l : Nat) : Prop := ∀ cs t fr, w.heap[l]? ≠ some (.cells cs t fr)
theorem noCells_loop {w : World} {l : Nat} {r : Loop} (h : w.heap[l]? = some (.loop r)) : noCells w l := fun cs t fr e => by rw [h] at e; cases e
theorem noCells_def {w : World} {l : Nat} {r : Option (List Deferred)} (h : w.heap[l]? = some (.deferred r)) : noCells w l := fun cs t fr e => by rw [h] at e; cases e
/-- worlds that differ at one block that is no cells -/
structure Twin (l : Nat) (w w' : World) : Prop where
  size : w'.heap.size = w.heap.size
  heap : ∀ k, k ≠ l → w'.heap[k]? = w.heap[k]?
  no : noCells w l
  no' : noCells w' l
  os : w'.os = w.os
  tape : w'.tape = w.tape
  output : w'.output = w.output
theorem Twin.symm {l : Nat} {w w' : World} (t : Twin l w w') : Twin l w' w := ⟨t.size.symm, fun k hk => (t.heap k hk).symm, t.no', t.no, t.os.symm, t.tape.symm, t.output.symm⟩
theorem Twin.put {l : Nat} {w : World} {o o' : Obj} (h : w.heap[l]? = some o) (hc : ∀ cs t fr, o ≠ .cells cs t fr) (hc' : ∀ cs t fr, o' ≠ .cells cs t fr) : Twin l w (w.putObj l o') :=
  ⟨World.putObj_size, fun k hk => World.putObj_heap_other hk, fun cs t fr e => by rw [h] at e; injection e with e; exact hc _ _ _ e, fun cs t fr e => by
    rw [World.putObj_heap_same (Array.getElem?_eq_some_iff.1 h).1] at e; injection e with e; exact hc' _ _ _ e, rfl, rfl, rfl⟩
theorem Twin.refl {l : Nat} {w : World} (h : noCells w l) : Twin l w w := ⟨rfl, fun _ _ => rfl, h, h, rfl, rfl, rfl⟩
theorem Twin.cells {l : Nat} {w w' : World} (t : Twin l w w') {b : Nat} {cs : Array Value} {ty : TypeId} {fr : Nat × Nat} (h : w.heap[b]? = some (.cells cs ty fr)) : w'.heap[b]? = some (.cells cs ty fr) := by
  rw [t.heap b (fun e => by subst e; exact t.no _ _ _ h)]; exact h
theorem Twin.evo {l : Nat} {w w' : World} (t : Twin l w w') (U : Uns) : Evo U w w' := ⟨Nat.le_of_eq t.size.symm, fun b cs ty fr h => ⟨cs, t.cells h, rfl, fun _ _ => rfl⟩⟩
theorem Mem.swap {E E' : Env} {B : Blk} {H : Hp} {w w' : World} {l : Nat} (hX : E'.X = E.X) (heb : E'.eb = E.eb) (t0 : Twin l E.w0 E'.w0 ∨ E'.w0 = E.w0) (t : Twin l w w') (hl : l < E'.w0.heap.size → ¬ E'.ent l → w'.heap[l]? = E'.w0.heap[l]?) (m : Mem E B H w) :
    Mem E' B H w' ∧ ∀ x v, Rdv (unst E B H) w B H x v → Rdv (unst E' B H) w' B H x v := by
  have hs : E'.w0.heap.size = E.w0.heap.size := by rcases t0 with t0 | t0; exact t0.size; rw [t0]
  have hent : ∀ b, E'.ent b ↔ E.ent b := fun b => by unfold Env.ent; rw [heb]
  have hun : unst E' B H = unst E B H := by
    funext b o
    unfold unst
    rw [hs, hX]
    simp only [hent]
  have hmine : ∀ b o, Mine E b o → Mine E' b o := fun b o h => by unfold Mine at h ⊢; rw [hs, hX]; simpa only [hent] using h
  have htie : ∀ g k b, Tie E g k b → Tie E' g k b := fun g k b h => by unfold Tie at h ⊢; rw [heb]; exact h
  have p : Pic w w' B B H H := ⟨fun _ _ _ h => h, fun _ h => h, fun t0 n len A cap h => by
    obtain ⟨ty, k, h1, h2, h3⟩ := h
    refine ⟨ty, k, h1, h2, fun hk => ⟨(h3 hk).1, fun b hb => ?_⟩⟩
    obtain ⟨h4, cur, h5, h6⟩ := (h3 hk).2 b hb
    exact ⟨h4, cur, t.cells h5, h6⟩, ownPic (t.evo (fun _ _ => False)) (fun _ _ _ _ h => ⟨h, rfl⟩)⟩
  have rd : ∀ (x : AV) {c : List Value}, Rd (unst E B H) w x B H c → Rd (unst E' B H) w' x B H c := fun x c h => by rw [hun]; exact Rd_go (t.evo _) (fun _ _ _ h => h) x p h
  have rdv : ∀ x v, Rdv (unst E B H) w B H x v → Rdv (unst E' B H) w' B H x v := fun x v h => by rw [hun]; exact Rdv_go (t.evo _) (fun _ _ _ h => h) p h
  refine ⟨⟨fun g bx h => ?_, m.non, m.inj, ⟨?_, ?_, ?_, ?_, fun k hk he => ?_, ?_⟩, fun g hg => by rw [heb]; exact m.keep g hg⟩, rdv⟩
  · have hb := m.box g bx h
    cases bx with
    | var x =>
      obtain ⟨b, cs, ty, h1, h2, h3, h4, h5⟩ := hb
      exact ⟨b, cs, ty, h1, t.cells h2, rd x h3, hmine _ _ h4, htie _ _ _ h5⟩
    | froz x =>
      obtain ⟨b, cs, h1, h2, h3, h4⟩ := hb
      exact ⟨b, cs, h1, (t.evo (unst E B H)).row h2 h3, by rw [hun]; exact h3, rd x h4⟩
    | tail ty n k =>
      obtain ⟨h0, hT, h1⟩ := hb
      refine ⟨h0, htie _ _ _ hT, h1.imp id ?_⟩
      rintro ⟨b, cur, cap, k1, k2, k3, k4, k5, k6⟩
      exact ⟨b, cur, cap, k1, t.cells k2, k3, k4, k5, hmine _ _ k6⟩
    | own ty n xs =>
      obtain ⟨h0, hT, h1⟩ := hb
      refine ⟨h0, htie _ _ _ hT, h1.imp id ?_⟩
      rintro ⟨b, cur, cap, c, k1, k2, k3, k4, k5, k6, k7, k8⟩
      exact ⟨b, cur, cap, c, k1, t.cells k2, k3, k4, k5, k6, by rw [hun]; exact Rdu_go (t.evo _) (fun _ _ _ h => h) n xs (Pic.refl0 _ _) k7, hmine _ _ k8⟩
  · rw [t.os, m.left.os]; rcases t0 with t0 | t0; exact t0.os.symm; rw [t0]
  · rw [t.tape, m.left.tape]; rcases t0 with t0 | t0; exact t0.tape.symm; rw [t0]
  · rw [t.output, m.left.output]; rcases t0 with t0 | t0; exact t0.output.symm; rw [t0]
  · rw [t.size, hs]; exact m.left.size
  · by_cases hkl : k = l
    · subst hkl; exact hl hk he
    · rw [t.heap k hkl, m.left.block k (hs ▸ hk) (fun h => he ((hent k).2 h))]
      rcases t0 with t0 | t0
      · exact (t0.heap k hkl).symm
      · rw [t0]
  · rw [hX]
    refine Evo.trans ?_ (m.left.evo.trans (t.evo _))
    rcases t0 with t0 | t0
    · exact t0.symm.evo _
    · rw [t0]; exact Evo.refl _ _

/-! ### the rounds -/
def recOf (fn : FuncId) (tm : Array Value) (ps : Array Tmp) (assign body : Code) (D : Nat) : Loop := { state := .ready, pending := none, fn, tmps := tm, params := ps, assign, body, defers := D }
/-- a call of yield, handed args, with the boxes H1 in hand: it hands back r, and leaves the boxes H2; some boxes' blocks are known -/
def YFn (P : Program) (l : Nat) (rc : Loop) (bs : List (Nat × Nat)) (args : List AV) (H1 : List (Nat × Bx)) (r : AV) (H2 : List (Nat × Bx)) : Prop :=
  ∀ (n : Nat) (E : Env) (B : Blk) (w : World) (vs : List Value), E.df = [] → E.w0 = w → ¬ E.ent l → Mem E B (hL H1) w → (∀ p ∈ bs, B p.1 = some p.2) → w.heap[l]? = some (.loop rc) → Rdp (unst E B (hL H1)) w args B (hL H1) vs →
    ∃ fn tmps assign body, (Instr.yield l vs.toArray).run P w = .ok (.round l fn tmps assign body) w ∧ RoundIn Fence.wide n P l fn tmps assign body w fun e w' => ∃ v B2, e = .returned v ∧ Mem E B2 (hL H2) w' ∧ Rdv (unst E B2 (hL H2)) w' B2 (hL H2) r v
section
variable {F : Fence} {n : Nat} {P : Program} {E : Env} {nt : Nat} {S : St} {Q : Exit → St → Prop}
theorem AWR_block {id : Nat} {c : Code} (h : AWR F n P E nt c S (inBlockA id Q)) : AWR F n P E nt (.block id c) S Q := fun B a w r =>
  wpIn_block (wpIn_mono (h B a w r) fun e a w ⟨B', S', h1, h2⟩ => by
    cases e with
    | exit id' =>
      simp only [inBlockA] at h2
      simp only [Exit.inBlock]
      split
      · rename_i he; rw [if_pos he] at h2; exact ⟨B', S', h1, h2⟩
      · rename_i he; rw [if_neg he] at h2; exact ⟨B', S', h1, h2⟩
    | normal => exact ⟨B', S', h1, h2⟩
    | outgrown => exact ⟨B', S', h1, h2⟩
    | goto l => exact ⟨B', S', h1, h2⟩
    | ret => exact ⟨B', S', h1, h2⟩
    | panic c => exact ⟨B', S', h1, h2⟩)
end
theorem AWR_reg {F : Fence} {n : Nat} {P : Program} {E : Env} {nt : Nat} {S : St} {Q : Exit → St → Prop} {id : Nat} {l : List Oper} (hF : F.plain = Fence.wide) (hd : l.all noDefer = true) (h : AWops P E nt l.toArray l S [] (fun S' _ => Q .normal S')) : AWR F n P E nt (.region id l.toArray false) S Q := AWR_region hF (by simpa using hd) (by simpa using h)
/-- the held slots: pointers to variables whose blocks are known -/
def bsOf (gs : List (Nat × Nat)) (bk : Nat → Nat) : List (Nat × Nat) := gs.map fun p => (p.2, bk p.2)
def ptrsOf (gs : List (Nat × Nat)) : List (Nat × AV) := gs.map fun p => (p.1, .ptr p.2 0 [])
def HeldOk (gs : List (Nat × Nat)) (bk : Nat → Nat) (tm : Array Value) : Prop := ∀ p ∈ gs, tm[p.1]? = some (.pointer (some ⟨bk p.2, 0, none⟩))
theorem YFn_intro {P : Program} {l : Nat} {fn : FuncId} {tm : Array Value} {p1 p2 : Tmp} {assign body : Code} {D nt : Nat} {gs : List (Nat × Nat)} {bk : Nat → Nat} {x1 x2 : AV} {H1 Ha Hb H2 : List (Nat × Bx)} {Ta : List (Nat × AV)}
    (hnt : tm.size = nt) (hp1 : p1 < nt) (hp2 : p2 < nt) (hp : p1 ≠ p2) (ht : HeldOk gs bk tm) (hgs : gs.all (fun p => !Nat.beq p.1 p1 && !Nat.beq p.1 p2 && isVar (look p.2 H1)) = true)
    (h1 : ∀ F n E, F.plain = Fence.wide → AWR F n P E nt assign ⟨(p1, x1) :: (p2, x2) :: ptrsOf gs, H1⟩ (fun e S' => e = .normal ∧ Sub S' ⟨Ta, Ha⟩))
    (hn : NamesOk (fun c => c) (hL Ha) Ha Ha) (hi : nodupB (Ha.map fun p => p.1) = true) (hta : ∀ p ∈ Ta, (namesA p.2).all (fun g => (look g Ha).isSome) = true)
    (h2 : ∀ F n E, F.plain = Fence.wide → AWR F n P E nt body ⟨Ta, Ha⟩ (fun e S' => e = .normal ∧ LeaveOk S'.H Hb))
    (hf : FreshOk (fun c => c) (hL Ha) Ha Hb) (ho : OutB (fun c => c) Ha Hb = true) (hh : SubH Hb H2 H2) (hk : (H1.all fun p => (look p.1 H2).isSome) = true) :
    YFn P l (recOf fn tm #[p1, p2] assign body D) (bsOf gs bk) [x1, x2] H1 (.v (.bool true)) H2 := by
  intro n E B w vs hdf hw0 hne m hbs hl hvs
  have hlt : l < w.heap.size := (Array.getElem?_eq_some_iff.1 hl).1
  obtain ⟨v1, us, rfl, q1, hvs'⟩ : ∃ v us, vs = v :: us ∧ Rdv (unst E B (hL H1)) w B (hL H1) x1 v ∧ Rdp (unst E B (hL H1)) w [x2] B (hL H1) us := by
    simp only [Rdp] at hvs ⊢
    obtain ⟨c, us, rfl, k1, k2⟩ := hvs
    exact ⟨_, us, rfl, by rw [Rdv_not (Rd_notup k1)]; exact ⟨c, k1, rfl⟩, k2⟩
  obtain ⟨v2, rfl, q2⟩ : ∃ v, us = [v] ∧ Rdv (unst E B (hL H1)) w B (hL H1) x2 v := by
    simp only [Rdp] at hvs'
    obtain ⟨c, us, rfl, k1, rfl⟩ := hvs'
    exact ⟨_, rfl, by rw [Rdv_not (Rd_notup k1)]; exact ⟨c, k1, rfl⟩⟩
  have hy := run_yield (P := P) (args := [v1, v2].toArray) hl rfl
  refine ⟨fn, _, assign, body, hy, ?_⟩
  have etm : ((recOf fn tm #[p1, p2] assign body D).params.zip [v1, v2].toArray).foldl (fun tmps (t, a) => tmps.setIfInBounds t a) (recOf fn tm #[p1, p2] assign body D).tmps = (tm.setIfInBounds p1 v1).setIfInBounds p2 v2 := by simp [recOf]
  rw [etm]
  refine roundIn_of_wpIn trivial ?_
  have r0 : Rel E nt B (St.t ⟨(p1, x1) :: (p2, x2) :: ptrsOf gs, H1⟩) (St.h ⟨(p1, x1) :: (p2, x2) :: ptrsOf gs, H1⟩) { tmps := (tm.setIfInBounds p1 v1).setIfInBounds p2 v2, defers := [] } w := by
    refine m.rel (by simp [hnt]) hdf.symm fun s x hs => ?_
    have e1 : St.t ⟨(p1, x1) :: (p2, x2) :: ptrsOf gs, H1⟩ = upd (upd (fun k => look k (ptrsOf gs)) p2 x2) p1 x1 := by
      show (fun k => look k ((p1, x1) :: (p2, x2) :: ptrsOf gs)) = _
      rw [look_cons, look_cons]
    rw [e1] at hs
    simp only [upd] at hs
    by_cases c1 : s = p1
    · subst c1
      simp at hs; subst hs
      exact ⟨v1, by simp [Array.getElem?_setIfInBounds, Ne.symm hp, hnt, hp1], q1⟩
    rw [if_neg c1] at hs
    by_cases c2 : s = p2
    · subst c2
      simp at hs; subst hs
      exact ⟨v2, by simp [Array.getElem?_setIfInBounds, hnt, hp2], q2⟩
    rw [if_neg c2] at hs
    obtain ⟨⟨s', g⟩, k1, k2⟩ := List.mem_map.1 (look_mem hs)
    simp only [Prod.mk.injEq] at k2
    obtain ⟨rfl, rfl⟩ := k2
    have k4 := ht _ k1
    rw [List.all_eq_true] at hgs
    have k5 := hgs _ k1
    simp only [Bool.and_eq_true, Bool.not_eq_true'] at k5
    refine ⟨_, by rw [Array.getElem?_setIfInBounds_ne (Ne.symm c2), Array.getElem?_setIfInBounds_ne (Ne.symm c1)]; exact k4, ?_⟩
    rw [Rdv_not (by simp)]
    exact ⟨[_], by simp only [Rd]; exact ⟨k5.2, _, hbs (g, bk g) (List.mem_map.2 ⟨_, k1, rfl⟩), rfl⟩, rfl⟩
  have hpl : (Fence.wide.inRound l).plain = Fence.wide := rfl
  refine wpIn_mono (h1 _ _ E hpl B _ w r0) ?_
  rintro e a1 w1 ⟨B1, S1, r1, rfl, hs1⟩
  obtain ⟨B1', r1'⟩ := hs1.rel r1
  have hl1 : w1.heap[l]? = some (.loop (recOf fn tm #[p1, p2] assign body D)) := by
    rw [r1'.left.block l (by rw [hw0]; exact hlt) hne, hw0]; exact hl
  have hlt1 : l < w1.heap.size := (Array.getElem?_eq_some_iff.1 hl1).1
  have hN := names_of hn hi
  have m1 := r1'.mem
  have tw : Twin l w1 (w1.putObj l (.loop { recOf fn tm #[p1, p2] assign body D with state := .busy })) := Twin.put hl1 (by intros; simp) (by intros; simp)
  have hne1 : ¬ (subE E B1' (hL Ha) w1 (fun c => c) (hL Ha) hN.lo).ent l := fun h => by
    obtain ⟨c, bx, k1, k2⟩ := (subE_ent hN).1 h
    obtain ⟨_, k3, _⟩ := hN.is c bx k1
    obtain ⟨cs, t, fr, k4⟩ := m1.cells k1 k3 k2
    exact noCells_loop hl1 _ _ _ k4
  let E1 := subE E B1' (hL Ha) w1 (fun c => c) (hL Ha) hN.lo
  let w2 := w1.putObj l (.loop { recOf fn tm #[p1, p2] assign body D with state := .busy })
  let E2 : Env := { E1 with w0 := w2 }
  obtain ⟨m2, rd2⟩ := Mem.swap (E := E1) (E' := E2) (l := l) rfl rfl (.inl tw) tw (fun _ _ => rfl) (m1.enter hN)
  refine ⟨w2, run_beginRound hl1 rfl, ?_⟩
  have r2 : Rel E2 nt (subB (fun c => c) B1' (hL Ha)) (St.t ⟨Ta, Ha⟩) (St.h ⟨Ta, Ha⟩) a1 w2 := by
    refine m2.rel r1'.nt (r1'.df.trans hdf) fun s x hs => ?_
    obtain ⟨v, k1, k2⟩ := r1'.tmp s x hs
    refine ⟨v, k1, rd2 x v ?_⟩
    have h3 := hta _ (look_mem hs)
    rw [List.all_eq_true] at h3
    exact m1.enter_rd hN (fun g hg => h3 g hg) (by rw [ren_id]; exact k2)
  refine wpIn_mono (h2 _ _ E2 hpl _ _ w2 r2) ?_
  rintro e a3 w3 ⟨B3, S3, r3, rfl, hlv⟩
  have m3 := (hlv.mem r3.mem).1
  have hl3 : w3.heap[l]? = some (.loop { recOf fn tm #[p1, p2] assign body D with state := .busy }) := by
    rw [r3.left.block l (by show l < w2.heap.size; rw [tw.size]; exact hlt1) hne1]
    exact World.putObj_heap_same hlt1
  have hlt3 : l < w3.heap.size := (Array.getElem?_eq_some_iff.1 hl3).1
  refine ⟨_, _, run_endRound none hl3, ?_⟩
  have tw3 : Twin l w3 (w3.putObj l (.loop (recOf fn tm #[p1, p2] assign body D))) := Twin.put hl3 (by intros; simp) (by intros; simp)
  obtain ⟨m4, _⟩ := Mem.swap (E := E2) (E' := E1) (l := l) rfl rfl (.inl tw.symm) tw3 (fun _ _ => (World.putObj_heap_same hlt3).trans hl1.symm) m3
  have o : Outs (fun c => c) (hL Ha) (hL Ha) (hL Hb) (updH (hL Ha) (outW (fun c => c) Hb)) B1' (dropB B3 (hL Hb)) (outBlk (fun c => c) Hb B1' (dropB B3 (hL Hb))) := outs_of hn hf ho hi
  have m5 := Mem.leave m1 o m4
  refine ⟨.bool true, _, rfl, (m5.drop (H' := hL H2) (fun g bx hg => ?_) fun g hg => ?_).1, by rw [Rdv_v]; exact ⟨rfl, rfl⟩⟩
  · obtain ⟨k1, k2⟩ := hh.all _ (look_mem hg)
    rw [List.all_eq_true] at k2
    refine ⟨?_, fun j hj => k2 j hj⟩
    have := (o.is g bx k1).1
    rw [renB_id] at this
    exact this
  · refine m.keep g ?_
    cases hh : hL H1 g with
    | none => rfl
    | some bx =>
      rw [List.all_eq_true] at hk
      have := hk _ (look_mem hh)
      rw [show look g H2 = none from hg] at this; cases this
/-! ### past a call of yield -/
section
variable {F : Fence} {n : Nat} {P : Program} {E : Env} {nt : Nat} {ops : Array Oper} {Q : Exit → Act → World → Prop} {K : St → List Rec → Prop}
theorem ops_in2 (hF : F.plain = Fence.wide) (hd : ops.toList.all noDefer = true) (rest : List Nat) (l' : List Oper)
    (hK : ∀ S rs, K S rs → ∀ B a w, Rel E nt B S.t S.h a w → wpOpsIn F n P ops Q rest a w) :
    ∀ (l : List Oper) (i : Nat) (S : St) (rs : List Rec) (B : Blk) (a : Act) (w : World), ops.toList.drop i = l ++ l' → AWops P E nt ops l S rs K → Rel E nt B S.t S.h a w → wpOpsIn F n P ops Q (List.range' i l.length ++ rest) a w
  | [], i, S, rs, B, a, w, _, h, r => hK S rs h B a w r
  | o :: l, i, S, rs, B, a, w, hl, h, r => by
    have hi : i < ops.size := by
      rcases Nat.lt_or_ge i ops.size with h | h
      · exact h
      · rw [List.drop_eq_nil_of_le (by simpa using h)] at hl; cases hl
    rw [List.drop_eq_getElem_cons (by simpa using hi)] at hl
    injection hl with h1 h2
    have ho : ops[i]? = some o := by rw [← h1]; simp
    have hm : noDefer o = true := List.all_eq_true.1 hd o (by rw [← h1]; exact List.getElem_mem _)
    rw [List.length_cons, List.range'_succ, List.cons_append]
    simp only [wpOpsIn, ho]
    obtain ⟨S1, ⟨es1, es2⟩, h⟩ := h
    rw [← es1, ← es2] at r
    have e1 := St.app_t S1 o.dst
    have e2 := St.app_h S1 o.dst
    rcases h with ⟨hw, rh, e, hok, hrest⟩ | ⟨hw, hdd, hrest⟩
    · rw [if_pos (wanted_of r hw)]
      refine op_in hF hm (hok S1.t S1.h (fun _ _ => rfl) (fun _ _ => rfl) (fun _ _ => rfl) B a w r _ _ fun B' a' w' r' => ?_)
      rw [← e1, ← e2] at r'
      exact ops_in2 hF hd rest l' hK l (i + 1) _ _ B' a' w' h2 hrest r'
    · rw [if_neg (by rw [wanted_of r hw]; simp)]
      have r' := r.undef hdd
      have e1' := e1 ⟨.tup [], []⟩
      have e2' := e2 ⟨.tup [], []⟩
      simp only [updH] at e2'
      rw [← e1', ← e2'] at r'
      exact ⟨fun f _ => wide_fn hF f, ops_in2 hF hd rest l' hK l (i + 1) _ _ B _ w h2 hrest r'⟩
end
/-- where a range's iterator begins: the record stands in the world, the boxes of known blocks were handed in -/
structure RangeX (l : Nat) (rc : Loop) (bs : List (Nat × Nat)) (E : Env) : Prop where
  rc0 : E.w0.heap[l]? = some (.loop rc)
  ne : ¬ E.ent l
  eb : ∀ p ∈ bs, E.eb p.1 = some (0, some p.2)
theorem AW_yield {P : Program} {E : Env} {nt id : Nat} {ops : Array Oper} {S : St} {Q : Exit → St → Prop} {l : Nat} {rc : Loop} {bs : List (Nat × Nat)} (hX : RangeX l rc bs E) (l1 l2 : List Oper) {d : Nat} {x : Operand} {args : List Operand} {ats : Array TypeId} {ty : TypeId} {pos : String} {af : Array Edge}
    (hops : ops.toList = l1 ++ ⟨some d, .call { callee := .value x, args := args.toArray, argTypes := ats }, ty, pos, af, none⟩ :: l2) (hd : ops.toList.all noDefer = true) (hdd : dOk nt (some d) = true)
    (h : AWops P E nt ops l1 S [] (fun S1 _ => ∃ xs ys H1 y H2, evalO S1.t x = some (.fn (.yield l) [] []) ∧ args.map (evalO S1.t) = xs.map some ∧ xs.all notTup = true ∧ WkGL (fun c => c) H1 xs ys ∧ YFn P l rc bs ys H1 y H2 ∧
      (∀ p ∈ bs, isVar (S1.h p.1) = true ∧ (look p.1 H1).isSome = true) ∧ NamesOk (fun c => c) S1.h H1 H1 ∧ FreshOk (fun c => c) S1.h H1 H2 ∧ OutB (fun c => c) H1 H2 = true ∧ nodupB (H1.map fun p => p.1) = true ∧ (namesA y).all (fun g => (look g H2).isSome) = true ∧
      AWops P E nt ops l2 ⟨(d, y) :: S1.T, outW (fun c => c) H2 ++ S1.H⟩ [] (fun S' _ => Q .normal S'))) : AW P E nt (.region id ops false) S Q := by
  intro B a w r
  refine wpIn_wide (n := 0).1 (wpIn_region ?_)
  let Q' : Exit → Act → World → Prop := fun e a' w' => ∃ B' S', Rel E nt B' S'.t S'.h a' w' ∧ Q e S'
  have hlen : ops.size = l1.length + (1 + l2.length) := by have := congrArg List.length hops; simp at this; omega
  have hr : List.range ops.size = List.range' 0 l1.length ++ (l1.length :: List.range' (l1.length + 1) l2.length) := by
    rw [List.range_eq_range', hlen, ← List.range'_append_1 (s := 0) (m := l1.length) (n := 1 + l2.length)]
    congr 1
    rw [Nat.add_comm 1, List.range'_succ]; simp
  show wpOpsIn _ _ _ _ Q' (List.range ops.size) a w
  rw [hr]
  refine ops_in2 (F := Fence.wide) rfl hd _ _ (fun S1 rs hK B a w r => ?_) l1 0 S [] B a w (by rw [List.drop_zero]; exact hops) h r
  obtain ⟨xs, ys, H1, y, H2, k1, k2, k3, k4, k5, k6, k7, k8, k9, k10, k11, k12⟩ := hK
  have hop : ops[l1.length]? = some ⟨some d, .call { callee := .value x, args := args.toArray, argTypes := ats }, ty, pos, af, none⟩ := by
    rw [← Array.getElem?_toList, hops]; simp
  simp only [wpOpsIn, hop]
  rw [if_pos (by simp [Region.wanted])]
  have hxs := args_rdp r args xs k2 (fun z hz => notTup_ne (List.all_eq_true.1 k3 z hz))
  obtain ⟨q1, q2⟩ := k4.rdp hxs
  have hfv := Rdv_one (by simp) (r.eval k1) rfl
  simp only [Rd] at hfv
  obtain ⟨c1, c2, e1, e2, e3⟩ := hfv
  simp only [Rdp] at e2 e3
  subst e2 e3
  injection e1 with e1
  have hN := names_of k7 k10
  have m := r.mem
  have h1 : Rdp (unst (subE E B S1.h w (fun c => c) (hL H1) hN.lo) (subB (fun c => c) B (hL H1)) (hL H1)) w ys (subB (fun c => c) B (hL H1)) (hL H1) (args.map a.eval) := by
    rw [sub_unst m hN]
    exact (Rdp_ren ys (fun g hg => names_cor hN (q2 g hg))).1 q1
  have hlt : l < E.w0.heap.size := (Array.getElem?_eq_some_iff.1 hX.rc0).1
  have hl : w.heap[l]? = some (.loop rc) := (m.left.block l hlt hX.ne).trans hX.rc0
  have hne : ¬ (subE E B S1.h w (fun c => c) (hL H1) hN.lo).ent l := fun h => by
    obtain ⟨c, bx, p1, p2⟩ := (subE_ent hN).1 h
    obtain ⟨p3, p4, _⟩ := hN.is c bx p1
    obtain ⟨cs, t, fr, p5⟩ := m.cells p3 (renB_live.trans p4) p2
    exact noCells_loop hl _ _ _ p5
  have hbs : ∀ p ∈ bs, subB (fun c => c) B (hL H1) p.1 = some p.2 := fun p hp => by
    obtain ⟨p1, p2⟩ := k6 p hp
    have p2' : (hL H1 p.1).isSome = true := p2
    simp only [subB, p2', if_true]
    cases hh : S1.h p.1 with
    | none => rw [hh] at p1; cases p1
    | some bx =>
      cases bx with
      | var z =>
        obtain ⟨b, cs, t, u1, u2, u3, u4, u5⟩ := m.box _ _ hh
        have := (u5 _ _ (hX.eb p hp)).2 rfl
        rw [u1, this]
      | froz z =>
        -- a box handed in is live
        cases hb : hL H1 p.1 with
        | none => rw [hb] at p2'; cases p2'
        | some b1 =>
          obtain ⟨v1, v2, _⟩ := hN.is _ _ hb
          rw [hh] at v1
          injection v1 with v1
          cases b1 <;> simp [renB] at v1
          cases v2
      | tail e n k => rw [hh] at p1; cases p1
      | own e n xs => rw [hh] at p1; cases p1
  obtain ⟨fn, tmps, assign, body, hy, hround⟩ := k5 (0 - 1) _ _ w _ rfl rfl hne (m.enter hN) hbs hl h1
  refine ⟨fun _ _ => trivial, ?_⟩
  have he : (Oper.semAt Fence.wide.round a.eval ⟨some d, .call { callee := .value x, args := args.toArray, argTypes := ats }, ty, pos, af, none⟩).run P w = .ok (.round l fn tmps assign body) w := by
    have hy' : (Instr.yield l (args.toArray.map a.eval)).run P w = .ok (.round l fn tmps assign body) w := by
      have : (args.toArray.map a.eval) = (args.map a.eval).toArray := by apply Array.ext'; simp
      rw [this]; exact hy
    rw [Oper.semAt_eq _ _ _ (fun c hc => by cases hc)]
    simp [execOp, resolve, Deferred.ofValue, e1, invoke, hy]
  rw [he]
  refine ⟨fun h => (by cases h), hround.mono ?_⟩
  rintro e w' ⟨v, B2, rfl, m2, hv⟩
  have o : Outs (fun c => c) S1.h (hL H1) (hL H2) (updH S1.h (outW (fun c => c) H2)) B B2 (outBlk (fun c => c) H2 B B2) := outs_of k7 k8 k9 k10
  have m3 := Mem.leave m o m2
  rw [List.all_eq_true] at k11
  have hv3 := outs_rd2 m o m2 k11 hv
  rw [ren_id] at hv3
  have r3 := ((m3.rel r.nt r.df fun s z hs => by
    obtain ⟨v0, q1, q2⟩ := r.tmp s z hs
    exact ⟨v0, q1, outs_rd1 m o m2 q2⟩).put hdd hv3)
  have eT := St.app_t S1 (some d) ⟨y, outW (fun c => c) H2⟩
  have eH := St.app_h S1 (some d) ⟨y, outW (fun c => c) H2⟩
  rw [← eT, ← eH] at r3
  have hfin := ops_in2 (F := Fence.wide) (n := 0) (P := P) (Q := Q') (K := fun S' _ => Q .normal S') rfl hd [] [] (fun S rs hK B a w r => ⟨B, S, r, hK⟩) l2 (l1.length + 1) _ [] _ _ w' (by rw [hops]; simp) k12 r3
  rw [List.append_nil] at hfin
  exact hfin
/-! ### the statement -/
theorem updH_all {H H' : List (Nat × Bx)} (ho : OutB (fun c => c) H H' = true) : updH (hL H) (outW (fun c => c) H') = hL H' := by
  funext j
  rw [updH_out]
  rcases find_look ho j with ⟨c, bx, k1, k2, k3⟩ | ⟨k1, k2⟩
  · subst k2
    rw [k3]
    simp only [renB_id]
    exact k1.symm
  · rw [k2]
    have h2 : hL H' j = none := by
      cases hh : hL H' j with
      | none => rfl
      | some bx => exact absurd rfl (k1 j (by have hh' : look j H' = some bx := hh; rw [hh']; rfl))
    simp only
    rw [h2]
    cases hh : hL H j with
    | none => rfl
    | some bx =>
      simp only [OutB, Bool.and_eq_true, List.all_eq_true] at ho
      have := ho.1.2 _ (look_mem hh)
      rw [show look j H' = none from h2] at this; cases this
theorem AFn_range {P : Program} {f : FuncId} {fn : Func} {x y z rest assign body : Code} {id : Nat} {g : Operand} {p1 p2 : Tmp} {args : List AV} {r : AV} {nt : Nat} {rv : List ResultVar} {gf : FuncId} {gfn : Func} {caps : List AV} {T : List (Nat × AV)} {H H' : List (Nat × Bx)} {gs : List (Nat × Nat)}
    (hf : P.funcs[f]? = some fn) (hb : fn.body = some (x.seq (y.seq ((z.seq (.block id (.rangeFunc g #[p1, p2] assign body))).seq rest)))) (hnt : fn.ntmps = nt) (hrv : fn.results = rv.toArray) (hn : args.length ≤ nt) (ys : List AV) (hy : resA ys = r)
    (h1 : ∀ E, AW P E nt x ⟨bindsA 0 args, []⟩ (thenA (fun S1 => AW P E nt y S1 (thenA (fun S2 => AW P E nt z S2 (fun e S' => e = .normal ∧ Go2 E nt S' ⟨T, H⟩)) (fun _ _ => False))) (fun _ _ => False)))
    (hg : evalO (fun k => look k T) g = some (.fn (.func gf) [] caps)) (hgf : P.funcs[gf]? = some gfn) (hgb : gfn.body.isSome = true) (hgn : (gfn.name == "runtime.NumGoroutine") = false)
    (hN : NamesOk (fun c => c) (hL H) H H) (hI : nodupB (H.map fun p => p.1) = true) (hcaps : (namesL caps).all (fun g => (look g H).isSome) = true)
    (hgs : ∀ p ∈ gs, look p.1 T = some (.ptr p.2 0 []))
    (hit : ∀ fn l D bk tm, tm.size = nt → HeldOk gs bk tm → CFnX P (RangeX l (recOf fn tm #[p1, p2] assign body D) (bsOf gs bk)) gf (.fn (.yield l) [] [] :: caps) H (.tup []) H')
    (hf' : FreshOk (fun c => c) (hL H) H H') (ho : OutB (fun c => c) H H' = true) (hgv : gs.all (fun p => match look p.2 H with | some (.var _) => true | _ => false) = true)
    (hN' : NamesOk (fun c => c) (hL H') H' H') (hI' : nodupB (H'.map fun p => p.1) = true) (hT' : ∀ p ∈ T, (namesA p.2).all (fun g => (look g H').isSome) = true)
    (h2 : ∀ E, AW P E nt rest ⟨T, H'⟩ (fun e S' => (e = .normal ∨ e = .ret) ∧ ResL P S' rv ys)) : AFn P f args r := by
  have hrv' : fn.results.toList = rv := by rw [hrv]
  subst hnt
  intro U w vs hvs
  subst hy
  let E : Env := ⟨w, U, fun _ => none, fun _ _ => rfl, []⟩
  have hE : ∀ b, ¬ E.ent b := fun b ⟨g, k, h⟩ => by cases h
  have eU : unst E B0 H0 = fun b o => b < w.heap.size ∧ U b o ∧ ¬ E.ent b := unst0 E
  have m0 : Mem E B0 (hL []) w := ⟨fun g bx h => (by cases h), fun g _ => rfl, fun g g' b h => (by cases h), ⟨rfl, rfl, rfl, Nat.le_refl _, fun k _ _ => rfl, Evo.refl _ _⟩, fun _ _ => rfl⟩
  have hvs0 : Rdp (unst E B0 (hL [])) w args B0 (hL []) vs := by
    have : unst E B0 (hL []) = unst E B0 H0 := rfl
    rw [this, eU]
    have hx : ∀ (l : List AV) {vs : List Value}, Rdp U w l B0 H0 vs → Rdp (fun b o => b < w.heap.size ∧ U b o ∧ ¬ E.ent b) w l B0 H0 vs := fun l vs h =>
      Rdp_go (Evo.refl _ w) (fun b o _ h => h.2.1) l (Pic.refl0 _ _) h
    exact hx args hvs
  have r0 := frame_in (nt := fn.ntmps) rfl m0 hvs0 hn
  let R : Ending → World → Prop := fun e w' => ∃ v, e = .returned v ∧ Rdv (fun b o => b < w.heap.size ∧ U b o) w' B0 H0 (resA ys) v ∧ Ext w w'
  refine (callsIn_wide (n := 1)).1 (callsIn_of_wp_marks hf hb trivial (wpIn_wide.2 ?_) rfl)
  have h1' := h1 E B0 _ w r0
  -- what stands behind the three first parts
  have key : ∀ (B : Blk) (a : Act) (w1 : World), Rel E fn.ntmps B (St.t ⟨T, H⟩) (St.h ⟨T, H⟩) a w1 → (Code.block id (.rangeFunc g #[p1, p2] assign body)).wp P (Exit.then (rest.wp P (bodyPostM Fence.wide 1 P fn R)) (bodyPostM Fence.wide 1 P fn R)) a w1 := by
    intro B a w1 r1
    refine (wp_block (wpIn_wide (n := 1).1 (wpIn_rangeFunc fun fnr _ => ?_)))
    have hNm := names_of hN hI
    let w2 := (w1.alloc (.deferred (some []))).alloc (.loop (recOf fnr a.tmps #[p1, p2] assign body w1.heap.size))
    have e12 : Ext w1 w2 := ((Ext.refl w1).alloc _).alloc _
    have r2 := r1.ext e12
    have hgv1 := Rdv_one (by simp) (r2.eval hg) rfl
    simp only [Rd] at hgv1
    obtain ⟨c1, c2, q1, q2, q3⟩ := hgv1
    simp only [Rdp] at q2
    subst q2
    injection q1 with q1
    have hl2 : w2.heap[w1.heap.size + 1]? = some (.loop (recOf fnr a.tmps #[p1, p2] assign body w1.heap.size)) := by
      have := World.alloc_heap_new (w1.alloc (.deferred (some []))) (.loop (recOf fnr a.tmps #[p1, p2] assign body w1.heap.size)); rwa [World.size_alloc] at this
    have hD2 : w2.heap[w1.heap.size]? = some (.deferred (some [])) := by
      exact (((Ext.refl (w1.alloc (.deferred (some [])))).alloc _).block _ (by simp)).trans (World.alloc_heap_new w1 _)
    refine ⟨w1.heap.size + 1, [{ target := .collected w1.heap.size, args := #[] }], w2, { target := .fn (.func gf) c2.toArray, args := #[.func (.yield (w1.heap.size + 1)) #[] #[]] }, w2, gf,
      #[.func (.yield (w1.heap.size + 1)) #[] #[]] ++ c2.toArray, w2, run_enterLoop_outer _ _ _ _ _, ?_, fun _ _ => trivial, ?_, fun h => (by cases h), ?_⟩
    · simp only [resolve, q1]
      simp [Deferred.ofValue, go_sem]
    · have hb' : gfn.body ≠ none := by cases h : gfn.body <;> simp_all
      have hn' : gfn.name ≠ "runtime.NumGoroutine" := by simpa using hgn
      simp [invoke, callFunc, hgf, hn', hb']
    have bkd : ∀ p ∈ gs, ∃ b, B p.2 = some b ∧ a.tmps[p.1]? = some (.pointer (some ⟨b, 0, none⟩)) := fun p hp => by
      obtain ⟨v, k1, k2⟩ := r1.tmp p.1 _ (hgs p hp)
      rw [Rdv_not (by simp)] at k2
      obtain ⟨c, k3, k4⟩ := k2
      simp only [Rd] at k3
      obtain ⟨_, b, k5, rfl⟩ := k3
      exact ⟨b, k5, by rw [k1, k4]; rfl⟩
    have held : HeldOk gs (fun j => (B j).getD 0) a.tmps := fun p hp => by
      obtain ⟨b, k1, k2⟩ := bkd p hp
      rw [k2]
      simp [k1]
    have hcall := hit fnr (w1.heap.size + 1) w1.heap.size _ a.tmps r1.nt held
    have m2 : Mem E B (hL H) w2 := r2.mem
    have hne : ∀ k, noCells w2 k → ¬ (subE E B (hL H) w2 (fun c => c) (hL H) hNm.lo).ent k := fun k hk h => by
      obtain ⟨c, bx, p1, p2⟩ := (subE_ent hNm).1 h
      obtain ⟨p3, p4, _⟩ := hNm.is c bx p1
      obtain ⟨cs, t, fr, p5⟩ := m2.cells p3 (renB_live.trans p4) p2
      exact hk _ _ _ p5
    have hvs2 : Rdp (unst (subE E B (hL H) w2 (fun c => c) (hL H) hNm.lo) (subB (fun c => c) B (hL H)) (hL H)) w2 (.fn (.yield (w1.heap.size + 1)) [] [] :: caps) (subB (fun c => c) B (hL H)) (hL H) (.func (.yield (w1.heap.size + 1)) #[] #[] :: c2) := by
      rw [sub_unst m2 hNm]
      rw [List.all_eq_true] at hcaps
      simp only [Rdp]
      refine ⟨[.func (.yield (w1.heap.size + 1)) #[] #[]], c2, rfl, by simp [Rd, Rdp], (Rdp_ren caps (fun g hg => names_cor hNm (hcaps g hg))).1 (by rw [ren_idL]; exact q3)⟩
    have hX : RangeX (w1.heap.size + 1) (recOf fnr a.tmps #[p1, p2] assign body w1.heap.size) (bsOf gs fun j => (B j).getD 0) (subE E B (hL H) w2 (fun c => c) (hL H) hNm.lo) := by
      refine ⟨hl2, hne _ (noCells_loop hl2), fun p hp => ?_⟩
      obtain ⟨⟨s, j⟩, k1, rfl⟩ := List.mem_map.1 hp
      obtain ⟨b, k2, _⟩ := bkd _ k1
      rw [List.all_eq_true] at hgv
      have k3 := hgv _ k1
      simp only at k3 k2
      have k4 : (subE E B (hL H) w2 (fun c => c) (hL H) hNm.lo).eb j = match hL H j with | some bx => some (verB bx, B j) | none => none := rfl
      show (subE E B (hL H) w2 (fun c => c) (hL H) hNm.lo).eb j = _
      rw [k4]
      clear k4
      cases hh : look j H with
      | none => rw [hh] at k3; cases k3
      | some bx =>
        rw [hh] at k3
        cases bx with
        | var x =>
          have hh' : hL H j = some (.var x) := hh
          rw [hh']
          simp only [verB, k2, Option.getD_some]
        | froz x => cases k3
        | tail e n k => cases k3
        | own e n k => cases k3
    have hc := hcall _ _ w2 _ hX rfl (m2.enter hNm) hvs2
    have ea : (Value.func (.yield (w1.heap.size + 1)) #[] #[] :: c2).toArray = #[Value.func (.yield (w1.heap.size + 1)) #[] #[]] ++ c2.toArray := by simp
    rw [ea] at hc
    refine CallsIn.mono (callsIn_wide.2 hc) ?_
    rintro e w3 ⟨v, B3, rfl, m3, -⟩
    have o : Outs (fun c => c) (hL H) (hL H) (hL H') (updH (hL H) (outW (fun c => c) H')) B B3 (outBlk (fun c => c) H' B B3) := outs_of hN hf' ho hI
    have m4 := Mem.leave m2 o m3
    have eH := updH_all ho
    have held4 : ∀ s xx, look s T = some xx → ∃ v, a.tmps[s]? = some v ∧ Rdv (unst E (outBlk (fun c => c) H' B B3) (hL H')) w3 (outBlk (fun c => c) H' B B3) (hL H') xx v := fun s xx hs => by
      obtain ⟨v0, q1, q2⟩ := r2.tmp s xx hs
      have := outs_rd1 m2 o m3 q2
      rw [eH] at this
      exact ⟨v0, q1, this⟩
    rw [eH] at m4
    have hl3 : w3.heap[w1.heap.size + 1]? = some (.loop (recOf fnr a.tmps #[p1, p2] assign body w1.heap.size)) :=
      (m3.left.block _ (Array.getElem?_eq_some_iff.1 hl2).1 (hne _ (noCells_loop hl2))).trans hl2
    have hD3 : w3.heap[w1.heap.size]? = some (.deferred (some [])) := (m3.left.block _ (Array.getElem?_eq_some_iff.1 hD2).1 (hne _ (noCells_def hD2))).trans hD2
    refine ⟨none, _, run_endLoop hl3 (by simp [recOf]), ?_⟩
    have tw : Twin (w1.heap.size + 1) w3 (w3.putObj (w1.heap.size + 1) (.loop { recOf fnr a.tmps #[p1, p2] assign body w1.heap.size with state := .exhausted })) := Twin.put hl3 (by intros; simp) (by intros; simp)
    have hsz : E.w0.heap.size ≤ w1.heap.size := r1.left.size
    obtain ⟨m5, rd5⟩ := Mem.swap (E' := E) rfl rfl (.inr rfl) tw (fun h => absurd h (by omega)) m4
    generalize hw4 : w3.putObj (w1.heap.size + 1) (.loop { recOf fnr a.tmps #[p1, p2] assign body w1.heap.size with state := .exhausted }) = w4 at m5 rd5 tw
    have hD4 : w4.heap[w1.heap.size]? = some (.deferred (some [])) := (tw.heap _ (by omega)).trans hD3
    have hNm' := names_of hN' hI'
    have hne4 : ∀ k, noCells w4 k → ¬ (subE E (outBlk (fun c => c) H' B B3) (hL H') w4 (fun c => c) (hL H') hNm'.lo).ent k := fun k hk h => by
      obtain ⟨c, bx, p1, p2⟩ := (subE_ent (E := E) (w := w4) hNm').1 h
      obtain ⟨p3, p4, _⟩ := hNm'.is c bx p1
      obtain ⟨cs, t, fr, p5⟩ := m5.cells p3 (renB_live.trans p4) p2
      exact hk _ _ _ p5
    have mE := m5.enter hNm'
    let E1 := subE E (outBlk (fun c => c) H' B B3) (hL H') w4 (fun c => c) (hL H') hNm'.lo
    let E2 : Env := { E1 with df := [{ target := .collected w1.heap.size, args := #[] }] }
    have mE2 : Mem E2 (subB (fun c => c) (outBlk (fun c => c) H' B B3) (hL H')) (hL H') w4 := ⟨mE.box, mE.non, mE.inj, ⟨mE.left.os, mE.left.tape, mE.left.output, mE.left.size, mE.left.block, mE.left.evo⟩, mE.keep⟩
    have rE2 : Rel E2 fn.ntmps (subB (fun c => c) (outBlk (fun c => c) H' B B3) (hL H')) (St.t ⟨T, H'⟩) (St.h ⟨T, H'⟩) { a with defers := [{ target := .collected w1.heap.size, args := #[] }] ++ a.defers } w4 := by
      refine mE2.rel r1.nt (by rw [r1.df]; rfl) fun s xx hs => ?_
      obtain ⟨v0, q1, q2⟩ := held4 s xx hs
      have h3 := hT' _ (look_mem hs)
      rw [List.all_eq_true] at h3
      exact ⟨v0, q1, m5.enter_rd hNm' (fun g hg => h3 g hg) (by rw [ren_id]; exact rd5 _ _ q2)⟩
    refine wp_mono (h2 E2 _ _ w4 rE2) ?_
    rintro e a' w5 ⟨B5, S5, r5, he, hres⟩
    have hD5 : w5.heap[w1.heap.size]? = some (.deferred (some [])) := (r5.left.block _ (Array.getElem?_eq_some_iff.1 hD4).1 (hne4 _ (noCells_def hD4))).trans hD4
    have tw5 : Twin w1.heap.size w5 (w5.putObj w1.heap.size (.deferred none)) := Twin.put hD5 (by intros; simp) (by intros; simp)
    have tw4 : Twin w1.heap.size w4 (w4.putObj w1.heap.size (.deferred none)) := Twin.put hD4 (by intros; simp) (by intros; simp)
    have hlt4 := (Array.getElem?_eq_some_iff.1 hD4).1
    have hlt5 := (Array.getElem?_eq_some_iff.1 hD5).1
    let E3 : Env := { E2 with w0 := w4.putObj w1.heap.size (.deferred none) }
    obtain ⟨m6, rd6⟩ := Mem.swap (E := E2) (E' := E3) rfl rfl (.inl tw4) tw5 (fun _ _ => (World.putObj_heap_same hlt5).trans (World.putObj_heap_same hlt4).symm) r5.mem
    have r6 : Rel E3 fn.ntmps B5 S5.t S5.h a' (w5.putObj w1.heap.size (.deferred none)) := m6.rel r5.nt r5.df fun s xx hs => by
      obtain ⟨v0, q1, q2⟩ := r5.tmp s xx hs
      exact ⟨v0, q1, rd6 _ _ q2⟩
    subst hrv'
    obtain ⟨us, k1, k2, k3⟩ := resL_run r6 _ _ hres
    have hx : Ext w (w5.putObj w1.heap.size (.deferred none)) := by
      refine ⟨?_, ?_, ?_, ?_, fun k hk => ?_⟩
      · exact (r5.left.os.trans m5.left.os : w5.os = w.os)
      · exact (r5.left.tape.trans m5.left.tape : w5.tape = w.tape)
      · exact (r5.left.output.trans m5.left.output : w5.output = w.output)
      · rw [World.putObj_size]; exact Nat.le_trans m5.left.size r5.left.size
      · have hkD : k ≠ w1.heap.size := by have : w.heap.size ≤ w1.heap.size := hsz; omega
        rw [World.putObj_heap_other hkD]
        refine (r5.left.block k (Nat.lt_of_lt_of_le hk m5.left.size) (fun h => ?_)).trans (m5.left.block k hk (hE k))
        obtain ⟨c, bx, p1, p2⟩ := (subE_ent (E := E) (w := w4) hNm').1 h
        obtain ⟨p3, p4, _⟩ := hNm'.is c bx p1
        rcases m5.mine p3 (renB_live.trans p4) p2 with p5 | p5
        · have : w.heap.size ≤ k := p5
          omega
        · exact hE _ p5.2.1
    have hU : ∀ b o, b < w.heap.size ∧ U b o → unst E3 B5 S5.h b o := fun b o h => by
      refine .inl ⟨?_, ?_, fun h' => ?_⟩
      · show b < (w4.putObj _ _).heap.size
        rw [World.putObj_size]; exact Nat.lt_of_lt_of_le h.1 m5.left.size
      · exact .inl ⟨h.1, h.2, hE b⟩
      · obtain ⟨c, bx, p1, p2⟩ := (subE_ent (E := E) (w := w4) hNm').1 h'
        obtain ⟨p3, p4, _⟩ := hNm'.is c bx p1
        rcases m5.mine p3 (renB_live.trans p4) p2 with p5 | p5
        · have : w.heap.size ≤ b := p5
          omega
        · exact hE _ p5.2.1
    have hfin : ∃ v, (results fn a'.tmps).run P (w5.putObj w1.heap.size (.deferred none)) = .ok v (w5.putObj w1.heap.size (.deferred none)) ∧ R (.returned v) (w5.putObj w1.heap.size (.deferred none)) := by
      have hm := mapM_arr _ _ _ _ _ k1
      rw [Array.toArray_toList] at hm
      rw [results_eq, Sem.run_bind, hm]
      obtain ⟨m1, m2⟩ := Rdp_get k3
      by_cases h1 : us.length = 1
      · obtain ⟨u, rfl⟩ := List.length_eq_one_iff.1 h1
        obtain ⟨y, rfl⟩ := List.length_eq_one_iff.1 (m1.trans h1)
        refine ⟨u, by simp, u, rfl, ?_, hx⟩
        obtain ⟨v, h3, c', h4, h5⟩ := m2 0 y rfl
        simp at h3
        subst h3
        show Rdv (fun b o => b < w.heap.size ∧ U b o) _ B0 H0 y u
        exact Rdv_sub (U := unst E3 B5 S5.h) hU (by rw [Rdv_not (Rd_notup h4)]; exact ⟨c', h4, h5⟩)
      · refine ⟨.tuple us.toArray, by simp [h1], _, rfl, ?_, hx⟩
        have hr : resA ys = .tup ys := by
          match ys, m1 with
          | [], _ => rfl
          | [y], m1 => exact absurd m1.symm h1
          | y :: z :: l, _ => rfl
        rw [hr, Rdv_tup]
        have := Rdv_sub (U := unst E3 B5 S5.h) (U' := fun b o => b < w.heap.size ∧ U b o) (w := w5.putObj w1.heap.size (.deferred none)) (B := B0) (H := H0) (x := .tup ys) (v := .tuple us.toArray) hU (by rw [Rdv_tup]; exact ⟨us, rfl, k3⟩)
        rw [Rdv_tup] at this
        exact this
    obtain ⟨v5, k4, k5⟩ := hfin
    have hdf : a'.defers = [{ target := .collected w1.heap.size, args := #[] }] := r5.df
    have hl' : LeavesInM Fence.wide 1 P fn a'.tmps R a'.defers .returning w5 := by
      rw [hdf]
      exact ⟨by simp, .inl ⟨w1.heap.size, _, rfl, run_takeDeferred hD5, v5, k4, k5⟩⟩
    rcases he with rfl | rfl
    · exact hl'
    · exact hl'
  refine wp_seq (wp_mono h1' ?_)
  rintro e a1 w1 ⟨B1, S1, r1, q1⟩
  cases e <;> first | exact q1.elim | skip
  refine wp_seq (wp_mono (q1 B1 a1 w1 r1) ?_)
  rintro e a2 w2 ⟨B2, S2, r2, q2⟩
  cases e <;> first | exact q2.elim | skip
  refine wp_seq (wp_seq (wp_mono (q2 B2 a2 w2 r2) ?_))
  rintro e a3 w3 ⟨B3, S3, r3, rfl, hs⟩
  obtain ⟨B3', r3'⟩ := hs B3 a3 w3 r3
  exact key B3' a3 w3 r3'
end Go.Proofs.Ytphojngdgmnpaaa

namespace Go.Proofs.Ytphojngdgmnpaaa
open Go Go.RowKit
set_option linter.unusedVariables false
set_option linter.unusedSimpArgs false
set_option maxRecDepth 100000

/-! ### plain law -/
def mdStep (s : List Ent × List Ans) (o : Opn) : List Ent × List Ans := ((mdDo s.1 o).1, s.2 ++ [(mdDo s.1 o).2])
def mdF (l : List Ent) (ops : List Opn) (j : Nat) : List Ent × List Ans := (ops.take j).foldl mdStep (l, [])
def mdRun (l : List Ent) (ops : List Opn) : List Ent × List Ans := ops.foldl mdStep (l, [])
theorem mdF_snoc (l : List Ent) (ops : List Opn) (j : Nat) (h : j < ops.length) : mdF l ops (j + 1) = mdStep (mdF l ops j) ops[j] := by
  unfold mdF
  rw [← List.take_append_getElem h, List.foldl_append]
  rfl
theorem mdF_end (l : List Ent) (ops : List Opn) : mdF l ops ops.length = mdRun l ops := by unfold mdF mdRun; rw [List.take_length]
theorem large_false {o : Opn} (h : large o = false) : o.key.size ≤ 8 ∧ (o.kind = 1 → o.val.size ≤ 16) := by
  unfold large at h
  simp only [Bool.or_eq_false_iff, Bool.and_eq_false_iff, decide_eq_false_iff_not] at h
  exact ⟨by omega, fun k => by rcases h.2 with h | h; exact absurd k h; omega⟩
theorem msgOf_ok {o : Opn} (h1 : 1 ≤ o.kind) (h3 : o.kind ≤ 3) : (msgOf o).ok = true := by
  have hk : (msgOf o).key.ok = true := keyOf_ok _
  unfold Msg.ok
  rw [hk]
  unfold msgOf
  by_cases k1 : o.kind = 1
  · simp [k1, vlOf_ok]
  · by_cases k3 : o.kind = 3
    · simp [k3]
    · simp [k1, k3, h1, h3]
theorem mdDo_lf {l : List Ent} (h : Lf l) (o : Opn) : Lf (mdDo l o).1 := by
  unfold mdDo
  split
  · exact h
  · split
    · exact h
    · split
      · exact h
      · exact lf_put h (msgOf_ok (by omega) (by omega))
theorem mdDo_len (l : List Ent) (o : Opn) : (mdDo l o).1.length ≤ l.length + 1 := by
  unfold mdDo
  split
  · exact Nat.le_succ _
  · split
    · exact Nat.le_succ _
    · split
      · exact Nat.le_succ _
      · exact put_len _ _
theorem mdF_lf {l : List Ent} (h : Lf l) (ops : List Opn) : ∀ j, Lf (mdF l ops j).1 := by
  intro j
  unfold mdF
  generalize ops.take j = xs
  have : ∀ (xs : List Opn) (s : List Ent × List Ans), Lf s.1 → Lf (xs.foldl mdStep s).1 := by
    intro xs
    induction xs with
    | nil => exact fun s h => h
    | cons o xs ih => exact fun s h => ih _ (mdDo_lf h o)
  exact this xs _ h
theorem mdF_len (l : List Ent) (ops : List Opn) (j : Nat) : (mdF l ops j).1.length ≤ l.length + j ∧ (mdF l ops j).2.length ≤ j := by
  unfold mdF
  have : ∀ (xs : List Opn) (s : List Ent × List Ans), (xs.foldl mdStep s).1.length ≤ s.1.length + xs.length ∧ (xs.foldl mdStep s).2.length = s.2.length + xs.length := by
    intro xs
    induction xs with
    | nil => exact fun s => ⟨Nat.le_refl _, rfl⟩
    | cons o xs ih =>
      intro s
      obtain ⟨h1, h2⟩ := ih (mdStep s o)
      have h3 := mdDo_len s.1 o
      rw [List.foldl_cons, List.length_cons]
      have h4 : (mdStep s o).2.length = s.2.length + 1 := by unfold mdStep; simp
      have h5 : (mdStep s o).1 = (mdDo s.1 o).1 := rfl
      rw [h4] at h2
      rw [h5] at h1
      exact ⟨by omega, by omega⟩
  obtain ⟨h1, h2⟩ := this (ops.take j) (l, [])
  rw [List.length_take] at h1 h2
  simp only [List.length_nil] at h1 h2
  exact ⟨by omega, by omega⟩
/-! ### a variable that is nil, as a row to be appended to -/
theorem Go2.tokenB {E : Env} {nt : Nat} {T : List (Nat × AV)} {H : List (Nat × Bx)} (b g n : Nat) (e : TypeId) (hs : look b H = some (.var (.v (.slice none 0 0)))) (hg : look g H = none) : Go2 E nt ⟨T, H⟩ ⟨T, (b, .var (.sl (some g) (n + 1) [])) :: (g, .tail e (n + 1) 0) :: H⟩ := fun B a w r => by
  have r1 := r.token (g := g) (n := n + 1) (e := e) hg (Nat.succ_pos n)
  have hbg : b ≠ g := fun e => by subst e; rw [hg] at hs; cases hs
  have eH : St.h ⟨T, (b, Bx.var (.sl (some g) (n + 1) [])) :: (g, .tail e (n + 1) 0) :: H⟩ = upd (upd (St.h ⟨T, H⟩) g (.tail e (n + 1) 0)) b (.var (.sl (some g) (n + 1) [])) := by
    show (fun k => look k ((b, Bx.var (.sl (some g) (n + 1) [])) :: (g, .tail e (n + 1) 0) :: H)) = _
    rw [look_cons, look_cons]
    rfl
  refine ⟨B, ?_⟩
  rw [eH]
  generalize hH : upd (St.h ⟨T, H⟩) g (.tail e (n + 1) 0) = H1 at r1 ⊢
  have h1b : H1 b = some (.var (.v (.slice none 0 0))) := by rw [← hH, upd_ne _ _ hbg]; exact hs
  have h1g : H1 g = some (.tail e (n + 1) 0) := by rw [← hH]; exact upd_same _ _ _
  have hBg : B g = none := r.non g hg
  have hsh : ∀ j, isVar (upd H1 b (.var (.sl (some g) (n + 1) [])) j) = isVar (H1 j) ∧ live (upd H1 b (.var (.sl (some g) (n + 1) [])) j) = live (H1 j) := fun j => by
    by_cases c : j = b
    · subst c; rw [upd_same, h1b]; exact ⟨rfl, rfl⟩
    · rw [upd_ne _ _ c]; exact ⟨rfl, rfl⟩
  have hun : unst E B (upd H1 b (.var (.sl (some g) (n + 1) []))) = unst E B H1 := by
    funext k o
    refine propext (or_congr Iff.rfl (exists_congr fun j => and_congr_right fun _ => ?_))
    by_cases c : j = b
    · subst c; rw [upd_same, h1b]
    · rw [upd_ne _ _ c]
  have pic : Pic w w B B H1 (upd H1 b (.var (.sl (some g) (n + 1) []))) := by
    refine ⟨fun _ _ _ h => h, fun j h => (hsh j).1.trans h, fun t n len A cap h => ?_, ownPic (Evo.refl (fun _ _ => False) w) fun j e' n' xs h => ?_⟩
    · obtain ⟨e', k, h1, h2⟩ := h
      refine ⟨e', k, ?_, h2⟩
      rw [upd_ne]
      · exact h1
      · rintro rfl; rw [h1b] at h1; cases h1
    · refine ⟨?_, rfl⟩
      rw [upd_ne]
      · exact h
      · rintro rfl; rw [h1b] at h; cases h
  have rd : ∀ (x : AV) {c : List Value}, Rd (unst E B H1) w x B H1 c → Rd (unst E B (upd H1 b (.var (.sl (some g) (n + 1) [])))) w x B (upd H1 b (.var (.sl (some g) (n + 1) []))) c := fun x c h => by
    rw [hun]; exact Rd_go (Evo.refl _ w) (fun _ _ _ h => h) x pic h
  refine ⟨r1.nt, r1.df, fun s x hx => ?_, fun j bx h => ?_, fun j h => ?_, fun j1 j2 k h1 h2 => ?_, r1.left, fun j h => ?_⟩
  · obtain ⟨v, k1, k2⟩ := r1.tmp s x hx
    exact ⟨v, k1, by rw [hun]; exact Rdv_go (Evo.refl _ w) (fun _ _ _ h => h) pic k2⟩
  · by_cases c : j = b
    · subst c
      rw [upd_same] at h
      injection h with h
      subst h
      obtain ⟨k, cs, t, k1, k2, k3, k4⟩ := r1.box j _ h1b
      refine ⟨k, cs, t, k1, k2, ?_, k4⟩
      simp only [Rd] at k3
      obtain ⟨_, rfl⟩ := k3
      exact nil_token (by rw [upd_ne _ _ (Ne.symm hbg)]; exact h1g) hBg
    · rw [upd_ne _ _ c] at h
      have hb := r1.box j bx h
      cases bx with
      | var x =>
        obtain ⟨k, cs, t, k1, k2, k3, k4⟩ := hb
        exact ⟨k, cs, t, k1, k2, rd x k3, k4⟩
      | froz x =>
        obtain ⟨k, cs, k1, k2, k3, k4⟩ := hb
        exact ⟨k, cs, k1, k2, by rw [hun]; exact k3, rd x k4⟩
      | tail e n k => exact hb
      | own e' n' xs =>
        refine ⟨hb.1, hb.2.1, hb.2.2.imp id ?_⟩
        rintro ⟨k, cur, cap, c, m1, m2, m3, m4, m5, m6, m7, m8⟩
        exact ⟨k, cur, cap, c, m1, m2, m3, m4, m5, m6, by rw [hun]; exact m7, m8⟩
  · by_cases c : j = b
    · subst c; rw [upd_same] at h; cases h
    · rw [upd_ne _ _ c] at h; exact r1.non j h
  · rw [(hsh j1).2] at h1
    rw [(hsh j2).2] at h2
    exact r1.inj j1 j2 k h1 h2
  · by_cases c : j = b
    · subst c; rw [upd_same] at h; cases h
    · rw [upd_ne _ _ c] at h; exact r1.keep j h
section
variable {E : Env} {nt : Nat} {ops : Array Oper} {T : Nat → Option AV} {H : Hp} {d : Nat} {ty : TypeId} {pos : String} {af : Array Edge} {gd : Option (Nat × Bool)}
/-- a variable's block, under a name of one's own choice -/
theorem o_boxg (g : Nat) {e : TypeId} {x : Operand} {z : AV} (hd : dOk nt (some d) = true) (hx : evalO T x = some z) (hnt : notTup z = true) (hg : H g = none) : OpOK Try.prog E nt ops ⟨some d, .box e x, ty, pos, af, gd⟩ T H [] ⟨.ptr g 0 [], [(g, .var z)]⟩ := ok_box hd hx hnt hg
theorem o_allocg (g : Nat) {e : TypeId} {z : AV} (hz : ZeroOk Try.prog e z) (hd : dOk nt (some d) = true) (hg : H g = none) : OpOK Try.prog E nt ops ⟨some d, .alloc e, ty, pos, af, gd⟩ T H [] ⟨.ptr g 0 [], [(g, .var z)]⟩ := ok_alloc hd hz hg
end
/-- Run's own boxes, as its rounds have them -/
def hRun (l : List Ent) (outs : List Ans) : List (Nat × Bx) := [(1002, .var (entsA l)), (1006, .var (.sl (some 1020) 19 (outs.map Ans.av))), (1020, .tail 44 19 outs.length)]
/-- .. and the iterator's, beside them -/
def hIt (l : List Ent) (outs : List Ans) (ops : List Opn) : List (Nat × Bx) := hRun l outs ++ [(1003, .var (opsA ops)), (1012, .var (entsA l))]
attribute [local irreducible] OpOK AWops AW CondB Go2 AFn thenA inBlockA noGotoA orderOk wantedA
end Go.Proofs.Ytphojngdgmnpaaa

namespace Go.Proofs.Ytphojngdgmnpaaa
open Go Go.RowKit
set_option linter.unusedVariables false
set_option linter.unusedSimpArgs false
set_option maxRecDepth 100000

theorem lfAll_snoc (l : List Ent) (ms : List Msg) (j : Nat) (h : j < ms.length) : lfAll l (ms.take (j + 1)) = lfPut (lfAll l (ms.take j)) ms[j] := by
  unfold lfAll
  rw [← List.take_append_getElem h, List.foldl_append]
  rfl
def EBd (l : List Ent) : Prop := ∀ e ∈ l, (0 ≤ e.key.n ∧ e.key.n ≤ 8) ∧ (0 ≤ e.val.n ∧ e.val.n ≤ 16)
theorem EOk.bd {l : List Ent} (h : EOk l) : EBd l := fun e he => ⟨Key.n_le (h e he).1, Vl.n_le (h e he).2⟩
theorem eSum_nil : eSum [] = 0 := rfl
theorem eSum_append (a b : List Ent) : eSum (a ++ b) = eSum a + eSum b := by simp [eSum]
theorem eSum_snoc (l : List Ent) (j : Nat) (h : j < l.length) : eSum (l.take (j + 1)) = eSum (l.take j) + l[j].size := by
  rw [← List.take_append_getElem h, eSum_append]
  simp [eSum]
theorem EBd.sum : ∀ {l : List Ent}, EBd l → 2 * (l.length : Int) ≤ eSum l ∧ eSum l ≤ 26 * (l.length : Int)
  | [], _ => by simp [eSum]
  | e :: l, h => by
    have h1 := EBd.sum (l := l) (fun x hx => h x (List.mem_cons_of_mem _ hx))
    have h2 := h e (by simp)
    have h3 : eSum (e :: l) = e.size + eSum l := by simp [eSum]
    unfold Ent.size at h3
    rw [h3]
    simp only [List.length_cons]
    omega
theorem EBd.take {l : List Ent} (h : EBd l) (j : Nat) : EBd (l.take j) := fun e he => h e (List.mem_of_mem_take he)
theorem EBd.drop {l : List Ent} (h : EBd l) (j : Nat) : EBd (l.drop j) := fun e he => h e (List.mem_of_mem_drop he)
/-- entries of a leaf, by neighbours -/
def EntsOk (cmp : Key → Key → Int) (l : List Ent) : Prop := ∀ j (h : j < l.length), l[j].key.ok = true ∧ l[j].val.ok = true ∧ ∀ i (hi : i + 1 = j), cmp (l[i]'(by omega)).key l[j].key < 0
noncomputable def entsOkB (cmp : Key → Key → Int) (l : List Ent) : Bool := @decide (EntsOk cmp l) (Classical.propDecidable _)
theorem entsOkB_true {cmp : Key → Key → Int} {l : List Ent} (h : EntsOk cmp l) : entsOkB cmp l = true := by unfold entsOkB; exact @decide_eq_true _ (Classical.propDecidable _) h
theorem entsOkB_false {cmp : Key → Key → Int} {l : List Ent} (h : ¬ EntsOk cmp l) : entsOkB cmp l = false := by unfold entsOkB; exact @decide_eq_false _ (Classical.propDecidable _) h
theorem entsOk_ref (l : List Ent) : EntsOk refCmp l ↔ EntsOk keyCmp l := by
  constructor <;>
  · intro h j hj
    obtain ⟨h1, h2, h3⟩ := h j hj
    refine ⟨h1, h2, fun i hi => ?_⟩
    have := h3 i hi
    first
      | rwa [refCmp_key (h i (by omega)).1 h1] at this
      | rwa [refCmp_key (h i (by omega)).1 h1]
theorem entsOkB_ref (l : List Ent) : entsOkB refCmp l = entsOkB keyCmp l := by
  by_cases c : EntsOk keyCmp l
  · rw [entsOkB_true c, entsOkB_true ((entsOk_ref l).2 c)]
  · rw [entsOkB_false c, entsOkB_false (fun h => c ((entsOk_ref l).1 h))]
theorem Lf.ents {l : List Ent} (h : Lf l) : EntsOk keyCmp l := fun j hj => ⟨(h.ok _ (List.getElem_mem hj)).1, (h.ok _ (List.getElem_mem hj)).2, fun i hi => by
  rw [keyCmp_rank, sgn_neg]; exact h.srt.lt (by omega) hj (by omega)⟩
theorem EntsOk.eok {cmp : Key → Key → Int} {l : List Ent} (h : EntsOk cmp l) : EOk l := fun e he => by
  obtain ⟨j, hj, rfl⟩ := List.mem_iff_getElem.1 he
  exact ⟨(h j hj).1, (h j hj).2.1⟩
attribute [local irreducible] OpOK AWops AW CondB Go2 AFn thenA inBlockA noGotoA orderOk wantedA
set_option maxRecDepth 100000 in
set_option maxHeartbeats 8000000 in
theorem a_ref07same (l : List Ent) (hl : l.length ≤ 100000000) : AFn Try.prog 60 [entsA l, entsA l] (boolA true) := by
  refine AFn_intro Try.func60 rfl Try.ntmps60 rfl (by simp) [_] rfl fun E hE => ?_
  refine wL ?_
  refine AW_loopI (fun j : Nat => ⟨[(0, entsA l), (1, entsA l), (5, intA j)], []⟩) (fun j => j ≤ l.length) (fun j => l.length - j) 0 (Nat.zero_le _) (by (refine Go2.sub ⟨?_, ?_, ?_⟩ <;> repeat' (first | exact True.intro | rfl | apply And.intro))) (fun j hj => ?_)
  by_cases c : j < l.length
  · have hs : ¬ l[j] ≠ l[j] := fun h => h rfl
    refine wL ?_
    refine ⟨j + 1, c, by omega, ?_⟩
    (refine Go2.sub ⟨?_, ?_, ?_⟩ <;> repeat' (first | exact True.intro | rfl | apply And.intro))
  · refine wL ?_
    exact fin ⟨res_of rfl rfl rfl, trivial⟩
end Go.Proofs.Ytphojngdgmnpaaa

namespace Go.Proofs.Ytphojngdgmnpaaa
open Go Go.RowKit
set_option linter.unusedVariables false
set_option linter.unusedSimpArgs false
set_option maxRecDepth 100000

def entMsg (x : Int) : Msg := ⟨1, 0#64, lawKey (x % 1099511627776), lawVl (x % 1099511627776 / 16), 0#64⟩
theorem entMsg_ok (x : Int) : (entMsg x).ok = true := by
  unfold Msg.ok entMsg
  simp [lawKey_ok, lawVl_ok]
def entStep (most : Int) (out : List Ent) (x : Int) : List Ent := if eSum (lfPut out (entMsg x)) ≤ most then lfPut out (entMsg x) else out
def entsF (l : List Int) (most : Int) (j : Nat) : List Ent := (l.take j).foldl (entStep most) []
def entList (l : List Int) (most : Int) : List Ent := entsF l most 80
theorem entsF_snoc (l : List Int) (most : Int) (j : Nat) (h : j < l.length) : entsF l most (j + 1) = entStep most (entsF l most j) l[j] := by
  unfold entsF
  rw [← List.take_append_getElem h, List.foldl_append]
  rfl
theorem entStep_lf {most : Int} {out : List Ent} {x : Int} (h : Lf out) : Lf (entStep most out x) := by
  unfold entStep
  split
  · exact lf_put h (entMsg_ok x)
  · exact h
theorem entsF_lf (l : List Int) (most : Int) : ∀ j, Lf (entsF l most j) := by
  unfold entsF
  intro j
  have : ∀ (xs : List Int) (out : List Ent), Lf out → Lf (xs.foldl (entStep most) out) := by
    intro xs
    induction xs with
    | nil => intro out h; exact h
    | cons x xs ih => intro out h; exact ih _ (entStep_lf h)
  exact this _ _ lf_nil
theorem entsF_len (l : List Int) (most : Int) (j : Nat) : (entsF l most j).length ≤ j := by
  unfold entsF
  have : ∀ (xs : List Int) (out : List Ent), (xs.foldl (entStep most) out).length ≤ out.length + xs.length := by
    intro xs
    induction xs with
    | nil => intro out; simp
    | cons x xs ih =>
      intro out
      have h1 := ih (entStep most out x)
      have h2 : (entStep most out x).length ≤ out.length + 1 := by
        unfold entStep
        split
        · exact put_len _ _
        · omega
      simp only [List.foldl_cons, List.length_cons]
      omega
  have h := this (l.take j) []
  simp only [List.length_nil, List.length_take] at h
  omega
theorem entsF_sum (l : List Int) (most : Int) (h0 : 0 ≤ most) (j : Nat) : eSum (entsF l most j) ≤ most := by
  unfold entsF
  have : ∀ (xs : List Int) (out : List Ent), eSum out ≤ most → eSum (xs.foldl (entStep most) out) ≤ most := by
    intro xs
    induction xs with
    | nil => intro out h; exact h
    | cons x xs ih =>
      intro out h
      refine ih _ ?_
      unfold entStep
      split
      · assumption
      · exact h
  exact this _ _ h0
theorem entList_end (l : List Int) (most : Int) (j : Nat) (h : j = 80 ∨ (j = l.length ∧ j ≤ 80)) : entsF l most j = entList l most := by
  unfold entList entsF
  rcases h with h | ⟨h1, h2⟩
  · rw [h]
  · rw [List.take_of_length_le (by omega), List.take_of_length_le (by omega)]
theorem entList_lf (l : List Int) (most : Int) : Lf (entList l most) := entsF_lf l most 80
theorem entList_len (l : List Int) (most : Int) : (entList l most).length ≤ 80 := entsF_len l most 80
attribute [local irreducible] OpOK AWops AW CondB Go2 AFn thenA inBlockA noGotoA orderOk wantedA
end Go.Proofs.Ytphojngdgmnpaaa

namespace Go.Proofs.Ytphojngdgmnpaaa
open Go Go.RowKit
set_option linter.unusedVariables false
set_option linter.unusedSimpArgs false
set_option maxRecDepth 100000

@[irreducible] def Vl.txt (k : Vl) : List (BitVec 8) := if k.ok then cut k.b k.n.toNat else []
theorem Vl.txt_ok {k : Vl} (h : k.ok = true) : k.txt = cut k.b k.n.toNat := by unfold Vl.txt; rw [if_pos h]
theorem Vl.txt_no {k : Vl} (h : k.ok = false) : k.txt = [] := by unfold Vl.txt; rw [if_neg (by rw [h]; simp)]
set_option maxRecDepth 100000 in
set_option maxHeartbeats 4000000 in
theorem reftext_any (k : Key) (w : World) : Calls Try.prog 42 #[.agg k.arr] w (Is w (.string (bytesOf k.txt))) := by
  cases hok : k.ok
  · have htx := Key.txt_no hok
    go_enter Try.func42, Try.ntmps42
    go_wp2_with fail
    refine (refkeycheck_any _ _).mono ?_
    rintro e w1 ⟨rfl, he1⟩
    go_wp2
    go_ret
    exact ⟨by rw [htx, bytesOf_nil]; rfl, (by repeat (first | exact Ext.refl _ | assumption | refine Ext.drew ?_ | refine Ext.drewN ?_ _ | refine Ext.alloc ?_ _ | refine Ext.trans ?_ (by assumption)))⟩
  · have htx := Key.txt_ok hok
    obtain ⟨h0, h8, -⟩ := (Key.ok_iff k).1 hok
    obtain ⟨kn, kb⟩ := k
    obtain ⟨n, rfl⟩ : ∃ n : Nat, kn = (n : Int) := ⟨kn.toNat, by simp at h0; omega⟩
    have hn8 : n ≤ 8 := by simp at h8; omega
    have hn8' : (n : Int) ≤ 8 := by omega
    have HT := Lib.hid htx
    clear htx
    go_enter Try.func42, Try.ntmps42
    go_wp2_with fail
    refine (refkeycheck_any _ _).mono ?_
    rintro e w1 ⟨rfl, he1⟩
    have hr : row? w1 w.heap.size 0 9 = some (Key.mk (n : Int) kb).arr := he1.row (by simp [go_sem])
    have hc := row_cell hr (j := 0) (by omega) (Key.arr_n _)
    have hs := sl_of_bArr (g := w.heap.size) (o := 1) (w := w1) (b := kb) (by rw [← Nat.zero_add 1, row_sub hr 1 8 (by omega)]; exact Key.row_b _) n 8 hn8 hn8 (by unfold maxLen; omega)
    have hcv := run_str_sl Try.underlying33 Try.underlying5 Try.underlying9 hs
    clear hs
    simp only [Nat.zero_add] at hc
    go_wp2
    go_ret
    exact ⟨by rw [HT.out]; rfl, (by repeat (first | exact Ext.refl _ | assumption | refine Ext.drew ?_ | refine Ext.drewN ?_ _ | refine Ext.alloc ?_ _ | refine Ext.trans ?_ (by assumption)))⟩
set_option maxRecDepth 100000 in
set_option maxHeartbeats 4000000 in
theorem refvtext_any (k : Vl) (w : World) : Calls Try.prog 44 #[.agg k.arr] w (Is w (.string (bytesOf k.txt))) := by
  cases hok : k.ok
  · have htx := Vl.txt_no hok
    go_enter Try.func44, Try.ntmps44
    go_wp2_with fail
    refine (refvlcheck_any _ _).mono ?_
    rintro e w1 ⟨rfl, he1⟩
    go_wp2
    go_ret
    exact ⟨by rw [htx, bytesOf_nil]; rfl, (by repeat (first | exact Ext.refl _ | assumption | refine Ext.drew ?_ | refine Ext.drewN ?_ _ | refine Ext.alloc ?_ _ | refine Ext.trans ?_ (by assumption)))⟩
  · have htx := Vl.txt_ok hok
    obtain ⟨h0, h8, -⟩ := (Vl.ok_iff k).1 hok
    obtain ⟨kn, kb⟩ := k
    obtain ⟨n, rfl⟩ : ∃ n : Nat, kn = (n : Int) := ⟨kn.toNat, by simp at h0; omega⟩
    have hn8 : n ≤ 16 := by simp at h8; omega
    have hn8' : (n : Int) ≤ 16 := by omega
    have HT := Lib.hid htx
    clear htx
    go_enter Try.func44, Try.ntmps44
    go_wp2_with fail
    refine (refvlcheck_any _ _).mono ?_
    rintro e w1 ⟨rfl, he1⟩
    have hr : row? w1 w.heap.size 0 17 = some (Vl.mk (n : Int) kb).arr := he1.row (by simp [go_sem])
    have hc := row_cell hr (j := 0) (by omega) (Vl.arr_n _)
    have hs := sl_of_bArr (g := w.heap.size) (o := 1) (w := w1) (b := kb) (by rw [← Nat.zero_add 1, row_sub hr 1 16 (by omega)]; exact Vl.row_b _) n 16 hn8 hn8 (by unfold maxLen; omega)
    have hcv := run_str_sl Try.underlying33 Try.underlying5 Try.underlying9 hs
    clear hs
    simp only [Nat.zero_add] at hc
    go_wp2
    go_ret
    exact ⟨by rw [HT.out]; rfl, (by repeat (first | exact Ext.refl _ | assumption | refine Ext.drew ?_ | refine Ext.drewN ?_ _ | refine Ext.alloc ?_ _ | refine Ext.trans ?_ (by assumption)))⟩
theorem a_reftext (k : Key) : AFn Try.prog 42 [k.av] (strA (bytesOf k.txt)) := fun U w vs h => by
  obtain ⟨v1, us, rfl, h1, h⟩ := rdp_one h
  obtain rfl := rdp_nil h
  rw [dKey.rdv.1 h1]
  exact ofIs (reftext_any k w) fun w' => Rdv_v.2 ⟨rfl, rfl⟩
theorem a_refvtext (k : Vl) : AFn Try.prog 44 [k.av] (strA (bytesOf k.txt)) := fun U w vs h => by
  obtain ⟨v1, us, rfl, h1, h⟩ := rdp_one h
  obtain rfl := rdp_nil h
  rw [dVl.rdv.1 h1]
  exact ofIs (refvtext_any k w) fun w' => Rdv_v.2 ⟨rfl, rfl⟩
section
variable {E : Env} {nt : Nat} {ops : Array Oper} {T : Nat → Option AV} {H : Hp} {d : Option Nat} {ty : TypeId} {pos : String} {af : Array Edge} {gd : Option (Nat × Bool)}
theorem o_catn {t t' : TypeId} {x y : Operand} {a b : ByteArray} (hd : dOk nt d = true) (hx : evalO T x = some (.v (.string a))) (hy : evalO T y = some (.v (.string b))) (hb : Nat.ble b.size 1000 = true) (ha : a.size ≤ 1000000) : OpOK Try.prog E nt ops ⟨d, .binOp .add t x y t', ty, pos, af, gd⟩ T H [] ⟨.v (.string (a ++ b)), []⟩ :=
  ok_bin hd hx hy (fun w => by
    have hb' := Nat.le_of_ble_eq_true hb
    have h' : ¬ ((a.size + b.size : Nat) : Int) > 9223372036854775807 := by omega
    have hm : IntKind.i64.max = 9223372036854775807 := by decide
    simp only [eqGuard, binOp, Op.stringOp, Sem.run_bind, hm, if_neg h']
    rfl) rfl
end
def nine : ByteArray := { data := #[49, 50, 51, 52, 53, 54, 55, 56, 57] }
def seventeen : ByteArray := { data := #[115, 101, 118, 101, 110, 116, 101, 101, 110, 32, 98, 121, 116, 101, 115, 32, 46, 46] }
/-- an operation by a number -/
def lawOp (v : Int) : Opn :=
  let k := v % 1099511627776
  ⟨1 + k % 4, if k / 8 % 64 = 7 then bytesOf (lawKey (k / 4)).txt ++ nine else bytesOf (lawKey (k / 4)).txt,
   if k % 4 = 0 then (if k / 8 % 64 = 9 then bytesOf (lawVl (k / 64)).txt ++ seventeen else bytesOf (lawVl (k / 64)).txt) else .empty,
   if k % 4 = 2 then BitVec.ofInt 64 (k / 4096) * 4099#64 else 0#64⟩
theorem Vl.txt_length (k : Vl) : k.txt.length ≤ 16 := by
  cases h : k.ok
  · rw [Vl.txt_no h]; simp
  · rw [Vl.txt_ok h]; unfold cut; simp; omega
theorem wR {Q R : Prop} (k : R) (h : Hid R → Q := by intro kHid; (repeat (first | (first | refine Wend _ ?_ | refine AW_seq ?_ | refine AW_reg ?_ | refine AW_drw mixed ?_ | refine AW_block ?_ | refine AW_scope ?_ | refine thenA_n ?_ | refine blockA_n ?_ | refine blockA_h ?_ | refine scopeA_n ?_ | refine thenA_r ?_ | refine blockA_r ?_ | refine scopeA_r ?_ | refine thenA_e ?_ | refine scopeA_e ?_ | refine blockA_e rfl ?_ | refine AW_exit ?_ | refine AW_ret ?_ | refine AW_skip ?_ | refine AW_c rfl ?_ | with_reducible refine cb_t ?_ | with_reducible refine cb_f ?_ | with_reducible refine cb_yes (by first | assumption | omega) ?_ | with_reducible refine cb_no (by first | assumption | omega) ?_ | refine And.intro (by decide +kernel) ?_) | (first | (apply Wv; (focus (first | exact step_ok rfl rfl | exact o_idx rfl rfl rfl rfl (by first | assumption | omega | decide) | exact o_idx3 rfl rfl rfl rfl (by first | assumption | omega | decide) | exact o_idx2 rfl rfl rfl rfl rfl (by first | assumption | omega | decide) | exact o_idxr rfl rfl rfl rfl rfl rfl | exact o_lenm rfl rfl rfl | exact o_len rfl rfl rfl | exact o_len0 rfl rfl rfl | exact o_lens rfl rfl rfl | exact o_lent rfl rfl | exact o_add1 rfl rfl rfl (by omega) | exact o_addn rfl rfl rfl (by omega) | exact o_add rfl rfl rfl (by omega) | exact o_sub1 rfl rfl rfl (by omega) | exact o_sub rfl rfl rfl (by omega) | exact o_mul rfl rfl rfl (by omega) | exact o_rem rfl rfl rfl (by omega) | exact ok_rem rfl rfl rfl (by decide) rfl | exact o_eqKey rfl rfl rfl | exact o_neKey rfl rfl rfl | exact o_eqVl rfl rfl rfl | exact o_neVl rfl rfl rfl | exact o_eqEnt rfl rfl rfl | exact o_neEnt rfl rfl rfl | exact o_eqMsg rfl rfl rfl | exact o_neMsg rfl rfl rfl | exact o_acall rfl rfl rfl rfl (by assumption) | exact o_minn rfl rfl rfl | exact o_cutl rfl rfl rfl rfl (by omega) | exact o_cuth rfl rfl rfl rfl (by omega) | exact o_cutl3 rfl rfl rfl rfl (by omega) | exact o_cuth3 rfl rfl rfl rfl (by omega) | exact o_cutl2 rfl rfl rfl rfl rfl (by omega) | exact o_cuth2 rfl rfl rfl rfl rfl (by omega) | exact o_cutlh2 rfl rfl rfl rfl rfl rfl rfl (by omega) (by omega) | exact o_bld zero_Opn rfl rfl rfl rfl rfl rfl rfl | exact o_bld zero_Ans rfl rfl rfl rfl rfl rfl rfl | exact o_eqAns rfl rfl rfl | exact o_neAns rfl rfl rfl | exact o_catn rfl rfl rfl rfl (by omega) | exact e_bld rfl rfl rfl | exact e_bldk rfl rfl | exact z_bld0 rfl rfl rfl rfl rfl | exact z_bld rfl rfl rfl rfl rfl rfl rfl | exact o_addu rfl rfl rfl | exact o_mulu rfl rfl rfl (by decide) | exact o_convb ⟨_, Try.underlying3⟩ Try.underlying5 rfl rfl | exact o_convu ⟨_, Try.underlying3⟩ Try.underlying36 rfl rfl | exact o_convs Try.underlying33 Try.underlying5 Try.underlying9 rfl rfl | exact o_idxs rfl rfl rfl rfl (by first | assumption | omega) | exact z_blda rfl rfl rfl rfl rfl rfl rfl rfl rfl | exact o_idxa rfl rfl rfl rfl rfl rfl | exact o_idxra rfl rfl rfl rfl rfl rfl rfl | exact o_quo2 rfl rfl rfl (by omega) | exact o_quo rfl rfl rfl (by omega))); (focus (first | exact want_n | exact want_g rfl (by with_reducible rfl)))) | (apply Wb; (focus (first | exact o_box rfl rfl rfl rfl | exact o_app rfl rfl rfl rfl rfl (by first | exact o_many rfl | exact o_one _ _ rfl) (by first | omega | (simp; omega) | simp) (by first | omega | (simp; omega) | simp) | exact o_appn rfl rfl rfl rfl rfl (by first | exact o_many rfl | exact o_one _ _ rfl) (by first | omega | (simp; omega) | simp) (by first | omega | (simp; omega) | simp) | exact o_app1 rfl rfl rfl rfl rfl (by first | exact o_many rfl | exact o_one _ _ rfl) (by exact rfl) (by first | omega | (simp; omega) | simp) (by first | omega | (simp; omega) | simp) | exact o_app0 rfl rfl rfl rfl rfl (by first | exact o_many rfl | exact o_one _ _ rfl) (by first | omega | (simp; omega) | simp) (by first | omega | (simp; omega) | simp) | exact o_bsl0 rfl rfl rfl | exact z_bsll rfl rfl rfl rfl rfl rfl rfl rfl rfl | exact z_alloc rfl rfl rfl | exact o_alloc zero_Opn rfl rfl | exact o_alloc zero_Ans rfl rfl | exact o_bsll zero_Ans rfl rfl rfl rfl rfl rfl rfl | exact o_bsll zero_Opn rfl rfl rfl rfl rfl rfl rfl rfl)); (focus (first | exact want_n | exact want_g rfl (by with_reducible rfl)))) | (apply Ws; (focus (exact ok_store tabT (d := none) rfl rfl rfl rfl rfl rfl rfl rfl rfl rfl)); (focus (first | exact want_n | exact want_g rfl (by with_reducible rfl)))) | (refine Wskip (by first | exact want_f rfl (by with_reducible exact b_nt) | exact want_f rfl (by with_reducible exact b_nf) | exact want_t rfl) rfl ?_) | refine Wgt rfl rfl (by first | assumption | omega | exact rfl) ?_ | refine Wgf rfl rfl (by first | assumption | omega | exact rfl) ?_ | (refine Wgb rfl rfl (by with_reducible assumption) ?_) | (refine cb_is _ (by assumption) ?_)))); exact kHid.out) : Q := h ⟨k⟩
attribute [local irreducible] OpOK AWops AW CondB Go2 AFn thenA inBlockA noGotoA orderOk wantedA
set_option maxRecDepth 100000 in
set_option maxHeartbeats 4000000 in
theorem a_lop (v : Int) (hv : -9223372036854775808 ≤ v ∧ v ≤ 9223372036854775807) : AFn Try.prog 26 [intA v] (lawOp v).av := by
  refine AFn_intro Try.func26 rfl Try.ntmps26 rfl (by simp) [_] rfl fun E hE => ?_
  have h0 := Int.emod_nonneg v (show (1099511627776 : Int) ≠ 0 by omega)
  have h1 := Int.emod_lt_of_pos v (show (0 : Int) < 1099511627776 by omega)
  have c1 := a_lplace v 1099511627776 (by omega) (by omega) hv
  unfold lawOp
  dsimp only
  generalize v % 1099511627776 = k at h0 h1 c1 ⊢
  have d1 := acall Try.func17 (c1) (by decide +kernel) (by decide +kernel)
  have d3 := acall Try.func43 (a_lkey (k / 4) (by omega)) (by decide +kernel) (by decide +kernel)
  have d4 := acall Try.func21 (a_lval (k / 64) (by omega)) (by decide +kernel) (by decide +kernel)
  have d5 := acall Try.func42 (a_reftext (lawKey (k / 4))) (by decide +kernel) (by decide +kernel)
  have d6 := acall Try.func44 (a_refvtext (lawVl (k / 64))) (by decide +kernel) (by decide +kernel)
  have z1 := bytesOf_size (lawKey (k / 4)).txt
  have z2 := Key.txt_length (lawKey (k / 4))
  have z3 := bytesOf_size (lawVl (k / 64)).txt
  have z4 := Vl.txt_length (lawVl (k / 64))
  have z5 : nine.size = 9 := rfl
  have z6 : seventeen.size = 18 := rfl
  by_cases q0 : k % 4 = 0
  · have e1 : 1 + k % 4 = 1 := by omega
    have e3 : ¬ 1 + k % 4 = 3 := by omega
    rw [if_pos q0, if_neg (show ¬ k % 4 = 2 by omega)]
    by_cases q7 : k / 8 % 64 = 7
    · have q9 : ¬ k / 8 % 64 = 9 := by omega
      rw [if_pos q7, if_neg q9]
      refine wR ?_
      exact fin ⟨res_var rfl rfl rfl rfl, trivial⟩
    · rw [if_neg q7]
      by_cases q9 : k / 8 % 64 = 9
      · rw [if_pos q9]
        refine wR ?_
        exact fin ⟨res_var rfl rfl rfl rfl, trivial⟩
      · rw [if_neg q9]
        refine wR ?_
        exact fin ⟨res_var rfl rfl rfl rfl, trivial⟩
  have e1 : ¬ 1 + k % 4 = 1 := by omega
  rw [if_neg q0]
  by_cases q2 : k % 4 = 2
  · have e3 : 1 + k % 4 = 3 := by omega
    rw [if_pos q2]
    by_cases q7 : k / 8 % 64 = 7
    · have q9 : ¬ k / 8 % 64 = 9 := by omega
      rw [if_pos q7]
      refine wR ?_
      exact fin ⟨res_var rfl rfl rfl rfl, trivial⟩
    · rw [if_neg q7]
      by_cases q9 : k / 8 % 64 = 9
      · refine wR ?_
        exact fin ⟨res_var rfl rfl rfl rfl, trivial⟩
      · refine wR ?_
        exact fin ⟨res_var rfl rfl rfl rfl, trivial⟩
  have e3 : ¬ 1 + k % 4 = 3 := by omega
  rw [if_neg q2]
  by_cases q7 : k / 8 % 64 = 7
  · have q9 : ¬ k / 8 % 64 = 9 := by omega
    rw [if_pos q7]
    refine wR ?_
    exact fin ⟨res_var rfl rfl rfl rfl, trivial⟩
  rw [if_neg q7]
  by_cases q9 : k / 8 % 64 = 9
  · refine wR ?_
    exact fin ⟨res_var rfl rfl rfl rfl, trivial⟩
  · refine wR ?_
    exact fin ⟨res_var rfl rfl rfl rfl, trivial⟩
end Go.Proofs.Ytphojngdgmnpaaa

namespace Go.Proofs.Ytphojngdgmnpaaa
open Go Go.RowKit
set_option linter.unusedVariables false
set_option linter.unusedSimpArgs false
set_option maxRecDepth 100000

theorem kids_no (ks : List Int) (cs : List Key) (cmp : Key → Key → Int) (j : Nat) (h : j < ks.length) (hJ : kidsFrom ks 0 ks = kidsFrom ks j (ks.drop j)) (e : ks[j] < 1 ∨ 256 ≤ ks[j] ∨ idxOf ks ks[j] ≠ (j : Int)) : fanOkBy cmp ks cs = false := by
  unfold fanOkBy
  rw [hJ, kidsFrom_step ks ks j h]
  rcases e with e | e | e
  · rw [show decide (1 ≤ ks[j]) = false from decide_eq_false (by omega)]; simp
  · rw [show decide (ks[j] < 256) = false from decide_eq_false (by omega)]; simp
  · rw [show decide (idxOf ks ks[j] = (j : Int)) = false from decide_eq_false e]; simp
theorem kids_on (ks : List Int) (j : Nat) (h : j < ks.length) (hJ : kidsFrom ks 0 ks = kidsFrom ks j (ks.drop j)) (e1 : ¬ ks[j] < 1) (e2 : ¬ 256 ≤ ks[j]) (e3 : idxOf ks ks[j] = (j : Int)) : kidsFrom ks 0 ks = kidsFrom ks (j + 1) (ks.drop (j + 1)) := by
  rw [hJ, kidsFrom_step ks ks j h, show decide (1 ≤ ks[j]) = true from decide_eq_true (by omega), show decide (ks[j] < 256) = true from decide_eq_true (by omega), show decide (idxOf ks ks[j] = (j : Int)) = true from decide_eq_true e3]
  simp
theorem fan_no (ks : List Int) (cs : List Key) (cmp : Key → Key → Int) (e : ks.length < 2 ∨ 4 < ks.length ∨ cs.length + 1 ≠ ks.length) : fanOkBy cmp ks cs = false := by
  unfold fanOkBy
  rcases e with e | e | e
  · rw [show decide (2 ≤ ks.length) = false from decide_eq_false (by omega)]; simp
  · rw [show decide (ks.length ≤ 4) = false from decide_eq_false (by omega)]; simp
  · rw [show decide (cs.length + 1 = ks.length) = false from decide_eq_false e]; simp
theorem fan_on (ks : List Int) (cs : List Key) (cmp : Key → Key → Int) (h2 : 2 ≤ ks.length) (h4 : ks.length ≤ 4) (hc : cs.length + 1 = ks.length) (hk : kidsFrom ks 0 ks = true) : fanOkBy cmp ks cs = risesBy cmp none cs := by
  unfold fanOkBy
  rw [decide_eq_true h2, decide_eq_true h4, decide_eq_true hc, hk]; simp
theorem rise_no0 (cmp : Key → Key → Int) (cs : List Key) (j : Nat) (h : j < cs.length) (hJ : risesBy cmp none cs = risesBy cmp (ahead cs j) (cs.drop j)) (e : cs[j].ok = false) : risesBy cmp none cs = false := by
  cases j with
  | zero => rw [hJ, risesBy_step0 cmp cs h, e]; rfl
  | succ m => rw [hJ, risesBy_step cmp cs m h, e]; rfl
theorem rise_no1 (cmp : Key → Key → Int) (cs : List Key) (m : Nat) (h : m + 1 < cs.length) (hJ : risesBy cmp none cs = risesBy cmp (ahead cs (m + 1)) (cs.drop (m + 1))) (e : 0 ≤ cmp cs[m] cs[m + 1]) : risesBy cmp none cs = false := by
  rw [hJ, risesBy_step cmp cs m h, show decide (cmp cs[m] cs[m + 1] < 0) = false from decide_eq_false (by omega)]; simp
theorem rise_on0 (cmp : Key → Key → Int) (cs : List Key) (h : 0 < cs.length) (hJ : risesBy cmp none cs = risesBy cmp (ahead cs 0) (cs.drop 0)) (e : cs[0].ok = true) : risesBy cmp none cs = risesBy cmp (ahead cs 1) (cs.drop 1) := by
  rw [hJ, risesBy_step0 cmp cs h, e]; simp
theorem rise_on1 (cmp : Key → Key → Int) (cs : List Key) (m : Nat) (h : m + 1 < cs.length) (hJ : risesBy cmp none cs = risesBy cmp (ahead cs (m + 1)) (cs.drop (m + 1))) (e : cs[m + 1].ok = true) (c : ¬ 0 ≤ cmp cs[m] cs[m + 1]) : risesBy cmp none cs = risesBy cmp (ahead cs (m + 2)) (cs.drop (m + 2)) := by
  rw [hJ, risesBy_step cmp cs m h, e, show decide (cmp cs[m] cs[m + 1] < 0) = true from decide_eq_true (by omega)]; simp
attribute [local irreducible] OpOK AWops AW CondB Go2 AFn thenA inBlockA noGotoA orderOk wantedA
set_option maxRecDepth 100000 in
theorem a_index (l : List Int) (x : Int) (hl : l.length ≤ 1000000000000000000) : AFn Try.prog 48 [intsA l, intA x] (intA (idxOf l x)) := by
  refine AFn_intro Try.func48 rfl Try.ntmps48 rfl (by simp) [_] rfl fun E hE => ?_
  refine wO ?_
  refine AW_loopI (fun j : Nat => ⟨[(0, intsA l), (1, intA x), (7, intA l.length), (8, intA j)], []⟩) (fun j => j ≤ l.length ∧ idxOf l x = idxFrom x j (l.drop j)) (fun j => l.length - j) 0 ⟨Nat.zero_le _, rfl⟩ (by (refine Go2.sub ⟨?_, ?_, ?_⟩ <;> repeat' (first | exact True.intro | rfl | apply And.intro))) (fun j hj => ?_)
  obtain ⟨hj, hJ⟩ := hj
  by_cases hlt : j < l.length
  · by_cases he : x = l[j]
    · rw [hJ, idxFrom_hit l x j hlt he.symm]
      refine wO ?_
      exact fin ⟨res_of rfl rfl rfl, trivial⟩
    · refine wO ?_
      refine ⟨j + 1, ⟨hlt, by rw [hJ, idxFrom_miss l x j hlt (fun h => he h.symm)]⟩, by omega, ?_⟩
      (refine Go2.sub ⟨?_, ?_, ?_⟩ <;> repeat' (first | exact True.intro | rfl | apply And.intro))
  · rw [hJ, idxFrom_end l x j (by omega)]
    refine wO ?_
    exact fin ⟨res_of rfl rfl rfl, trivial⟩
end Go.Proofs.Ytphojngdgmnpaaa

namespace Go.Proofs.Ytphojngdgmnpaaa
open Go Go.RowKit
set_option linter.unusedVariables false
set_option linter.unusedSimpArgs false
set_option maxRecDepth 100000

theorem flat_take {α : Type} (l : List (List α)) (j : Nat) (h : j < l.length) : (l.take (j + 1)).flatten = (l.take j).flatten ++ l[j] := by
  rw [List.take_succ_eq_append_getElem h, List.flatten_append]; simp
theorem flat_le {α : Type} (l : List (List α)) (j : Nat) : (l.take j).flatten.length ≤ l.flatten.length := by
  conv => rhs; rw [← List.take_append_drop j l, List.flatten_append, List.length_append]
  omega
def insKids (ks : List Int) (i : Nat) (id : Int) : List Int := ks.take (i + 1) ++ ([id] ++ ks.drop (i + 1))
def insCuts (cs : List Key) (at_ : Nat) (x : Key) : List Key := cs.take at_ ++ ([x] ++ cs.drop at_)
def fanIns (ks : List Int) (cs : List Key) (i : Int) (x : Key) (id : Int) : List Int × List Key :=
  if 0 ≤ i ∧ i < ks.length then (insKids ks i.toNat id, insCuts cs (min i.toNat cs.length) x) else (ks, cs)
attribute [local irreducible] OpOK AWops AW CondB Go2 AFn thenA inBlockA noGotoA orderOk wantedA
def fanHal (ks : List Int) (cs : List Key) : List Int × List Key × Key × List Int × List Key × Bool :=
  if ks.length = 4 ∧ cs.length = 3 then (ks.take 2, cs.take 1, cs.getD 1 Key.zero, ks.drop 2, cs.drop 2, true) else ([], [], Key.zero, [], [], false)
def fanHalA (h : List Int × List Key × Key × List Int × List Key × Bool) : AV := .tup [intsA h.1, keysA h.2.1, h.2.2.1.av, intsA h.2.2.2.1, keysA h.2.2.2.2.1, boolA h.2.2.2.2.2]
end Go.Proofs.Ytphojngdgmnpaaa

namespace Go.Proofs.Ytphojngdgmnpaaa
open Go Go.RowKit
set_option linter.unusedVariables false
set_option linter.unusedSimpArgs false
set_option maxRecDepth 100000

/-- the first j kids, with one more behind place i -/
def insK (ks : List Int) (i id : Int) (j : Nat) : List Int := if 0 ≤ i ∧ i < j then ks.take (i.toNat + 1) ++ ([id] ++ (ks.take j).drop (i.toNat + 1)) else ks.take j
theorem insK_hit (ks : List Int) (i id : Int) (j : Nat) (h : j < ks.length) (e : (j : Int) = i) : insK ks i id (j + 1) = insK ks i id j ++ [ks[j]] ++ [id] := by
  subst e
  unfold insK
  rw [if_pos (by omega), if_neg (by omega), Int.toNat_natCast, List.drop_eq_nil_of_le (by simp; omega), List.take_succ_eq_append_getElem h]
  simp
theorem insK_miss (ks : List Int) (i id : Int) (j : Nat) (h : j < ks.length) (e : ¬ (j : Int) = i) : insK ks i id (j + 1) = insK ks i id j ++ [ks[j]] := by
  unfold insK
  by_cases c : 0 ≤ i ∧ i < j
  · rw [if_pos (by omega), if_pos c, List.take_succ_eq_append_getElem h, List.drop_append_of_le_length (by simp; omega)]
    simp
  · rw [if_neg (by omega), if_neg c, List.take_succ_eq_append_getElem h]
theorem insK_zero (ks : List Int) (i id : Int) : insK ks i id 0 = [] := by
  unfold insK; rw [if_neg (by omega)]; rfl
theorem insK_end (ks : List Int) (cs : List Key) (i id : Int) (x : Key) : insK ks i id ks.length = (fanIns ks cs i x id).1 := by
  unfold insK fanIns
  by_cases c : 0 ≤ i ∧ i < ks.length
  · rw [if_pos c, if_pos c]; simp [insKids]
  · rw [if_neg c, if_neg c]; simp
theorem insK_le (ks : List Int) (i id : Int) (j : Nat) : (insK ks i id j).length ≤ ks.length + 1 + ks.length := by
  unfold insK; split <;> simp <;> omega
/-- the first j pivots, with one more ahead of place i -/
def insC (cs : List Key) (m : Nat) (i : Int) (x : Key) (j : Nat) : List Key := if 0 ≤ i ∧ i < m ∧ i < j then cs.take i.toNat ++ ([x] ++ (cs.take j).drop i.toNat) else cs.take j
theorem insC_hit (cs : List Key) (m : Nat) (i : Int) (x : Key) (j : Nat) (h : j < cs.length) (e : (j : Int) = i) (hm : i < m) : insC cs m i x (j + 1) = insC cs m i x j ++ [x] ++ [cs[j]] := by
  subst e
  unfold insC
  rw [if_pos (by omega), if_neg (by omega), Int.toNat_natCast, List.take_succ_eq_append_getElem h, List.drop_append_of_le_length (by simp; omega), List.drop_eq_nil_of_le (by simp; omega)]
  simp
theorem insC_miss (cs : List Key) (m : Nat) (i : Int) (x : Key) (j : Nat) (h : j < cs.length) (e : ¬ ((j : Int) = i ∧ i < m)) : insC cs m i x (j + 1) = insC cs m i x j ++ [cs[j]] := by
  unfold insC
  by_cases c : 0 ≤ i ∧ i < m ∧ i < j
  · rw [if_pos (by omega), if_pos c, List.take_succ_eq_append_getElem h, List.drop_append_of_le_length (by simp; omega)]
    simp
  · rw [if_neg (by omega), if_neg c, List.take_succ_eq_append_getElem h]
theorem insC_zero (cs : List Key) (m : Nat) (i : Int) (x : Key) : insC cs m i x 0 = [] := by
  unfold insC; rw [if_neg (by omega)]; rfl
theorem insC_last (ks : List Int) (cs : List Key) (i id : Int) (x : Key) (e : i = cs.length) (hm : i < ks.length) : insC cs ks.length i x cs.length ++ [x] = (fanIns ks cs i x id).2 := by
  subst e
  unfold insC fanIns
  rw [if_neg (by omega), if_pos (by omega)]
  simp [insCuts]
theorem insC_end (ks : List Int) (cs : List Key) (i id : Int) (x : Key) (hl : ks.length ≤ cs.length + 1) (e : ¬ (i = cs.length ∧ i < ks.length)) : insC cs ks.length i x cs.length = (fanIns ks cs i x id).2 := by
  unfold insC fanIns
  by_cases c : 0 ≤ i ∧ i < ks.length
  · rw [if_pos (by omega), if_pos c]
    have : min i.toNat cs.length = i.toNat := by omega
    simp [insCuts, this]
  · rw [if_neg (by omega), if_neg c]; simp
theorem insC_le (cs : List Key) (m : Nat) (i : Int) (x : Key) (j : Nat) : (insC cs m i x j).length ≤ cs.length + 1 + cs.length := by
  unfold insC; split <;> simp <;> omega
/-- the first places at which two rows are alike -/
theorem same_step {α : Type} [DecidableEq α] (a b : List α) (j : Nat) (h : j < a.length) (h' : j < b.length) (e : a[j] = b[j]) (k : a.take j = b.take j) : a.take (j + 1) = b.take (j + 1) := by
  rw [List.take_succ_eq_append_getElem h, List.take_succ_eq_append_getElem h', e, k]
theorem same_no {α : Type} [DecidableEq α] (a b : List α) (j : Nat) (h : j < a.length) (h' : j < b.length) (e : a[j] ≠ b[j]) : decide (a = b) = false := decide_eq_false fun k => e (by subst k; rfl)
attribute [local irreducible] OpOK AWops AW CondB Go2 AFn thenA inBlockA noGotoA orderOk wantedA
end Go.Proofs.Ytphojngdgmnpaaa

namespace Go.Proofs.Ytphojngdgmnpaaa
open Go Go.RowKit
set_option linter.unusedVariables false
set_option linter.unusedSimpArgs false
set_option maxRecDepth 100000

def lawRowsF (l : List Int) (j : Nat) : List Opn := (l.take j).map lawOp
def lawRows (l : List Int) : List Opn := lawRowsF l 100
theorem lawRowsF_snoc (l : List Int) (j : Nat) (h : j < l.length) : lawRowsF l (j + 1) = lawRowsF l j ++ [lawOp l[j]] := by
  unfold lawRowsF
  rw [← List.take_append_getElem h, List.map_append]
  rfl
theorem lawRowsF_end (l : List Int) (j : Nat) (h : j = 100 ∨ (j = l.length ∧ j ≤ 100)) : lawRowsF l j = lawRows l := by
  unfold lawRows lawRowsF
  rcases h with h | ⟨h1, h2⟩
  · rw [h]
  · subst h1; rw [List.take_of_length_le (Nat.le_refl _), List.take_of_length_le h2]
theorem lawRowsF_len (l : List Int) (j : Nat) : (lawRowsF l j).length ≤ j := by unfold lawRowsF; simp; omega
theorem lawRows_len (l : List Int) : (lawRows l).length ≤ 100 := lawRowsF_len l 100
attribute [local irreducible] OpOK AWops AW CondB Go2 AFn thenA inBlockA noGotoA orderOk wantedA
set_option maxRecDepth 100000 in
set_option maxHeartbeats 4000000 in
theorem m_sameEnts (a b : List Ent) (h1 : a.length ≤ 1000000000) : AFn Try.prog 60 [entsA a, entsA b] (boolA (decide (a = b))) := by
  refine AFn_intro Try.func60 rfl Try.ntmps60 rfl (by simp) [_] rfl fun E hE => ?_
  by_cases hl : a.length = b.length
  · refine wL ?_
    refine AW_loopI (fun j : Nat => ⟨[(0, entsA a), (1, entsA b), (5, intA j)], []⟩) (fun j => j ≤ a.length ∧ a.take j = b.take j) (fun j => a.length - j) 0 ⟨Nat.zero_le _, rfl⟩ (by (refine Go2.sub ⟨?_, ?_, ?_⟩ <;> repeat' (first | exact True.intro | rfl | apply And.intro))) (fun j hj => ?_)
    obtain ⟨hj, hJ⟩ := hj
    by_cases hlt : j < a.length
    · have hlt' : j < b.length := by omega
      by_cases h : a[j] = b[j]
      · have h' : ¬ a[j] ≠ b[j] := fun k => k h
        refine wL ?_
        refine ⟨j + 1, ⟨hlt, same_step a b j hlt hlt' h hJ⟩, by omega, ?_⟩
        (refine Go2.sub ⟨?_, ?_, ?_⟩ <;> repeat' (first | exact True.intro | rfl | apply And.intro))
      · have h' : a[j] ≠ b[j] := h
        rw [same_no a b j hlt hlt' h]
        refine wL ?_
        exact fin ⟨res_of rfl rfl rfl, trivial⟩
    · have : j = a.length := by omega
      subst this
      rw [List.take_length, hl, List.take_length] at hJ
      rw [decide_eq_true hJ]
      refine wL ?_
      exact fin ⟨res_of rfl rfl rfl, trivial⟩
  · rw [show decide (a = b) = false from decide_eq_false fun k => hl (by rw [k])]
    refine wL ?_
    exact fin ⟨res_of rfl rfl rfl, trivial⟩
end Go.Proofs.Ytphojngdgmnpaaa

namespace Go.Proofs.Ytphojngdgmnpaaa
open Go Go.RowKit
set_option linter.unusedVariables false
set_option linter.unusedSimpArgs false
set_option maxRecDepth 100000

def before (c d : Cal) : Bool := decide (0 ≤ c.to) && decide (c.to < d.frm)
def doC (m : List Ent) (c : Cal) : List Ent × Bool :=
  if c.to < 0 then ((mdDo m c.op).1, true) else if c.ans.code = 3 then (m, true) else if c.ans.code = 2 then (m, large c.op) else ((mdDo m c.op).1, decide ((mdDo m c.op).2 = c.ans))
def atC (l : List Cal) (i : Nat) : Cal := l.getD i Cal.zero
theorem atC_get {l : List Cal} {i : Nat} (h : i < l.length) : l[i] = atC l i := by unfold atC; rw [List.getD_eq_getElem?_getD, List.getElem?_eq_getElem h]; rfl
/-- is call k, if it must be, ahead of call i? -/
def rdyAt (l : List Cal) (i : Nat) (d : Nat → Bool) (k : Nat) : Bool := decide (k = i) || !before (atC l k) (atC l i) || d k
def rdy (l : List Cal) (i : Nat) (d : Nat → Bool) : Bool := (List.range l.length).all (rdyAt l i d)
def whlAt (l : List Cal) (d : Nat → Bool) (k : Nat) : Bool := decide ((atC l k).to < 0) || d k
def whl (l : List Cal) (d : Nat → Bool) : Bool := (List.range l.length).all (whlAt l d)
theorem all_upto {p : Nat → Bool} {n : Nat} (h : ∀ k, k < n → p k = true) : (List.range n).all p = true := by
  rw [List.all_eq_true]; intro k hk; exact h k (List.mem_range.1 hk)
theorem all_not {p : Nat → Bool} {n k : Nat} (hk : k < n) (h : p k = false) : (List.range n).all p = false := by
  cases e : (List.range n).all p with
  | false => rfl
  | true => rw [List.all_eq_true] at e; rw [e k (List.mem_range.2 hk)] at h; cases h
theorem wW {Q R : Prop} (k : R) (h : Hid R → Q := by intro kHid; (repeat (first | (first | refine Wend _ ?_ | refine AW_seq ?_ | refine AW_reg ?_ | refine AW_drw mixed ?_ | refine AW_block ?_ | refine AW_scope ?_ | refine thenA_n ?_ | refine blockA_n ?_ | refine blockA_h ?_ | refine scopeA_n ?_ | refine thenA_r ?_ | refine blockA_r ?_ | refine scopeA_r ?_ | refine thenA_e ?_ | refine scopeA_e ?_ | refine blockA_e rfl ?_ | refine AW_exit ?_ | refine AW_ret ?_ | refine AW_skip ?_ | refine AW_c rfl ?_ | with_reducible refine cb_t ?_ | with_reducible refine cb_f ?_ | with_reducible refine cb_yes (by first | assumption | omega) ?_ | with_reducible refine cb_no (by first | assumption | omega) ?_ | refine And.intro (by decide +kernel) ?_) | (first | (apply Wv; (focus (first | exact step_ok rfl rfl | exact o_idx rfl rfl rfl rfl (by first | assumption | omega | decide) | exact o_idx3 rfl rfl rfl rfl (by first | assumption | omega | decide) | exact o_idx2 rfl rfl rfl rfl rfl (by first | assumption | omega | decide) | exact o_idxr rfl rfl rfl rfl rfl rfl | exact o_lenm rfl rfl rfl | exact o_len rfl rfl rfl | exact o_len0 rfl rfl rfl | exact o_lens rfl rfl rfl | exact o_lent rfl rfl | exact o_add1 rfl rfl rfl (by omega) | exact o_addn rfl rfl rfl (by omega) | exact o_add rfl rfl rfl (by omega) | exact o_sub1 rfl rfl rfl (by omega) | exact o_sub rfl rfl rfl (by omega) | exact o_mul rfl rfl rfl (by omega) | exact o_rem rfl rfl rfl (by omega) | exact ok_rem rfl rfl rfl (by decide) rfl | exact o_eqKey rfl rfl rfl | exact o_neKey rfl rfl rfl | exact o_eqVl rfl rfl rfl | exact o_neVl rfl rfl rfl | exact o_eqEnt rfl rfl rfl | exact o_neEnt rfl rfl rfl | exact o_eqMsg rfl rfl rfl | exact o_neMsg rfl rfl rfl | exact o_acall rfl rfl rfl rfl (by assumption) | exact o_minn rfl rfl rfl | exact o_cutl rfl rfl rfl rfl (by omega) | exact o_cuth rfl rfl rfl rfl (by omega) | exact o_cutl3 rfl rfl rfl rfl (by omega) | exact o_cuth3 rfl rfl rfl rfl (by omega) | exact o_cutl2 rfl rfl rfl rfl rfl (by omega) | exact o_cuth2 rfl rfl rfl rfl rfl (by omega) | exact o_cutlh2 rfl rfl rfl rfl rfl rfl rfl (by omega) (by omega) | exact o_bld zero_Opn rfl rfl rfl rfl rfl rfl rfl | exact o_bld zero_Cal rfl rfl rfl rfl rfl rfl rfl | exact o_mkfn rfl rfl rfl | exact o_callv rfl rfl rfl rfl rfl rfl (by assumption) | exact o_bld zero_Ans rfl rfl rfl rfl rfl rfl rfl | exact o_eqAns rfl rfl rfl | exact o_neAns rfl rfl rfl | exact e_bld rfl rfl rfl | exact e_bldk rfl rfl | exact z_bld0 rfl rfl rfl rfl rfl | exact z_bld rfl rfl rfl rfl rfl rfl rfl | exact o_addu rfl rfl rfl | exact z_blda rfl rfl rfl rfl rfl rfl rfl rfl rfl | exact o_idxa rfl rfl rfl rfl rfl rfl | exact o_idxra rfl rfl rfl rfl rfl rfl rfl | exact o_quo2 rfl rfl rfl (by omega) | exact o_quo rfl rfl rfl (by omega))); (focus (first | exact want_n | exact want_g rfl (by with_reducible rfl)))) | (apply Wb; (focus (first | exact o_box rfl rfl rfl rfl | exact o_app rfl rfl rfl rfl rfl (by first | exact o_many rfl | exact o_one _ _ rfl) (by first | omega | (simp; omega) | simp) (by first | omega | (simp; omega) | simp) | exact o_appn rfl rfl rfl rfl rfl (by first | exact o_many rfl | exact o_one _ _ rfl) (by first | omega | (simp; omega) | simp) (by first | omega | (simp; omega) | simp) | exact o_app1 rfl rfl rfl rfl rfl (by first | exact o_many rfl | exact o_one _ _ rfl) (by exact rfl) (by first | omega | (simp; omega) | simp) (by first | omega | (simp; omega) | simp) | exact o_app0 rfl rfl rfl rfl rfl (by first | exact o_many rfl | exact o_one _ _ rfl) (by first | omega | (simp; omega) | simp) (by first | omega | (simp; omega) | simp) | exact o_bsl0 rfl rfl rfl | exact z_bsll rfl rfl rfl rfl rfl rfl rfl rfl rfl | exact z_alloc rfl rfl rfl | exact o_alloc zero_Opn rfl rfl | exact o_alloc zero_Cal rfl rfl | exact o_alloc zero_Ans rfl rfl | exact o_bsll zero_Ans rfl rfl rfl rfl rfl rfl rfl rfl | exact o_bsll zero_Opn rfl rfl rfl rfl rfl rfl rfl rfl)); (focus (first | exact want_n | exact want_g rfl (by with_reducible rfl)))) | (apply Ws; (focus (exact ok_store tabT (d := none) rfl rfl rfl rfl rfl rfl rfl rfl rfl rfl)); (focus (first | exact want_n | exact want_g rfl (by with_reducible rfl)))) | (refine Wskip (by first | exact want_f rfl (by with_reducible exact b_nt) | exact want_f rfl (by with_reducible exact b_nf) | exact want_t rfl) rfl ?_) | refine Wgt rfl rfl (by first | assumption | omega | exact rfl) ?_ | refine Wgf rfl rfl (by first | assumption | omega | exact rfl) ?_ | (refine Wgb rfl rfl (by with_reducible assumption) ?_) | (refine cb_is _ (by assumption) ?_)))); exact kHid.out) : Q := h ⟨k⟩
theorem wSW {Q R : Prop} (k : R) (h : Hid R → Q := by intro kHid; ((first | (first | refine Wend _ ?_ | refine AW_seq ?_ | refine AW_reg ?_ | refine AW_drw mixed ?_ | refine AW_block ?_ | refine AW_scope ?_ | refine thenA_n ?_ | refine blockA_n ?_ | refine blockA_h ?_ | refine scopeA_n ?_ | refine thenA_r ?_ | refine blockA_r ?_ | refine scopeA_r ?_ | refine thenA_e ?_ | refine scopeA_e ?_ | refine blockA_e rfl ?_ | refine AW_exit ?_ | refine AW_ret ?_ | refine AW_skip ?_ | refine AW_c rfl ?_ | with_reducible refine cb_t ?_ | with_reducible refine cb_f ?_ | with_reducible refine cb_yes (by first | assumption | omega) ?_ | with_reducible refine cb_no (by first | assumption | omega) ?_ | refine And.intro (by decide +kernel) ?_) | (first | (apply Wv; (focus (first | exact step_ok rfl rfl | exact o_idx rfl rfl rfl rfl (by first | assumption | omega | decide) | exact o_idx3 rfl rfl rfl rfl (by first | assumption | omega | decide) | exact o_idx2 rfl rfl rfl rfl rfl (by first | assumption | omega | decide) | exact o_idxr rfl rfl rfl rfl rfl rfl | exact o_lenm rfl rfl rfl | exact o_len rfl rfl rfl | exact o_len0 rfl rfl rfl | exact o_lens rfl rfl rfl | exact o_lent rfl rfl | exact o_add1 rfl rfl rfl (by omega) | exact o_addn rfl rfl rfl (by omega) | exact o_add rfl rfl rfl (by omega) | exact o_sub1 rfl rfl rfl (by omega) | exact o_sub rfl rfl rfl (by omega) | exact o_mul rfl rfl rfl (by omega) | exact o_rem rfl rfl rfl (by omega) | exact ok_rem rfl rfl rfl (by decide) rfl | exact o_eqKey rfl rfl rfl | exact o_neKey rfl rfl rfl | exact o_eqVl rfl rfl rfl | exact o_neVl rfl rfl rfl | exact o_eqEnt rfl rfl rfl | exact o_neEnt rfl rfl rfl | exact o_eqMsg rfl rfl rfl | exact o_neMsg rfl rfl rfl | exact o_acall rfl rfl rfl rfl (by assumption) | exact o_minn rfl rfl rfl | exact o_cutl rfl rfl rfl rfl (by omega) | exact o_cuth rfl rfl rfl rfl (by omega) | exact o_cutl3 rfl rfl rfl rfl (by omega) | exact o_cuth3 rfl rfl rfl rfl (by omega) | exact o_cutl2 rfl rfl rfl rfl rfl (by omega) | exact o_cuth2 rfl rfl rfl rfl rfl (by omega) | exact o_cutlh2 rfl rfl rfl rfl rfl rfl rfl (by omega) (by omega) | exact o_bld zero_Opn rfl rfl rfl rfl rfl rfl rfl | exact o_bld zero_Cal rfl rfl rfl rfl rfl rfl rfl | exact o_mkfn rfl rfl rfl | exact o_callv rfl rfl rfl rfl rfl rfl (by assumption) | exact o_bld zero_Ans rfl rfl rfl rfl rfl rfl rfl | exact o_eqAns rfl rfl rfl | exact o_neAns rfl rfl rfl | exact e_bld rfl rfl rfl | exact e_bldk rfl rfl | exact z_bld0 rfl rfl rfl rfl rfl | exact z_bld rfl rfl rfl rfl rfl rfl rfl | exact o_addu rfl rfl rfl | exact z_blda rfl rfl rfl rfl rfl rfl rfl rfl rfl | exact o_idxa rfl rfl rfl rfl rfl rfl | exact o_idxra rfl rfl rfl rfl rfl rfl rfl | exact o_quo2 rfl rfl rfl (by omega) | exact o_quo rfl rfl rfl (by omega))); (focus (first | exact want_n | exact want_g rfl (by with_reducible rfl)))) | (apply Wb; (focus (first | exact o_box rfl rfl rfl rfl | exact o_app rfl rfl rfl rfl rfl (by first | exact o_many rfl | exact o_one _ _ rfl) (by first | omega | (simp; omega) | simp) (by first | omega | (simp; omega) | simp) | exact o_appn rfl rfl rfl rfl rfl (by first | exact o_many rfl | exact o_one _ _ rfl) (by first | omega | (simp; omega) | simp) (by first | omega | (simp; omega) | simp) | exact o_app1 rfl rfl rfl rfl rfl (by first | exact o_many rfl | exact o_one _ _ rfl) (by exact rfl) (by first | omega | (simp; omega) | simp) (by first | omega | (simp; omega) | simp) | exact o_app0 rfl rfl rfl rfl rfl (by first | exact o_many rfl | exact o_one _ _ rfl) (by first | omega | (simp; omega) | simp) (by first | omega | (simp; omega) | simp) | exact o_bsl0 rfl rfl rfl | exact z_bsll rfl rfl rfl rfl rfl rfl rfl rfl rfl | exact z_alloc rfl rfl rfl | exact o_alloc zero_Opn rfl rfl | exact o_alloc zero_Cal rfl rfl | exact o_alloc zero_Ans rfl rfl | exact o_bsll zero_Ans rfl rfl rfl rfl rfl rfl rfl rfl | exact o_bsll zero_Opn rfl rfl rfl rfl rfl rfl rfl rfl)); (focus (first | exact want_n | exact want_g rfl (by with_reducible rfl)))) | (apply Ws; (focus (exact ok_store tabT (d := none) rfl rfl rfl rfl rfl rfl rfl rfl rfl rfl)); (focus (first | exact want_n | exact want_g rfl (by with_reducible rfl)))) | (refine Wskip (by first | exact want_f rfl (by with_reducible exact b_nt) | exact want_f rfl (by with_reducible exact b_nf) | exact want_t rfl) rfl ?_) | refine Wgt rfl rfl (by first | assumption | omega | exact rfl) ?_ | refine Wgf rfl rfl (by first | assumption | omega | exact rfl) ?_ | (refine Wgb rfl rfl (by with_reducible assumption) ?_) | (refine cb_is _ (by assumption) ?_)))); exact kHid.out) : Q := h ⟨k⟩
attribute [local irreducible] OpOK AWops AW CondB Go2 AFn thenA inBlockA noGotoA orderOk wantedA
set_option maxRecDepth 100000 in
set_option maxHeartbeats 4000000 in
theorem a_before (c d : Cal) : AFn Try.prog 49 [c.av, d.av] (boolA (before c d)) := by
  obtain ⟨c1, c2, c3, c4, c5, c6⟩ := c
  obtain ⟨d1, d2, d3, d4, d5, d6⟩ := d
  unfold before
  dsimp only
  by_cases h : 0 ≤ c5
  · rw [decide_eq_true h, Bool.true_and]
    refine AFn_intro Try.func49 rfl Try.ntmps49 rfl (by simp) [_] rfl fun E hE => ?_; have hnt : (!true) = false := rfl; have hnf : (!false) = true := rfl
    refine wW ?_
    exact fin ⟨res_of rfl rfl rfl, trivial⟩
  · rw [decide_eq_false h, Bool.false_and]
    refine AFn_intro Try.func49 rfl Try.ntmps49 rfl (by simp) [_] rfl fun E hE => ?_; have hnt : (!true) = false := rfl; have hnf : (!false) = true := rfl
    refine wW ?_
    exact fin ⟨res_of rfl rfl rfl, trivial⟩
--GEN
set_option maxRecDepth 100000 in
set_option maxHeartbeats 4000000 in
theorem a_ready1 (l : List Cal) (hl : l.length ≤ 1000000000) (i : Nat) (hi : i < l.length) (d : Nat → Bool) (f : FuncId) (x : AV) (hin : ∀ k, k < l.length → ACall f [intA (k : Nat), .ref x] (boolA (d k))) :
    AFn Try.prog 32 [calsA l, intA (i : Nat), .fn (.func f) [] [.ref x]] (boolA (rdy l i d)) := by
  refine AFn_intro Try.func32 rfl Try.ntmps32 rfl (by simp) [_] rfl fun E hE => ?_; have hnt : (!true) = false := rfl; have hnf : (!false) = true := rfl
  refine wW ?_
  refine AW_loopI (fun j : Nat => ⟨[(0, calsA l), (1, intA (i : Nat)), (2, .fn (.func f) [] [.ref x]), (9, calsA l), (10, intA (l.length : Nat)), (11, intA (j : Nat))], []⟩) (fun j => j ≤ l.length ∧ ∀ k, k < j → rdyAt l i d k = true) (fun j => l.length - j) 0 ⟨Nat.zero_le _, fun k hk => absurd hk (Nat.not_lt_zero _)⟩ (by (refine Go2.sub ⟨?_, ?_, ?_⟩ <;> repeat' (first | exact True.intro | rfl | apply And.intro))) (fun j hj => ?_)
  obtain ⟨hj, ha⟩ := hj
  have hb : ∀ j, j < l.length → (rdyAt l i d j = true → ∀ k, k < j + 1 → (∀ k, k < j → rdyAt l i d k = true) → rdyAt l i d k = true) := fun j _ h k hk ha => by
    rcases Nat.lt_or_ge k j with h1 | h1
    · exact ha k h1
    · rw [show k = j by omega]; exact h
  by_cases c : j < l.length
  · have cb := a_before l[j] l[i]
    have ci := hin j c
    have e1 := atC_get c
    have e2 := atC_get hi
    by_cases h1 : j = i
    · have hr : rdyAt l i d j = true := by unfold rdyAt; rw [decide_eq_true h1]; rfl
      have g1 : ¬ ((j : Nat) : Int) ≠ (i : Nat) := by omega
      refine wW ?_
      refine ⟨j + 1, ⟨c, fun k hk => hb j c hr k hk ha⟩, by omega, ?_⟩
      (refine Go2.sub ⟨?_, ?_, ?_⟩ <;> repeat' (first | exact True.intro | rfl | apply And.intro))
    · have g1 : ((j : Nat) : Int) ≠ (i : Nat) := by omega
      cases hbf : before l[j] l[i]
      · rw [hbf] at cb
        have hr : rdyAt l i d j = true := by unfold rdyAt; rw [← e1, ← e2, hbf]; simp
        have cb1 := acall Try.func49 (cb) (by decide +kernel) (by decide +kernel)
        refine wW ?_
        refine ⟨j + 1, ⟨c, fun k hk => hb j c hr k hk ha⟩, by omega, ?_⟩
        (refine Go2.sub ⟨?_, ?_, ?_⟩ <;> repeat' (first | exact True.intro | rfl | apply And.intro))
      · rw [hbf] at cb
        cases hd : d j
        · rw [hd] at ci
          have hr : rdy l i d = false := by unfold rdy; refine all_not c ?_; unfold rdyAt; rw [← e1, ← e2, hbf, hd, decide_eq_false h1]; rfl
          rw [hr]
          have cb1 := acall Try.func49 (cb) (by decide +kernel) (by decide +kernel)
          refine wW ?_
          exact fin ⟨res_of rfl rfl rfl, trivial⟩
        · rw [hd] at ci
          have hr : rdyAt l i d j = true := by unfold rdyAt; rw [hd]; simp
          have cb1 := acall Try.func49 (cb) (by decide +kernel) (by decide +kernel)
          refine wW ?_
          refine ⟨j + 1, ⟨c, fun k hk => hb j c hr k hk ha⟩, by omega, ?_⟩
          (refine Go2.sub ⟨?_, ?_, ?_⟩ <;> repeat' (first | exact True.intro | rfl | apply And.intro))
  · have hr : rdy l i d = true := all_upto fun k hk => ha k (by omega)
    rw [hr]
    refine wW ?_
    exact fin ⟨res_of rfl rfl rfl, trivial⟩
set_option maxRecDepth 100000 in
set_option maxHeartbeats 4000000 in
theorem a_ready2 (l : List Cal) (hl : l.length ≤ 1000000000) (i : Nat) (hi : i < l.length) (d : Nat → Bool) (f : FuncId) (x y : AV) (hin : ∀ k, k < l.length → ACall f [intA (k : Nat), .ref x, .ref y] (boolA (d k))) :
    AFn Try.prog 32 [calsA l, intA (i : Nat), .fn (.func f) [] [.ref x, .ref y]] (boolA (rdy l i d)) := by
  refine AFn_intro Try.func32 rfl Try.ntmps32 rfl (by simp) [_] rfl fun E hE => ?_; have hnt : (!true) = false := rfl; have hnf : (!false) = true := rfl
  refine wW ?_
  refine AW_loopI (fun j : Nat => ⟨[(0, calsA l), (1, intA (i : Nat)), (2, .fn (.func f) [] [.ref x, .ref y]), (9, calsA l), (10, intA (l.length : Nat)), (11, intA (j : Nat))], []⟩) (fun j => j ≤ l.length ∧ ∀ k, k < j → rdyAt l i d k = true) (fun j => l.length - j) 0 ⟨Nat.zero_le _, fun k hk => absurd hk (Nat.not_lt_zero _)⟩ (by (refine Go2.sub ⟨?_, ?_, ?_⟩ <;> repeat' (first | exact True.intro | rfl | apply And.intro))) (fun j hj => ?_)
  obtain ⟨hj, ha⟩ := hj
  have hb : ∀ j, j < l.length → (rdyAt l i d j = true → ∀ k, k < j + 1 → (∀ k, k < j → rdyAt l i d k = true) → rdyAt l i d k = true) := fun j _ h k hk ha => by
    rcases Nat.lt_or_ge k j with h1 | h1
    · exact ha k h1
    · rw [show k = j by omega]; exact h
  by_cases c : j < l.length
  · have cb := a_before l[j] l[i]
    have ci := hin j c
    have e1 := atC_get c
    have e2 := atC_get hi
    by_cases h1 : j = i
    · have hr : rdyAt l i d j = true := by unfold rdyAt; rw [decide_eq_true h1]; rfl
      have g1 : ¬ ((j : Nat) : Int) ≠ (i : Nat) := by omega
      refine wW ?_
      refine ⟨j + 1, ⟨c, fun k hk => hb j c hr k hk ha⟩, by omega, ?_⟩
      (refine Go2.sub ⟨?_, ?_, ?_⟩ <;> repeat' (first | exact True.intro | rfl | apply And.intro))
    · have g1 : ((j : Nat) : Int) ≠ (i : Nat) := by omega
      cases hbf : before l[j] l[i]
      · rw [hbf] at cb
        have hr : rdyAt l i d j = true := by unfold rdyAt; rw [← e1, ← e2, hbf]; simp
        have cb1 := acall Try.func49 (cb) (by decide +kernel) (by decide +kernel)
        refine wW ?_
        refine ⟨j + 1, ⟨c, fun k hk => hb j c hr k hk ha⟩, by omega, ?_⟩
        (refine Go2.sub ⟨?_, ?_, ?_⟩ <;> repeat' (first | exact True.intro | rfl | apply And.intro))
      · rw [hbf] at cb
        cases hd : d j
        · rw [hd] at ci
          have hr : rdy l i d = false := by unfold rdy; refine all_not c ?_; unfold rdyAt; rw [← e1, ← e2, hbf, hd, decide_eq_false h1]; rfl
          rw [hr]
          have cb1 := acall Try.func49 (cb) (by decide +kernel) (by decide +kernel)
          refine wW ?_
          exact fin ⟨res_of rfl rfl rfl, trivial⟩
        · rw [hd] at ci
          have hr : rdyAt l i d j = true := by unfold rdyAt; rw [hd]; simp
          have cb1 := acall Try.func49 (cb) (by decide +kernel) (by decide +kernel)
          refine wW ?_
          refine ⟨j + 1, ⟨c, fun k hk => hb j c hr k hk ha⟩, by omega, ?_⟩
          (refine Go2.sub ⟨?_, ?_, ?_⟩ <;> repeat' (first | exact True.intro | rfl | apply And.intro))
  · have hr : rdy l i d = true := all_upto fun k hk => ha k (by omega)
    rw [hr]
    refine wW ?_
    exact fin ⟨res_of rfl rfl rfl, trivial⟩
set_option maxRecDepth 100000 in
set_option maxHeartbeats 4000000 in
theorem a_whole (l : List Cal) (hl : l.length ≤ 1000000000) (d : Nat → Bool) (f : FuncId) (x : AV) (hin : ∀ k, k < l.length → ACall f [intA (k : Nat), .ref x] (boolA (d k))) :
    AFn Try.prog 34 [calsA l, .fn (.func f) [] [.ref x]] (boolA (whl l d)) := by
  refine AFn_intro Try.func34 rfl Try.ntmps34 rfl (by simp) [_] rfl fun E hE => ?_; have hnt : (!true) = false := rfl; have hnf : (!false) = true := rfl
  refine wW ?_
  refine AW_loopI (fun j : Nat => ⟨[(1, .fn (.func f) [] [.ref x]), (7, calsA l), (8, intA (l.length : Nat)), (9, intA (j : Nat))], []⟩) (fun j => j ≤ l.length ∧ ∀ k, k < j → whlAt l d k = true) (fun j => l.length - j) 0 ⟨Nat.zero_le _, fun k hk => absurd hk (Nat.not_lt_zero _)⟩ (by (refine Go2.sub ⟨?_, ?_, ?_⟩ <;> repeat' (first | exact True.intro | rfl | apply And.intro))) (fun j hj => ?_)
  obtain ⟨hj, ha⟩ := hj
  have hb : ∀ j, j < l.length → (whlAt l d j = true → ∀ k, k < j + 1 → (∀ k, k < j → whlAt l d k = true) → whlAt l d k = true) := fun j _ h k hk ha => by
    rcases Nat.lt_or_ge k j with h1 | h1
    · exact ha k h1
    · rw [show k = j by omega]; exact h
  by_cases c : j < l.length
  · have ci := hin j c
    have e1 := atC_get c
    by_cases h1 : 0 ≤ l[j].to
    · cases hd : d j
      · rw [hd] at ci
        have hr : whl l d = false := by unfold whl; refine all_not c ?_; unfold whlAt; rw [← e1, hd, decide_eq_false (by omega)]; rfl
        rw [hr]
        refine wW ?_
        exact fin ⟨res_of rfl rfl rfl, trivial⟩
      · rw [hd] at ci
        have hr : whlAt l d j = true := by unfold whlAt; rw [hd]; simp
        refine wW ?_
        refine ⟨j + 1, ⟨c, fun k hk => hb j c hr k hk ha⟩, by omega, ?_⟩
        (refine Go2.sub ⟨?_, ?_, ?_⟩ <;> repeat' (first | exact True.intro | rfl | apply And.intro))
    · have hr : whlAt l d j = true := by unfold whlAt; rw [← e1, decide_eq_true (by omega)]; rfl
      refine wW ?_
      refine ⟨j + 1, ⟨c, fun k hk => hb j c hr k hk ha⟩, by omega, ?_⟩
      (refine Go2.sub ⟨?_, ?_, ?_⟩ <;> repeat' (first | exact True.intro | rfl | apply And.intro))
  · have hr : whl l d = true := all_upto fun k hk => ha k (by omega)
    rw [hr]
    refine wW ?_
    exact fin ⟨res_of rfl rfl rfl, trivial⟩
set_option maxRecDepth 100000 in
set_option maxHeartbeats 4000000 in
theorem a_do (m : List Ent) (c : Cal) (h : Lf m) (hl : m.length ≤ 1000000000) : AFn Try.prog 33 [entsA m, c.av] (.tup [entsA (doC m c).1, boolA (doC m c).2]) := by
  obtain ⟨c1, c2, o, c4, c5, a⟩ := c
  have cm := a_mdo m o h hl
  have cl := a_histlarge o
  unfold doC
  dsimp only
  generalize hM : mdDo m o = R at *
  obtain ⟨m2, a2⟩ := R
  dsimp only at cm ⊢
  by_cases h1 : c5 < 0
  · rw [if_pos h1]
    refine AFn_intro Try.func33 rfl Try.ntmps33 rfl (by simp) [_, _] rfl fun E hE => ?_
    have d1 := acall Try.func50 (cm) (by decide +kernel) (by decide +kernel)
    have hnt : (!true) = false := rfl
    have hnf : (!false) = true := rfl
    refine wW ?_
    exact fin ⟨res_sl rfl, res_of rfl rfl rfl, trivial⟩
  rw [if_neg h1]
  obtain ⟨a0, af, av⟩ := a
  dsimp only at *
  by_cases h2 : a0 = 3
  · rw [if_pos h2]
    refine AFn_intro Try.func33 rfl Try.ntmps33 rfl (by simp) [_, _] rfl fun E hE => ?_
    have d1 := acall Try.func50 (cm) (by decide +kernel) (by decide +kernel)
    have hnt : (!true) = false := rfl
    have hnf : (!false) = true := rfl
    refine wW ?_
    exact fin ⟨res_sl rfl, res_of rfl rfl rfl, trivial⟩
  rw [if_neg h2]
  by_cases h3 : a0 = 2
  · rw [if_pos h3]
    refine AFn_intro Try.func33 rfl Try.ntmps33 rfl (by simp) [_, _] rfl fun E hE => ?_
    have d1 := acall Try.func50 (cm) (by decide +kernel) (by decide +kernel)
    have d2 := acall Try.func51 (cl) (by decide +kernel) (by decide +kernel)
    have hnt : (!true) = false := rfl
    have hnf : (!false) = true := rfl
    refine wW ?_
    exact fin ⟨res_sl rfl, res_of rfl rfl rfl, trivial⟩
  rw [if_neg h3]
  refine AFn_intro Try.func33 rfl Try.ntmps33 rfl (by simp) [_, _] rfl fun E hE => ?_
  have d1 := acall Try.func50 (cm) (by decide +kernel) (by decide +kernel)
  have hnt : (!true) = false := rfl
  have hnf : (!false) = true := rfl
  refine wW ?_
  exact fin ⟨res_sl rfl, res_of rfl rfl rfl, trivial⟩
theorem idx_none {l : List Int} {x : Int} (h : ∀ k, k < l.length → l[k]? ≠ some x) : ¬ x ∈ l := fun hm => by
  obtain ⟨k, hk, e⟩ := List.getElem_of_mem hm
  exact h k hk (by rw [List.getElem?_eq_getElem hk, e])
set_option maxRecDepth 100000 in
set_option maxHeartbeats 4000000 in
theorem a_indexI (l : List Int) (x : Int) (hl : l.length ≤ 1000000000) : ∃ r : Int, (0 ≤ r ↔ x ∈ l) ∧ AFn Try.prog 48 [intsA l, intA x] (intA r) := by
  by_cases hm : x ∈ l
  · obtain ⟨k0, hk0, e0, hlt⟩ : ∃ k, ∃ h : k < l.length, l[k] = x ∧ ∀ j, j < k → l[j]? ≠ some x := by
      induction l with
      | nil => cases hm
      | cons y l ih =>
        by_cases c : y = x
        · exact ⟨0, by simp, c, fun j hj => absurd hj (Nat.not_lt_zero _)⟩
        · have hm' : x ∈ l := by simpa [Ne.symm c] using hm
          obtain ⟨k, h1, h2, h3⟩ := ih (by simp at hl; omega) hm'
          refine ⟨k + 1, by simp; omega, by simpa using h2, fun j hj => ?_⟩
          cases j with
          | zero => simpa using c
          | succ j => simpa using h3 j (by omega)
    refine ⟨(k0 : Nat), by simp [hm], ?_⟩
    refine AFn_intro Try.func48 rfl Try.ntmps48 rfl (by simp) [_] rfl fun E hE => ?_; have hnt : (!true) = false := rfl; have hnf : (!false) = true := rfl
    refine wW ?_
    refine AW_loopI (fun j : Nat => ⟨[(0, intsA l), (1, intA x), (6, intsA l), (7, intA (l.length : Nat)), (8, intA (j : Nat))], []⟩) (fun j => j ≤ k0) (fun j => l.length - j) 0 (Nat.zero_le _) (by (refine Go2.sub ⟨?_, ?_, ?_⟩ <;> repeat' (first | exact True.intro | rfl | apply And.intro))) (fun j hj => ?_)
    have c : j < l.length := by omega
    by_cases q : j = k0
    · subst q
      have g : x = l[j] := e0.symm
      refine wW ?_
      exact fin ⟨res_of rfl rfl rfl, trivial⟩
    · have g : ¬ x = l[j] := fun e => hlt j (by omega) (by rw [List.getElem?_eq_getElem c, e])
      refine wW ?_
      refine ⟨j + 1, by omega, by omega, ?_⟩
      (refine Go2.sub ⟨?_, ?_, ?_⟩ <;> repeat' (first | exact True.intro | rfl | apply And.intro))
  · refine ⟨-1, by simp [hm], ?_⟩
    refine AFn_intro Try.func48 rfl Try.ntmps48 rfl (by simp) [_] rfl fun E hE => ?_; have hnt : (!true) = false := rfl; have hnf : (!false) = true := rfl
    refine wW ?_
    refine AW_loopI (fun j : Nat => ⟨[(0, intsA l), (1, intA x), (6, intsA l), (7, intA (l.length : Nat)), (8, intA (j : Nat))], []⟩) (fun j => j ≤ l.length) (fun j => l.length - j) 0 (Nat.zero_le _) (by (refine Go2.sub ⟨?_, ?_, ?_⟩ <;> repeat' (first | exact True.intro | rfl | apply And.intro))) (fun j hj => ?_)
    by_cases c : j < l.length
    · have g : ¬ x = l[j] := fun e => hm (e ▸ List.getElem_mem c)
      refine wW ?_
      refine ⟨j + 1, by omega, by omega, ?_⟩
      (refine Go2.sub ⟨?_, ?_, ?_⟩ <;> repeat' (first | exact True.intro | rfl | apply And.intro))
    · refine wW ?_
      exact fin ⟨res_of rfl rfl rfl, trivial⟩
set_option maxRecDepth 100000 in
set_option maxHeartbeats 4000000 in
theorem a_contains (l : List Int) (x : Int) (hl : l.length ≤ 1000000000) : AFn Try.prog 31 [intsA l, intA x] (boolA (decide (x ∈ l))) := by
  obtain ⟨r, h1, h2⟩ := a_indexI l x hl
  have e : decide (x ∈ l) = decide (0 ≤ r) := by rw [decide_eq_decide]; exact h1.symm
  rw [e]
  refine AFn_intro Try.func31 rfl Try.ntmps31 rfl (by simp) [_] rfl fun E hE => ?_; have hnt : (!true) = false := rfl; have hnf : (!false) = true := rfl
  have d1 := acall Try.func48 (h2) (by decide +kernel) (by decide +kernel)
  refine wW ?_
  exact fin ⟨res_of rfl rfl rfl, trivial⟩
end Go.Proofs.Ytphojngdgmnpaaa

namespace Go.Proofs.Ytphojngdgmnpaaa
open Go Go.RowKit
set_option linter.unusedVariables false
set_option linter.unusedSimpArgs false
set_option maxRecDepth 100000
theorem eqnil_ints (w : World) (A : Option Addr) (n c n' c' : Nat) : (binOp .eql 22 (.slice A n c) (.slice none n' c')).run Try.prog w = .ok (.bool A.isNone) w := Lib.run_eql_slice_nil w _ _ A n c n' c' Try.underlying22
set_option maxRecDepth 100000 in
set_option maxHeartbeats 4000000 in
theorem clone_raw (A : Option Addr) (cap : Nat) (hc : cap ≤ maxLen) (w : World) : Calls Try.prog 46 #[.slice A 0 cap] w (fun e w' => ∃ A' cap', e = .returned (.slice A' 0 cap') ∧ cap' ≤ maxLen ∧ Ext w w') := by
  cases A with
  | none =>
    have q := eqnil_ints
    go_enter Try.func46, Try.ntmps46
    go_wp2
    go_ret
    exact ⟨none, 0, rfl, Nat.zero_le _, (by repeat (first | exact Ext.refl _ | assumption | refine Ext.drew ?_ | refine Ext.drewN ?_ _ | refine Ext.alloc ?_ _ | refine Ext.trans ?_ (by assumption)))⟩
  | some a =>
    have q := eqnil_ints
    go_enter Try.func46, Try.ntmps46
    go_wp2
    go_ret
    exact ⟨_, 0, rfl, Nat.zero_le _, (by repeat (first | exact Ext.refl _ | assumption | refine Ext.drew ?_ | refine Ext.drewN ?_ _ | refine Ext.alloc ?_ _ | refine Ext.trans ?_ (by assumption)))⟩
section
variable {E : Env} {nt : Nat} {ops : Array Oper} {T : Nat → Option AV} {H : Hp} {d : Option Nat} {ty : TypeId} {pos : String} {af : Array Edge} {gd : Option (Nat × Bool)}
/-- a slice of some elements is not nil -/
theorem ok_eqnil {t t' e : TypeId} {es bytes : Nat} {ea : Bool} {x y : Operand} {tok : Option Nat} {n : Nat} {xs : List AV} (hs : tabT.ti t = some (.sl e es bytes ea)) (hd : dOk nt d = true) (hx : evalO T x = some (.sl tok n xs)) (hy : evalO T y = some (.v (.slice none 0 0))) (h0 : 0 < xs.length) : OpOK Try.prog E nt ops ⟨d, .binOp .eql t x y t', ty, pos, af, gd⟩ T H [] ⟨boolA false, []⟩ :=
  ok_val hd fun B T' H' a w r ht hh => by
    have h := Rdv_one (by simp) (r.eval ((ht x (by simp [Op.operands])).trans hx)) rfl
    have h2 := r.evalv ((ht y (by simp [Op.operands])).trans hy)
    simp only [Rd] at h
    obtain ⟨A, cap, h1, k2, k3, k4, _⟩ := h
    injection h1 with h1
    obtain ⟨b, off, c, rfl, _⟩ := k4 h0
    have hu := (tabT.ok t _ hs).2.1
    refine ⟨.bool false, ?_, by rw [boolA, Rdv_v]; exact ⟨rfl, rfl⟩⟩
    have hr := Lib.run_eql_slice_nil (P := Try.prog) w t e (some ⟨b, off, none⟩) xs.length cap 0 0 hu
    simp [execOp, h1, h2, eqGuard, hr]
end
theorem a_clone0 : AFn Try.prog 46 [intsA []] (intsA []) := by
  intro U w vs hr
  simp only [Rdp, intsA, List.map_nil] at hr
  obtain ⟨c, vs', rfl, h1, rfl⟩ := hr
  simp only [Rd] at h1
  obtain ⟨A, cap, rfl, _, h3, _, _⟩ := h1
  refine (clone_raw A cap h3 w).mono ?_
  rintro e w' ⟨A', cap', rfl, k1, k2⟩
  refine ⟨_, rfl, ?_, k2⟩
  rw [Rdv_not (by simp [intsA])]
  refine ⟨[.slice A' 0 cap'], ?_, rfl⟩
  simp only [intsA, List.map_nil, Rd]
  exact ⟨A', cap', rfl, Nat.zero_le _, k1, fun h => absurd h (by simp), fun t ht => by cases ht⟩
attribute [local irreducible] OpOK AWops AW CondB Go2 AFn thenA inBlockA noGotoA orderOk wantedA
set_option maxRecDepth 100000 in
set_option maxHeartbeats 4000000 in
theorem a_clone (l : List Int) (hl : l.length ≤ 1000000000) : AFn Try.prog 46 [intsA l] (intsA l) := by
  by_cases h0 : l = []
  · subst h0; exact a_clone0
  · have hp : 0 < l.length := List.length_pos_iff.2 h0
    refine AFn_intro Try.func46 rfl Try.ntmps46 rfl (by simp) [_] rfl fun E hE => ?_; have hnt : (!true) = false := rfl; have hnf : (!false) = true := rfl
    refine wW ?_
    (apply Wv; (focus (exact ok_eqnil rfl rfl rfl rfl (by rw [List.length_map]; exact hp))); (focus (first | exact want_n | exact want_g rfl (by with_reducible rfl))))
    refine wW ?_
    exact fin ⟨res_sl rfl, trivial⟩
end Go.Proofs.Ytphojngdgmnpaaa

namespace Go.Proofs.Ytphojngdgmnpaaa
open Go Go.RowKit
set_option linter.unusedVariables false
set_option linter.unusedSimpArgs false
set_option maxRecDepth 100000

/-! ### the map itself -/
section
variable {K : Type}
def mEnts (f : K → Value) : Nat → List K → List MapEntry
  | _, [] => []
  | i, k :: ks => ⟨f k, .bool true, i⟩ :: mEnts f (i + 1) ks
def mObj (f : K → Value) (ks : List K) : Obj := .map (mEnts f 0 ks).toArray ks.length
theorem mEnts_snoc (f : K → Value) (x : K) : ∀ (ks : List K) (i : Nat), mEnts f i (ks ++ [x]) = mEnts f i ks ++ [⟨f x, .bool true, i + ks.length⟩]
  | [], i => by simp [mEnts]
  | k :: ks, i => by
    simp only [List.cons_append, mEnts, mEnts_snoc f x ks (i + 1), List.length_cons]
    rw [show i + 1 + ks.length = i + (ks.length + 1) by omega]
theorem mEnts_mem {f : K → Value} {e : MapEntry} : ∀ {ks : List K} {i : Nat}, e ∈ mEnts f i ks → ∃ k ∈ ks, e.key = f k ∧ e.val = .bool true
  | [], i, h => by simp [mEnts] at h
  | k :: ks, i, h => by
    simp only [mEnts, List.mem_cons] at h
    rcases h with rfl | h
    · exact ⟨k, by simp, rfl, rfl⟩
    · obtain ⟨k', h1, h2⟩ := mEnts_mem h
      exact ⟨k', by simp [h1], h2⟩
theorem mEnts_has {f : K → Value} {k : K} : ∀ {ks : List K} {i : Nat}, k ∈ ks → ∃ e ∈ mEnts f i ks, e.key = f k
  | [], i, h => by cases h
  | k' :: ks, i, h => by
    simp only [List.mem_cons] at h
    rcases h with rfl | h
    · exact ⟨⟨f k, .bool true, i⟩, by simp only [mEnts, List.mem_cons, true_or], rfl⟩
    · obtain ⟨e, h1, h2⟩ := mEnts_has (i := i + 1) h
      exact ⟨e, by simp only [mEnts, List.mem_cons, h1, or_true], h2⟩
variable {P : Program} {kt et t : TypeId} {w : World} {b : Nat} {ks : List K} {x : K} {f : K → Value}
theorem set_find (law : WideMaps.KeyLaw P kt) (hinj : ∀ k ∈ ks, f k = f x → k = x) (hks : ∀ k ∈ ks, ∃ l, Go.keyOf P kt (f k) = some l) (hx : ∃ l, Go.keyOf P kt (f x) = some l) (w : World) :
    (x ∉ ks ∧ (Instr.findKey kt (f x) (mEnts f 0 ks)).run P w = .ok none w) ∨ (x ∈ ks ∧ ∃ i, (Instr.findKey kt (f x) (mEnts f 0 ks)).run P w = .ok (some (i, .bool true)) w) := by
  obtain ⟨lx, hx⟩ := hx
  rcases law.find w hx (mEnts f 0 ks) (fun e he => by obtain ⟨k, h1, h2, _⟩ := mEnts_mem he; rw [h2]; exact hks k h1) with ⟨h1, h2⟩ | ⟨j, e, h1, h2, h3⟩
  · refine .inl ⟨fun hm => ?_, h1⟩
    obtain ⟨e, h3, h4⟩ := mEnts_has (f := f) (i := 0) hm
    exact h2 e h3 h4
  · have hm := List.mem_of_getElem? h2
    obtain ⟨k, k1, k2, k3⟩ := mEnts_mem hm
    rw [k3] at h1
    have : k = x := hinj _ k1 (k2.symm.trans h3)
    subst this
    exact .inr ⟨k1, j, h1⟩
theorem run_setLook [DecidableEq K] (ht : P.underlying t = some (.map kt et)) (hz : ∀ w, (zeroValue et).run P w = .ok (.bool false) w) (law : WideMaps.KeyLaw P kt) (hinj : ∀ k ∈ ks, f k = f x → k = x) (hks : ∀ k ∈ ks, ∃ l, Go.keyOf P kt (f k) = some l) (hx : ∃ l, Go.keyOf P kt (f x) = some l) (hb : w.heap[b]? = some (mObj f ks)) :
    (Instr.lookup t (.map (some b)) (f x) false).run P w = .ok (.bool (decide (x ∈ ks))) w := by
  have hg : (getObj b).run P w = .ok (.map (mEnts f 0 ks).toArray ks.length) w := by simp [getObj, Sem.run, hb, mObj]
  obtain ⟨lx, hx'⟩ := hx
  have hc := fun em => law.check w em hx'
  unfold Instr.lookup
  simp only [Sem.run_bind, run_underlying ht, Result.andThen_ok, hg, Sem.run_pure, hc]
  rcases set_find law hinj hks ⟨lx, hx'⟩ w with ⟨h1, h2⟩ | ⟨h1, i, h2⟩
  · rw [h2, decide_eq_false h1]
    simp [hz]
  · rw [h2, decide_eq_true h1]
    simp
theorem run_setPut (ht : P.underlying t = some (.map kt et)) (law : WideMaps.KeyLaw P kt) (hinj : ∀ k ∈ ks, f k = f x → k = x) (hks : ∀ k ∈ ks, ∃ l, Go.keyOf P kt (f k) = some l) (hx : ∃ l, Go.keyOf P kt (f x) = some l) (hb : w.heap[b]? = some (mObj f ks)) (hn : x ∉ ks) :
    (Instr.mapUpdate t (.map (some b)) (f x) (.bool true)).run P w = .ok () { w with heap := w.heap.setIfInBounds b (mObj f (ks ++ [x])) } := by
  have hg : (getObj b).run P w = .ok (.map (mEnts f 0 ks).toArray ks.length) w := by simp [getObj, Sem.run, hb, mObj]
  have hs : (setObj b (mObj f (ks ++ [x]))).run P w = .ok () { w with heap := w.heap.setIfInBounds b (mObj f (ks ++ [x])) } := by simp [setObj, Sem.run, hb, mObj]
  obtain ⟨lx, hx'⟩ := hx
  have hc := fun em => law.check w em hx'
  unfold Instr.mapUpdate
  simp only [Sem.run_bind, run_underlying ht, Result.andThen_ok, hg, hc]
  rcases set_find law hinj hks ⟨lx, hx'⟩ w with ⟨h1, h2⟩ | ⟨h1, _⟩
  · rw [h2]
    have e : mObj f (ks ++ [x]) = .map ((mEnts f 0 ks).toArray.push ⟨f x, .bool true, ks.length⟩) (ks.length + 1) := by
      unfold mObj; rw [mEnts_snoc]; simp
    rw [e] at hs ⊢
    simpa using hs
  · exact absurd h1 hn
end
/-! ### the beginning put anew -/
def Env.put (E : Env) (b : Nat) (o : Obj) : Env := { E with w0 := { E.w0 with heap := E.w0.heap.setIfInBounds b o } }
theorem Env.put_size (E : Env) (b : Nat) (o : Obj) : (E.put b o).w0.heap.size = E.w0.heap.size := by simp [Env.put]
theorem Env.put_ent (E : Env) (b : Nat) (o : Obj) (k : Nat) : (E.put b o).ent k ↔ E.ent k := Iff.rfl
theorem Env.put_put (E : Env) (b : Nat) (o o' : Obj) : (E.put b o).put b o' = E.put b o' := by
  simp [Env.put]
theorem unst_put (E : Env) (b : Nat) (o : Obj) (B : Blk) (H : Hp) : unst (E.put b o) B H = unst E B H := by
  funext k q
  unfold unst
  rw [Env.put_size]; rfl
def isMapO : Obj → Bool
  | .map _ _ => true
  | _ => false
def World.putO (w : World) (b : Nat) (o : Obj) : World := { w with heap := w.heap.setIfInBounds b o }
section
variable {E : Env} {nt : Nat} {B : Blk} {T : Nat → Option AV} {H : Hp} {a : Act} {w : World} {b : Nat} {o o' : Obj}
theorem putO_cells {k : Nat} {cs : Array Value} {t : TypeId} {fr : Nat × Nat} (hm : w.heap[b]? = some o) (ho : isMapO o = true) (h : w.heap[k]? = some (.cells cs t fr)) : (World.putO w b o').heap[k]? = some (.cells cs t fr) := by
  have : b ≠ k := fun e => by subst e; rw [hm] at h; injection h with h; subst h; cases ho
  simp only [World.putO, Array.getElem?_setIfInBounds, if_neg this]; exact h
theorem evo_putO (U : Uns) (hm : w.heap[b]? = some o) (ho : isMapO o = true) : Evo U w (World.putO w b o') :=
  ⟨by simp [World.putO], fun k cs t fr h => ⟨cs, putO_cells hm ho h, rfl, fun _ _ => rfl⟩⟩
theorem pic_putO (hm : w.heap[b]? = some o) (ho : isMapO o = true) : Pic w (World.putO w b o') B B H H :=
  ⟨fun _ _ _ h => h, fun _ h => h, fun t n len A cap h => by
    obtain ⟨ty, k, h1, h2, h3⟩ := h
    refine ⟨ty, k, h1, h2, fun hk => ⟨(h3 hk).1, fun q hq => ?_⟩⟩
    obtain ⟨h4, cur, h5, h6⟩ := (h3 hk).2 q hq
    exact ⟨h4, cur, putO_cells hm ho h5, h6⟩, ownPic (evo_putO (fun _ _ => False) hm ho) (fun _ _ _ _ h => ⟨h, rfl⟩)⟩
/-- a map is written: the walk goes on as from a beginning where it was so -/
theorem Rel.putO (r : Rel E nt B T H a w) (hlt : b < E.w0.heap.size) (hn : ¬ E.ent b) (hm : w.heap[b]? = some o) (ho : isMapO o = true) (ho' : isMapO o' = true) : Rel (E.put b o') nt B T H a (World.putO w b o') := by
  have hev : ∀ U, Evo U w (World.putO w b o') := fun U => evo_putO U hm ho
  have hp : Pic w (World.putO w b o') B B H H := pic_putO hm ho
  have hU : ∀ k q, k < w.heap.size → unst E B H k q → unst E B H k q := fun _ _ _ h => h
  have hsz : w.heap[b]? = E.w0.heap[b]? := r.left.block b hlt hn
  refine ⟨r.nt, r.df, fun s x hs => ?_, fun g bx h => ?_, r.non, r.inj, ⟨r.left.os, r.left.tape, r.left.output, ?_, fun k hk he => ?_, ?_⟩, r.keep⟩
  · obtain ⟨v, h1, h2⟩ := r.tmp s x hs
    rw [unst_put]
    exact ⟨v, h1, Rdv_go (hev _) hU hp h2⟩
  · have hb := r.box g bx h
    have mine : ∀ q o0, Mine E q o0 → Mine (E.put b o') q o0 := fun q o0 h => by
      unfold Mine at h ⊢
      rw [Env.put_size]; exact h
    cases bx with
    | var x =>
      obtain ⟨q, cs, t, h1, h2, h3, h4, h5⟩ := hb
      exact ⟨q, cs, t, h1, putO_cells hm ho h2, by rw [unst_put]; exact Rd_go (hev _) hU x hp h3, mine _ _ h4, h5⟩
    | froz x =>
      obtain ⟨q, cs, h1, h2, h3, h4⟩ := hb
      refine ⟨q, cs, h1, (hev (unst E B H)).row h2 h3, by rw [unst_put]; exact h3, by rw [unst_put]; exact Rd_go (hev _) hU x hp h4⟩
    | tail e n k =>
      obtain ⟨h0, hT, h1⟩ := hb
      refine ⟨h0, hT, h1.imp id ?_⟩
      rintro ⟨q, cur, cap, k1, k2, k3, k4, k5, k6⟩
      exact ⟨q, cur, cap, k1, putO_cells hm ho k2, k3, k4, k5, mine _ _ k6⟩
    | own e n xs =>
      obtain ⟨h0, hT, h1⟩ := hb
      refine ⟨h0, hT, h1.imp id ?_⟩
      rintro ⟨q, cur, cap, c, k1, k2, k3, k4, k5, k6, k7, k8⟩
      exact ⟨q, cur, cap, c, k1, putO_cells hm ho k2, k3, k4, k5, k6, by rw [unst_put]; exact Rdu_go (hev _) hU n xs (Pic.refl0 _ _) k7, mine _ _ k8⟩
  · rw [Env.put_size]; simpa [World.putO] using r.left.size
  · rw [Env.put_size] at hk
    simp only [World.putO, Env.put, Array.getElem?_setIfInBounds]
    have hws := r.left.size
    by_cases c : b = k
    · subst c
      rw [if_pos rfl, if_pos rfl, if_pos (by omega), if_pos hlt]
    · rw [if_neg c, if_neg c]
      exact r.left.block k hk he
  · refine ⟨by rw [Env.put_size]; simpa [World.putO] using r.left.size, fun k cs t fr h => ?_⟩
    have hkb : b ≠ k := fun e => by
      subst e
      simp only [Env.put, Array.getElem?_setIfInBounds, if_pos rfl, if_pos hlt] at h
      injection h with h
      subst h; cases ho'
    have h' : E.w0.heap[k]? = some (.cells cs t fr) := by
      simp only [Env.put, Array.getElem?_setIfInBounds, if_neg hkb] at h; exact h
    obtain ⟨cs', h1, h2, h3⟩ := r.left.evo.cell k cs t fr h'
    exact ⟨cs', by simp only [World.putO, Array.getElem?_setIfInBounds, if_neg hkb]; exact h1, h2, h3⟩
end
/-! ### walks on whose way the map is written -/
def AWM (P : Program) (E : Env) (b nt : Nat) (c : Code) (o : Obj) (S : St) (Q : Exit → Obj → St → Prop) : Prop :=
  ∀ B a w, Rel (E.put b o) nt B S.t S.h a w → c.wp P (fun e a' w' => ∃ o' B' S', Rel (E.put b o') nt B' S'.t S'.h a' w' ∧ Q e o' S') a w
def thenM (K : Obj → St → Prop) (Q : Exit → Obj → St → Prop) : Exit → Obj → St → Prop
  | .normal, o, S => K o S
  | .outgrown, _, _ => False
  | e, o, S => Q e o S
def inBlockM (id : Nat) (Q : Exit → Obj → St → Prop) : Exit → Obj → St → Prop
  | .exit id', o, S => if id' = id then Q .normal o S else Q (.exit id') o S
  | e, o, S => Q e o S
def noGotoM (Q : Exit → Obj → St → Prop) : Exit → Obj → St → Prop
  | .goto _, _, _ => False
  | e, o, S => Q e o S
section
variable {P : Program} {E : Env} {b nt : Nat} {o : Obj} {S : St} {Q : Exit → Obj → St → Prop}
theorem AWM_of {c : Code} (h : AW P (E.put b o) nt c S (fun e S' => Q e o S')) : AWM P E b nt c o S Q := fun B a w r =>
  wp_mono (h B a w r) fun e a w ⟨B', S', h1, h2⟩ => ⟨o, B', S', h1, h2⟩
theorem AWM_seq {x y : Code} (h : AWM P E b nt x o S (thenM (fun o' S' => AWM P E b nt y o' S' Q) Q)) : AWM P E b nt (.seq x y) o S Q := fun B a w r =>
  wp_seq (wp_mono (h B a w r) fun e a w ⟨o', B', S', h1, h2⟩ => by
    cases e with
    | normal => exact h2 B' a w h1
    | outgrown => exact h2.elim
    | exit id => exact ⟨o', B', S', h1, h2⟩
    | goto l => exact ⟨o', B', S', h1, h2⟩
    | ret => exact ⟨o', B', S', h1, h2⟩
    | panic c => exact ⟨o', B', S', h1, h2⟩)
/-- the first part writes no map -/
theorem AWM_seqA {x y : Code} (h : AW P (E.put b o) nt x S (thenA (fun S' => AWM P E b nt y o S' Q) (fun e S' => Q e o S'))) : AWM P E b nt (.seq x y) o S Q :=
  AWM_seq (AWM_of (h.mono fun e S' hq => by cases e <;> exact hq))
theorem AWM_block {id : Nat} {c : Code} (h : AWM P E b nt c o S (inBlockM id Q)) : AWM P E b nt (.block id c) o S Q := fun B a w r =>
  wp_block (wp_mono (h B a w r) fun e a w ⟨o', B', S', h1, h2⟩ => by
    cases e with
    | exit id' =>
      simp only [inBlockM] at h2
      simp only [Exit.inBlock]
      split
      · rename_i he; rw [if_pos he] at h2; exact ⟨o', B', S', h1, h2⟩
      · rename_i he; rw [if_neg he] at h2; exact ⟨o', B', S', h1, h2⟩
    | normal => exact ⟨o', B', S', h1, h2⟩
    | outgrown => exact ⟨o', B', S', h1, h2⟩
    | goto l => exact ⟨o', B', S', h1, h2⟩
    | ret => exact ⟨o', B', S', h1, h2⟩
    | panic c => exact ⟨o', B', S', h1, h2⟩)
theorem AWM_scope {c : Code} (h : AWM P E b nt c o S (noGotoM Q)) : AWM P E b nt (.scope c) o S Q := fun B a w r =>
  wp_scope_straight (wp_mono (h B a w r) fun e a w ⟨o', B', S', h1, h2⟩ => by
    cases e with
    | goto l => exact h2.elim
    | normal => exact ⟨o', B', S', h1, h2⟩
    | outgrown => exact ⟨o', B', S', h1, h2⟩
    | exit l => exact ⟨o', B', S', h1, h2⟩
    | ret => exact ⟨o', B', S', h1, h2⟩
    | panic c => exact ⟨o', B', S', h1, h2⟩)
theorem AWM_cond {c : Operand} {x y : Code} (v : Bool) (hc : evalO S.t c = some (.v (.bool v))) (h1 : v = true → AWM P E b nt x o S Q) (h2 : v = false → AWM P E b nt y o S Q) : AWM P E b nt (.cond c x y) o S Q := fun B a w r =>
  wp_cond_split (r.evalv hc) (fun hb => h1 hb B a w r) (fun hb => h2 hb B a w r)
theorem AWM_go {c : Code} {S' : St} (h : Go2 (E.put b o) nt S S') (k : AWM P E b nt c o S' Q) : AWM P E b nt c o S Q := fun B a w r => by
  obtain ⟨B', r'⟩ := h B a w r
  exact k B' a w r'
theorem AWM_loop {c : Code} {ι : Type} (I : ι → Obj × St) (J : ι → Prop) (μ : ι → Nat) (h0 : ∃ i, J i ∧ o = (I i).1 ∧ ∀ B a w, Rel (E.put b o) nt B S.t S.h a w → Rel (E.put b o) nt B (I i).2.t (I i).2.h a w)
    (round : ∀ i, J i → AWM P E b nt c (I i).1 (I i).2 (thenM (fun o' S' => ∃ j, J j ∧ μ j < μ i ∧ o' = (I j).1 ∧ ∀ B a w, Rel (E.put b o') nt B S'.t S'.h a w → Rel (E.put b o') nt B (I j).2.t (I j).2.h a w) Q)) : AWM P E b nt (.loop c) o S Q := by
  intro B a w r
  obtain ⟨i0, j0, e0, s0⟩ := h0
  have key : ∀ n i, μ i = n → J i → ∀ B a w, Rel (E.put b (I i).1) nt B (I i).2.t (I i).2.h a w → ∀ (fr : Frame) (k : List Item) (cs : List Frame),
      ∃ e a' w', (∃ o' B' S', Rel (E.put b o') nt B' S'.t S'.h a' w' ∧ Q e o' S') ∧ Arrives P (lone (fr.at a (.code c :: .inLoop c :: k)) cs w) fr k cs e a' w' := by
    intro n
    induction n using Nat.strongRecOn with
    | _ n ih =>
      intro i hn hJ B a w r fr k cs
      obtain ⟨e, a₁, w₁, ⟨o₁, B₁, S₁, r₁, hq⟩, harr⟩ := round i hJ B a w r fr (.inLoop c :: k) cs
      cases e with
      | normal =>
        obtain ⟨j, hJj, hlt, ho, hsub⟩ := hq
        have r2 := hsub _ _ _ r₁
        rw [ho] at r2
        obtain ⟨e₂, a₂, w₂, hq₂, harr₂⟩ := ih (μ j) (hn ▸ hlt) j rfl hJj B₁ a₁ w₁ r2 fr k cs
        exact ⟨e₂, a₂, w₂, hq₂, .of_steps (Steps.trans harr (.one step_inLoop)) harr₂⟩
      | exit id => exact ⟨_, a₁, w₁, ⟨o₁, B₁, S₁, r₁, hq⟩, .pass (x := .inLoop c) rfl (fun _ _ => .inl (by simp)) harr⟩
      | goto l => exact ⟨_, a₁, w₁, ⟨o₁, B₁, S₁, r₁, hq⟩, .pass (x := .inLoop c) rfl (fun _ _ => .inl (by simp)) harr⟩
      | ret => exact ⟨_, a₁, w₁, ⟨o₁, B₁, S₁, r₁, hq⟩, .pass (x := .inLoop c) rfl (fun _ _ => .inl (by simp)) harr⟩
      | panic ch => exact ⟨_, a₁, w₁, ⟨o₁, B₁, S₁, r₁, hq⟩, .pass (x := .inLoop c) rfl (fun _ _ => .inl (by simp)) harr⟩
      | outgrown => exact hq.elim
  intro fr k cs
  have r0 := s0 _ _ _ r
  rw [e0] at r0
  obtain ⟨e, a', w', hq, harr⟩ := key _ i0 rfl j0 B a w r0 fr k cs
  exact ⟨e, a', w', hq, .of_steps (.one step_loop) harr⟩
end
end Go.Proofs.Ytphojngdgmnpaaa

namespace Go.Proofs.Ytphojngdgmnpaaa
open Go Go.RowKit
set_option linter.unusedVariables false
set_option linter.unusedSimpArgs false
set_option maxRecDepth 100000

section
variable {P : Program} {E : Env} {nt : Nat} {ops : Array Oper} {Q : Exit → Act → World → Prop} {x : Nat → ERec} {s : Sp} {A : List Nat}
theorem fs_last {L : Nat → Bool} {n : Nat} {o : Nat → Oper} (h : L n = false) : fs o x L s (n + 1) = fs o x L s n := by simp [fs, h]
theorem wpAny_last {n : Nat} (hn : ops.size = n + 1) (good : ∀ i, i < n → GoodAt P E nt ops (opAt ops i) (x i) (fs (opAt ops) x all1 s i))
    (pre : ∀ j, j < ops.size → ∀ p ∈ preds (opAt ops j), p < j) (anc : ancOk ops.toList A = true) (free : ∀ j, j < n → ∀ i, i < j → (A.getD j 0).testBit i = true ∨ NoClash ops (opAt ops i) (x i) (opAt ops j) (x j))
    (allA : ∀ i, i < n → (A.getD n 0).testBit i = true) (hg : (opAt ops n).guard = none)
    (last : ∀ B a w, Rel E nt B (fs (opAt ops) x all1 s n).1 (fs (opAt ops) x all1 s n).2 a w → ∀ (K : Act → World → Prop) (Q' : Exit → Act → World → Prop), (∀ a' w', Q .normal a' w' → K a' w') → (opAt ops n).wp P a w K Q') :
    ∀ (fuel : Nat) (l : Array Bool) (B : Blk) (a : Act) (w : World), l.size = ops.size → listedL l n = false → Down ops (listedL l) → (List.range ops.size).countP (fun i => !listedL l i) ≤ fuel →
      Rel E nt B (fs (opAt ops) x (listedL l) s n).1 (fs (opAt ops) x (listedL l) s n).2 a w → wpAny P .any ops Q fuel l a w := by
  intro fuel
  induction fuel with
  | zero =>
    intro l B a w hs hln hd hf r
    have : 0 < (List.range ops.size).countP (fun i => !listedL l i) := List.countP_pos_iff.2 ⟨n, by simp; omega, by simp [hln]⟩
    omega
  | succ fuel ih =>
    intro l B a w hs hln hd hf r
    refine ⟨fun hr => ?_, fun i hi => ?_⟩
    · have := all_listed hs pre hr n (by omega)
      rw [hln] at this; cases this
    rw [mem_ready hs] at hi
    obtain ⟨hin, hl, hp⟩ := hi
    have ho : ops[i]? = some (opAt ops i) := by simp [opAt, hin]
    by_cases hi_n : i = n
    · subst hi_n
      have hall : ∀ j, j < i → listedL l j = true := fun j hj => anc_in anc (L := listedL l) (fun j hj => hd j (by simpa using hj)) i (by simpa using hin) j hj (allA j hj) hp
      have e : fs (opAt ops) x (listedL l) s i = fs (opAt ops) x all1 s i := fs_congr hall
      rw [e] at r
      have hready : Region.ready .any ops (l.setIfInBounds i true) = [] := by
        rw [List.eq_nil_iff_forall_not_mem]
        intro j hj
        rw [mem_ready (by simpa using hs)] at hj
        obtain ⟨h1, h2, _⟩ := hj
        rw [listed_set (by omega)] at h2
        simp only [addL] at h2
        by_cases c : j = i
        · rw [if_pos c] at h2; cases h2
        · rw [if_neg c, hall j (by omega)] at h2; cases h2
      unfold wpOp
      simp only [ho]
      have hw : Region.wanted (opAt ops i) (yielded ops a.tmps) = true := by unfold Region.wanted; rw [hg]
      rw [if_pos hw]
      refine .inl (last B a w r _ _ fun a' w' hq => ?_)
      cases fuel with
      | zero => exact ⟨hready, hq⟩
      | succ f => exact ⟨fun _ => hq, by rw [hready]; simp⟩
    have hlt : i < n := by omega
    have lo : ∀ j, j < i → listedL l j = false → NoClash ops (opAt ops j) (x j) (opAt ops i) (x i) := by
      intro j hj hjl
      rcases free i hlt j hj with h | h
      · have := anc_in anc (L := listedL l) (fun j hj => hd j (by simpa using hj)) i (by simpa using hin) j hj h hp
        rw [this] at hjl; cases hjl
      · exact h
    have hi' : ∀ j, i < j → j < n → listedL l j = true → NoClash ops (opAt ops i) (x i) (opAt ops j) (x j) := by
      intro j hj hjn hjl
      rcases free j hjn i hj with h | h
      · have := anc_in anc (L := listedL l) (fun j hj => hd j (by simpa using hj)) j (by simp; omega) i hj h (hd j (by omega) hjl)
        rw [this] at hl; cases hl
      · exact h
    have em : min n i = i := by omega
    have at_ : ∀ d ∈ (opAt ops i).looksAt ops, (fs (opAt ops) x (listedL l) s n).1 d = (fs (opAt ops) x all1 s i).1 d := by
      intro d hdm
      have := fs_t (o := opAt ops) (x := x) (s := s) (d := d) hl n (fun j h1 h2 h3 e => (lo j h1 h3).t12 d e hdm) (fun j h1 h2 h3 e => (hi' j h1 h2 h3).t21 d e hdm)
      rwa [em] at this
    have ah : ∀ g, (g ∈ (x i).rh ∨ ∃ p ∈ (x i).e.wr, p.1 = g) → (fs (opAt ops) x (listedL l) s n).2 g = (fs (opAt ops) x all1 s i).2 g := by
      intro g hg
      have := fs_h (o := opAt ops) (x := x) (s := s) (g := g) hl n
        (fun j h1 h2 h3 p hp e => by
          rcases hg with hg | ⟨q, hq, rfl⟩
          · exact (lo j h1 h3).h12 p hp (e ▸ hg)
          · exact (lo j h1 h3).hh p hp q hq e)
        (fun j h1 h2 h3 p hp e => by
          rcases hg with hg | ⟨q, hq, rfl⟩
          · exact (hi' j h1 h2 h3).h21 p hp (e ▸ hg)
          · exact (hi' j h1 h2 h3).hh q hq p hp e.symm)
      rwa [em] at this
    obtain ⟨g1, g2, g3⟩ := good i hlt
    have hadd : fs (opAt ops) x (listedL (l.setIfInBounds i true)) s n = appF (fs (opAt ops) x (listedL l) s n) (opAt ops i) (x i) := by
      rw [← fs_add hl n hlt hi', listed_set (by omega)]
    have hln' : listedL (l.setIfInBounds i true) n = false := by
      rw [listed_set (by omega)]; simp only [addL]; rw [if_neg (by omega)]; exact hln
    have hdown : Down ops (listedL (l.setIfInBounds i true)) := by
      intro j hj hjl p hpm
      rw [listed_set (by omega)] at hjl ⊢
      simp only [addL] at hjl ⊢
      split
      · rfl
      · by_cases h : j = i
        · subst h; exact hp p hpm
        · rw [if_neg h] at hjl
          exact hd j hj hjl p hpm
    have hcount : (List.range ops.size).countP (fun k => !listedL (l.setIfInBounds i true) k) ≤ fuel := by
      rw [listed_set (by omega)]
      have := cnt_lt hl ops.size hin
      omega
    unfold wpOp
    simp only [ho]
    have hw : wantedA ops (opAt ops i) (fs (opAt ops) x (listedL l) s n).1 = some (x i).want := (wantedA_congr at_).trans g1
    split
    · rename_i hwt
      rw [wanted_of r hw] at hwt
      refine .inl (g2 hwt _ _ at_ (fun g hg => ah g (.inl hg)) (fun p hp => ah p.1 (.inr ⟨p, hp, rfl⟩)) B a w r _ _ fun B' a' w' r' => ?_)
      refine ih _ B' a' w' (by simpa using hs) hln' hdown hcount ?_
      rw [hadd]
      exact r'
    · rename_i hwt
      rw [wanted_of r hw] at hwt
      obtain ⟨h1, h2⟩ := g3 (by simpa using hwt)
      refine ih _ B _ w (by simpa using hs) hln' hdown hcount ?_
      rw [hadd, appF, h2]
      exact r.undef h1
end
def orderOkL (ops : Array Oper) (rs : List Rec) : Bool :=
  let l := ops.toList
  let A := masks l []
  let n := rs.length
  decide (ops.size = n + 1) && (List.range ops.size).all (fun j => (preds (l.getD j default)).all (· < j)) && ancOk l A &&
  ((List.range n).all fun j => (List.range j).all fun i => (A.getD j 0).testBit i || !clash ops (l.getD i default) (rs.getD i ⟨[], []⟩) (l.getD j default) (rs.getD j ⟨[], []⟩)) &&
  ((List.range n).all fun i => (A.getD n 0).testBit i) && (l.getD n default).guard.isNone
section
variable {P : Program} {E : Env} {b nt : Nat} {o : Obj} {S : St} {Q : Exit → Obj → St → Prop}
/-- the last operation, from a state -/
def LastOK (P : Program) (E : Env) (b nt : Nat) (op : Oper) (o : Obj) (S : St) (o' : Obj) (S' : St) : Prop :=
  ∀ B a w, Rel (E.put b o) nt B S.t S.h a w → ∀ (K : Act → World → Prop) (Q' : Exit → Act → World → Prop), (∀ B' a' w', Rel (E.put b o') nt B' S'.t S'.h a' w' → K a' w') → op.wp P a w K Q'
theorem AWM_drawLast {id n : Nat} {ops : Array Oper} (hm : P.follows .mixedOrders = true) (h : AWops P (E.put b o) nt ops (ops.toList.take n) S [] (fun S1 rs => orderOkL ops rs = true ∧ rs.length = n ∧ ∃ o' S', LastOK P E b nt (opAt ops n) o S1 o' S' ∧ Q .normal o' S')) : AWM P E b nt (.region id ops true) o S Q := fun B a w r => by
  refine wp_region_any hm ?_
  have r := r.drew
  obtain ⟨xs, h1, ⟨S1, h2, h3⟩, h4⟩ := AWops_ex _ _ _ h
  obtain ⟨hok, hlen, o', S', hlast, hQ⟩ := h2
  rw [List.nil_append] at hok hlen
  unfold orderOkL at hok
  simp only [Bool.and_eq_true, decide_eq_true_eq] at hok
  obtain ⟨⟨⟨⟨⟨k1, k2⟩, k3⟩, k4⟩, k5⟩, k6⟩ := hok
  rw [hlen] at k1 k4 k5 k6
  have hl : (ops.toList.take n).length = n := by rw [List.length_take]; simp; omega
  rw [hl] at h1 h3 h4
  let x : Nat → ERec := fun i => xs.getD i default
  have hx : ∀ i, i < n → (xs.map ERec.rec_).getD i ⟨[], []⟩ = (x i).rec_ := by
    intro i hi
    have : i < xs.length := by omega
    simp [x, List.getD_eq_getElem?_getD, this]
  have ho : ∀ i, i < n → (ops.toList.take n).getD i default = opAt ops i := by
    intro i hi
    simp only [opAt, List.getD_eq_getElem?_getD, List.getElem?_take, if_pos hi]
  have hfs : ∀ k, k ≤ n → fs (fun i => (ops.toList.take n).getD i default) x all1 (S.t, S.h) k = fs (opAt ops) x all1 (S.t, S.h) k := by
    intro k
    induction k with
    | zero => intro _; rfl
    | succ k ih => intro hk; simp only [fs]; rw [ih (by omega), ho k (by omega)]
  have e0 : ∀ i, listedL (Array.replicate ops.size false) i = false := by
    intro i
    simp only [listedL, Array.getD_eq_getD_getElem?, Array.getElem?_replicate]
    split <;> rfl
  have est : ∀ k, fs (opAt ops) x (listedL (Array.replicate ops.size false)) (S.t, S.h) k = (S.t, S.h) := by
    intro k
    induction k with
    | zero => rfl
    | succ k ih => simp only [fs, e0 k]; exact ih
  have hfin : fs (opAt ops) x all1 (S.t, S.h) n = (S1.t, S1.h) := by rw [← hfs n (Nat.le_refl _)]; exact h3.symm
  refine wpAny_last (E := E.put b o) (nt := nt) (x := x) (s := (S.t, S.h)) (A := masks ops.toList []) k1 (fun i hi => ?_) (fun j hj p hp => ?_) k3 (fun j hj i hi => ?_) (fun i hi => ?_) (by simpa using k6) (fun B1 a1 w1 r1 K Q' hK => ?_) ops.size _ B a _ (by simp) (e0 n) (fun j hj h => by rw [e0] at h; cases h) ?_ ?_
  · have := h4 i hi
    rw [hfs i (by omega), ho i hi] at this
    exact this
  · rw [List.all_eq_true] at k2
    have := k2 j (by simpa using hj)
    rw [List.all_eq_true] at this
    simpa using this p hp
  · rw [List.all_eq_true] at k4
    have h5 := k4 j (by simpa using hj)
    rw [List.all_eq_true] at h5
    have h6 := h5 i (by simpa using hi)
    rw [Bool.or_eq_true] at h6
    refine h6.imp (fun h => h) fun h7 => ?_
    rw [hx i (by omega), hx j hj] at h7
    exact noClash (by simpa using h7)
  · rw [List.all_eq_true] at k5
    exact k5 i (by simpa using hi)
  · rw [hfin] at r1
    exact hlast B1 a1 w1 r1 K Q' fun B' a' w' r' => hK a' w' ⟨o', B', S', r', hQ⟩
  · have := List.countP_le_length (p := fun i => !listedL (Array.replicate ops.size false) i) (l := List.range ops.size)
    simpa using this
  · rw [est]; exact r
end
/-! ### the map's operations -/
section
variable {P : Program} {E : Env} {b nt : Nat} {ops : Array Oper} {T : Nat → Option AV} {H : Hp} {d : Option Nat} {ty : TypeId} {pos : String} {af : Array Edge} {gd : Option (Nat × Bool)}
variable {K : Type} {f : K → Value} {ks : List K} {kt et t : TypeId}
theorem put_block {E : Env} {o : Obj} {B : Blk} {a : Act} {w : World} (hlt : b < E.w0.heap.size) (hn : ∀ k, ¬ E.ent k) (r : Rel (E.put b o) nt B T H a w) : w.heap[b]? = some o := by
  have := r.left.block b (by rw [Env.put_size]; exact hlt) (hn b)
  rw [this]
  simp [Env.put, Array.getElem?_setIfInBounds, hlt]
theorem o_setLook [DecidableEq K] {m k : Operand} {x : K} {xa : AV} (hd : dOk nt d = true) (hm : evalO T m = some (.v (.map (some b)))) (hk : evalO T k = some xa) (hxa : ∀ U w B H v, Rdv U w B H xa v → v = f x)
    (hlt : b < E.w0.heap.size) (hn : ∀ k, ¬ E.ent k) (ht : P.underlying t = some (.map kt et)) (hz : ∀ w, (zeroValue et).run P w = .ok (.bool false) w) (law : WideMaps.KeyLaw P kt) (hinj : ∀ k ∈ ks, f k = f x → k = x) (hks : ∀ k ∈ ks, ∃ l, Go.keyOf P kt (f k) = some l) (hx : ∃ l, Go.keyOf P kt (f x) = some l) :
    OpOK P (E.put b (mObj f ks)) nt ops ⟨d, .lookup t m k false, ty, pos, af, gd⟩ T H [] ⟨.v (.bool (decide (x ∈ ks))), []⟩ :=
  ok_val hd fun B T' H' a w r htt hh => by
    have h1 := r.evalv ((htt m (by simp [Op.operands])).trans hm)
    have h2 := hxa _ _ _ _ _ (r.eval ((htt k (by simp [Op.operands])).trans hk))
    have hb := put_block hlt hn r
    refine ⟨.bool (decide (x ∈ ks)), ?_, by rw [Rdv_v]; exact ⟨rfl, rfl⟩⟩
    have := run_setLook ht hz law hinj hks hx hb
    simp [execOp, h1, h2, this]
/-- a key laid into the set -/
theorem last_setPut {m k v : Operand} {x : K} {xa : AV} {S : St} (hm : evalO S.t m = some (.v (.map (some b)))) (hk : evalO S.t k = some xa) (hv : evalO S.t v = some (.v (.bool true))) (hxa : ∀ U w B H v, Rdv U w B H xa v → v = f x)
    (hlt : b < E.w0.heap.size) (hn : ∀ k, ¬ E.ent k) (ht : P.underlying t = some (.map kt et)) (law : WideMaps.KeyLaw P kt) (hinj : ∀ k ∈ ks, f k = f x → k = x) (hks : ∀ k ∈ ks, ∃ l, Go.keyOf P kt (f k) = some l) (hx : ∃ l, Go.keyOf P kt (f x) = some l) (hnew : x ∉ ks) :
    LastOK P E b nt ⟨none, .mapUpdate t m k v, ty, pos, af, gd⟩ (mObj f ks) S (mObj f (ks ++ [x])) S := by
  intro B a w r K' Q' hK
  have h1 := r.evalv hm
  have h2 := hxa _ _ _ _ _ (r.eval hk)
  have h3 := r.evalv hv
  have hb := put_block hlt hn r
  have := run_setPut ht law hinj hks hx hb hnew
  have hr : (execOp a.eval ⟨none, .mapUpdate t m k v, ty, pos, af, gd⟩).run P w = .ok .skip { w with heap := w.heap.setIfInBounds b (mObj f (ks ++ [x])) } := by
    simp [execOp, h1, h2, h3, this, Sem.run_bind]
  unfold Oper.wp
  rw [hr]
  refine hK B _ _ ?_
  have r2 := r.putO (b := b) (o := mObj f ks) (o' := mObj f (ks ++ [x])) (by rw [Env.put_size]; exact hlt) (hn b) hb rfl rfl
  rw [Env.put_put] at r2
  exact r2
end
end Go.Proofs.Ytphojngdgmnpaaa

namespace Go.Proofs.Ytphojngdgmnpaaa
open Go Go.RowKit
set_option linter.unusedVariables false
set_option linter.unusedSimpArgs false
set_option maxRecDepth 100000

/-! ### which cells a key's type takes -/
inductive Tg where
  | b
  | i (k : IntKind)
def tagOk : Tg → Value → Prop
  | .b, v => ∃ x, v = .bool x
  | .i q, v => ∃ n, v = .int q n ∧ (Lit.int q n).wf = true
def TagsOk (ts : List Tg) (cs : List Value) : Prop := ts.length = cs.length ∧ ∀ (i : Nat) (t : Tg) (c : Value), ts[i]? = some t → cs[i]? = some c → tagOk t c
theorem TagsOk.part {ts : List Tg} {cs : List Value} (h : TagsOk ts cs) (a n : Nat) : TagsOk ((ts.drop a).take n) ((cs.drop a).take n) := by
  obtain ⟨h1, h2⟩ := h
  refine ⟨by simp [h1], fun i t c ht hc => ?_⟩
  rw [List.getElem?_take] at ht hc
  split at ht
  · rename_i hi
    rw [if_pos hi] at hc
    rw [List.getElem?_drop] at ht hc
    exact h2 _ _ _ ht hc
  · cases ht
theorem TagsOk.append {ts us : List Tg} {cs ds : List Value} (h : TagsOk ts cs) (k : TagsOk us ds) : TagsOk (ts ++ us) (cs ++ ds) := by
  obtain ⟨h1, h2⟩ := h
  obtain ⟨k1, k2⟩ := k
  refine ⟨by simp [h1, k1], fun i t c ht hc => ?_⟩
  by_cases hi : i < ts.length
  · rw [List.getElem?_append_left hi] at ht
    rw [List.getElem?_append_left (by omega)] at hc
    exact h2 _ _ _ ht hc
  · rw [List.getElem?_append_right (by omega)] at ht
    rw [List.getElem?_append_right (by omega), ← h1] at hc
    exact k2 _ _ _ ht hc
theorem TagsOk.cons {t : Tg} {ts : List Tg} {c : Value} {cs : List Value} (h : tagOk t c) (k : TagsOk ts cs) : TagsOk (t :: ts) (c :: cs) := by
  refine TagsOk.append (ts := [t]) (cs := [c]) ⟨rfl, fun i u d hu hd => ?_⟩ k
  cases i with
  | zero => simp at hu hd; subst hu hd; exact h
  | succ i => simp at hu
theorem TagsOk.nil : TagsOk [] [] := ⟨rfl, fun i t c h => by simp at h⟩
theorem TagsOk.all {t : Tg} {cs : List Value} {n : Nat} (hn : cs.length = n) (h : ∀ c ∈ cs, tagOk t c) : TagsOk (List.replicate n t) cs := by
  refine ⟨by simp [hn], fun i u c hu hc => ?_⟩
  rw [List.getElem?_replicate] at hu
  split at hu
  · injection hu with hu; subst hu; exact h c (List.mem_of_getElem? hc)
  · cases hu
theorem TagsOk.flatT {α : Type} {ts : List Tg} {arr : α → Array Value} : ∀ (xs : List α), (∀ x ∈ xs, TagsOk ts (arr x).toList) → TagsOk (List.replicate xs.length ts).flatten (flat arr xs)
  | [], _ => TagsOk.nil
  | x :: xs, h => by
    have e : flat arr (x :: xs) = (arr x).toList ++ flat arr xs := rfl
    rw [e, List.length_cons, List.replicate_succ, List.flatten_cons]
    exact (h x (by simp)).append (TagsOk.flatT xs fun y hy => h y (by simp [hy]))
def okLits (P : Program) : Nat → TypeId → List Tg → Bool
  | 0, _, _ => false
  | d + 1, t, ts => match P.underlying t with
    | some .bool => match ts with
      | [.b] => true
      | _ => false
    | some (.int q) => match ts with
      | [.i q'] => decide (q' = q)
      | _ => false
    | some (.array n e) => Nat.beq ts.length (P.cellsOf t) && (List.range n).all fun i => okLits P d e ((ts.drop (i * P.cellsOf e)).take (P.cellsOf e))
    | some (.struct fs) => Nat.beq ts.length (P.cellsOf t) && fs.all (·.name != "_") && fs.toList.all fun f => okLits P d f.type ((ts.drop f.offset).take (P.cellsOf f.type))
    | _ => false
theorem mapM_ex {α β : Type} {f : α → Option β} : ∀ (l : List α), (∀ x ∈ l, ∃ y, f x = some y) → ∃ ys, l.mapM f = some ys
  | [], _ => ⟨[], rfl⟩
  | x :: l, h => by
    obtain ⟨y, hy⟩ := h x (by simp)
    obtain ⟨ys, hys⟩ := mapM_ex l fun z hz => h z (by simp [hz])
    exact ⟨y :: ys, by simp [List.mapM_cons, hy, hys]⟩
theorem keyLits_ok {P : Program} : ∀ (d : Nat) (t : TypeId) (ts : List Tg) (cs : List Value), TagsOk ts cs → okLits P d t ts = true → ∃ l, P.keyLits d t cs = some l
  | 0, _, _, _, _, h => by simp [okLits] at h
  | d + 1, t, ts, cs, hT, h => by
    obtain ⟨hl, hg⟩ := id hT
    unfold okLits at h
    cases hu : P.underlying t with
    | none => rw [hu] at h; cases h
    | some td =>
      rw [hu] at h
      cases td with
      | bool =>
        simp only at h
        match ts, cs, hl with
        | [], [], _ => simp at h
        | [.b], [c], _ =>
          obtain ⟨x, rfl⟩ := hg 0 .b c rfl rfl
          exact ⟨[.bool x], by simp [Program.keyLits, hu]⟩
        | [.i q], [c], _ => simp at h
        | a :: a' :: r, _, _ => simp at h
      | int q =>
        simp only at h
        match ts, cs, hl with
        | [], [], _ => simp at h
        | [.b], [c], _ => simp at h
        | [.i q'], [c], _ =>
          obtain rfl : q' = q := by simpa using h
          obtain ⟨n, rfl, hw⟩ := hg 0 (.i q') c rfl rfl
          exact ⟨[.int q' n], by simp [Program.keyLits, hu, hw]⟩
        | a :: a' :: r, _, _ => simp at h
      | array n e =>
        simp only [Bool.and_eq_true, List.all_eq_true] at h
        obtain ⟨h1, h2⟩ := h
        have h1 := Nat.eq_of_beq_eq_true h1
        obtain ⟨ys, hys⟩ := mapM_ex (f := fun i => P.keyLits d e ((cs.drop (i * P.cellsOf e)).take (P.cellsOf e))) (List.range n) fun i hi => keyLits_ok d e _ _ (hT.part _ _) (h2 i hi)
        exact ⟨ys.flatten, by simp [Program.keyLits, hu, ← hl, h1, hys]⟩
      | struct fs =>
        simp only [Bool.and_eq_true] at h
        obtain ⟨⟨h1, h3⟩, h2⟩ := h
        rw [List.all_eq_true] at h2
        have h1 := Nat.eq_of_beq_eq_true h1
        obtain ⟨ys, hys⟩ := mapM_ex (f := fun f : Field => P.keyLits d f.type ((cs.drop f.offset).take (P.cellsOf f.type))) fs.toList fun f hf => keyLits_ok d f.type _ _ (hT.part _ _) (h2 f hf)
        refine ⟨ys.flatten, ?_⟩
        unfold Program.keyLits
        simp only [hu]
        rw [if_pos ⟨by rw [← hl, h1], h3⟩, hys]; rfl
      | _ => simp at h
/-! ### a key -/
def padE (m : List Ent) : List Ent := m ++ List.replicate (14 - m.length) Ent.zero
theorem padE_len {m : List Ent} (h : m.length ≤ 14) : (padE m).length = 14 := by unfold padE; simp; omega
abbrev Ky := List Bool × List Ent
def cellsK (k : Ky) : List Value := k.1.map Value.bool ++ (.int .i64 (k.2.length : Nat) :: flat Ent.arr (padE k.2))
def keyV (k : Ky) : Value := .agg (cellsK k).toArray
structure KyOk (k : Ky) : Prop where
  len : k.1.length = 14
  few : k.2.length ≤ 14
  ok : EOk k.2
def keyA (k : Ky) : AV := .agg 379 [.arr 14 1 (k.1.map boolA), intA (k.2.length : Nat), .arr 364 26 ((padE k.2).map Ent.av)]
theorem flat_len {α : Type} {arr : α → Array Value} {n : Nat} (h : ∀ x, (arr x).size = n) : ∀ (xs : List α), (flat arr xs).length = xs.length * n
  | [] => by simp [flat]
  | x :: xs => by
    have e : flat arr (x :: xs) = (arr x).toList ++ flat arr xs := rfl
    rw [e, List.length_append, flat_len h xs, Array.length_toList, h, List.length_cons, Nat.add_mul]; omega
theorem flat_inj {α : Type} {arr : α → Array Value} {n : Nat} (h : ∀ x, (arr x).size = n) (hi : ∀ x y, arr x = arr y → x = y) : ∀ (xs ys : List α), xs.length = ys.length → flat arr xs = flat arr ys → xs = ys
  | [], [], _, _ => rfl
  | x :: xs, y :: ys, hl, e => by
    have e1 : flat arr (x :: xs) = (arr x).toList ++ flat arr xs := rfl
    have e2 : flat arr (y :: ys) = (arr y).toList ++ flat arr ys := rfl
    rw [e1, e2] at e
    obtain ⟨k1, k2⟩ := List.append_inj e (by rw [Array.length_toList, Array.length_toList, h, h])
    rw [hi x y (Array.ext' k1), flat_inj h hi xs ys (by simpa using hl) k2]
theorem ent_inj (a b : Ent) (h : a.arr = b.arr) : a = b := by
  have h1 := Ent.eql a b default
  have h2 := Ent.eql b b default
  rw [h] at h1
  rw [h1] at h2
  injection h2 with h2
  injection h2 with h2
  have : decide (b = b) = true := decide_eq_true rfl
  rw [this] at h2
  exact of_decide_eq_true h2
theorem keyV_inj {k k' : Ky} (h : KyOk k) (h' : KyOk k') (e : keyV k = keyV k') : k = k' := by
  unfold keyV at e
  injection e with e
  have e : cellsK k = cellsK k' := by simpa using congrArg Array.toList e
  unfold cellsK at e
  obtain ⟨e1, e2⟩ := List.append_inj e (by rw [List.length_map, List.length_map, h.len, h'.len])
  injection e2 with e2 e3
  have e4 : k.1 = k'.1 := List.map_inj_right (fun x y h => by injection h) |>.1 e1
  have e5 : k.2.length = k'.2.length := by injection e2 with _ e2; omega
  have e6 := flat_inj Ent.arr_size ent_inj _ _ (by rw [padE_len h.few, padE_len h'.few]) e3
  have e7 : k.2 = k'.2 := by
    have := congrArg (List.take k.2.length) e6
    unfold padE at this
    rw [List.take_left, e5, List.take_left] at this
    exact this
  exact Prod.ext e4 e7
theorem keyA_rd {k : Ky} {U : Uns} {w : World} {B : Blk} {H : Hp} {v : Value} (h : Rdv U w B H (keyA k) v) : v = keyV k := by
  unfold keyA at h
  rw [Rdv_not (by simp)] at h
  obtain ⟨c, h1, rfl⟩ := h
  simp only [Rd, Rds] at h1
  obtain ⟨hl, c1, c2, rfl, ⟨_, k1⟩, d1, d2, rfl, k2, d3, d4, rfl, ⟨_, k3⟩, rfl⟩ := h1
  have k1' := (rdu_cells (av := boolA) (cell := Value.bool) (fun _ => rfl) (fun _ => rfl) k.1).1 k1
  have k3' := (DT.rdu (D := dEnt) (padE k.2)).1 k3
  have k2' : d1 = [.int .i64 (k.2.length : Nat)] := by
    unfold intA at k2; simp only [Rd] at k2; exact k2.2
  subst k1' k2' k3'
  show Value.agg _ = _
  unfold keyV cellsK
  simp
  rfl
/-! ### the key's type -/
def entTags : List Tg := (.i .i64 :: List.replicate 8 (.i .u8)) ++ (.i .i64 :: List.replicate 16 (.i .u8))
def keyTags : List Tg := List.replicate 14 .b ++ (.i .i64 :: (List.replicate 14 entTags).flatten)
theorem wf_i64 {n : Int} (h : -9223372036854775808 ≤ n ∧ n ≤ 9223372036854775807) : (Lit.int .i64 n).wf = true := by
  simp [Lit.wf, IntKind.min, IntKind.max, IntKind.signed, IntKind.bits]; omega
theorem tag_bytes {n : Nat} (b : Vector (BitVec 8) n) : TagsOk (List.replicate n (.i .u8)) (bArr b).toList := by
  refine TagsOk.all (by rw [Array.length_toList, bArr_size]) fun c hc => ?_
  rw [bArr_def] at hc
  simp only [Array.toList_map, List.mem_map] at hc
  obtain ⟨x, _, rfl⟩ := hc
  refine ⟨_, rfl, ?_⟩
  have := x.isLt
  rw [B8_def]
  simp [Lit.wf, IntKind.min, IntKind.max, IntKind.signed, IntKind.bits]
  omega
theorem tag_ent {e : Ent} (h1 : e.key.ok = true) (h2 : e.val.ok = true) : TagsOk entTags e.arr.toList := by
  obtain ⟨k0, k8, _⟩ := (Key.ok_iff _).1 h1
  obtain ⟨v0, v16, _⟩ := (Vl.ok_iff _).1 h2
  rw [Ent.arr_def, cat_list, Key.arr_def, Vl.arr_def, cat_list, cat_list, cel_list, cel_list]
  unfold entTags
  exact (TagsOk.cons (t := .i .i64) (c := .int .i64 e.key.n) ⟨_, rfl, wf_i64 (by omega)⟩ (tag_bytes _)).append (TagsOk.cons (t := .i .i64) (c := .int .i64 e.val.n) ⟨_, rfl, wf_i64 (by omega)⟩ (tag_bytes _))
theorem tag_key {k : Ky} (h : KyOk k) : TagsOk keyTags (cellsK k) := by
  unfold keyTags cellsK
  refine (TagsOk.all (t := .b) (by rw [List.length_map, h.len]) fun c hc => ?_).append (TagsOk.cons (t := .i .i64) (c := .int .i64 (k.2.length : Nat)) ⟨_, rfl, wf_i64 (by have := h.few; omega)⟩ ?_)
  · rw [List.mem_map] at hc
    obtain ⟨x, _, rfl⟩ := hc
    exact (show tagOk .b (.bool x) from ⟨x, rfl⟩)
  · have := TagsOk.flatT (ts := entTags) (arr := Ent.arr) (padE k.2) fun e he => ?_
    · rw [padE_len h.few] at this; exact this
    · unfold padE at he
      rw [List.mem_append] at he
      rcases he with he | he
      · exact tag_ent (h.ok e he).1 (h.ok e he).2
      · obtain rfl := List.eq_of_mem_replicate he
        exact tag_ent key_zero_ok Vl.zero_ok
theorem state_under : ∃ fs, Try.prog.underlying 100 = some (.struct fs) := ⟨_, Try.underlying100⟩
theorem okLits_state : okLits Try.prog (Try.prog.types.size + 1) 100 keyTags = true := by kernel_rfl
theorem keyType_state : Try.prog.keyType 100 = true := by kernel_rfl
theorem cellsOf_state : Try.prog.cellsOf 100 = 379 := by kernel_rfl
theorem cellsK_len {k : Ky} (h : KyOk k) : (cellsK k).length = 379 := by
  have := (tag_key h).1
  rw [← this]; rfl
theorem key_some {k : Ky} (h : KyOk k) : ∃ l, Go.keyOf Try.prog 100 (keyV k) = some l := by
  obtain ⟨l, hl⟩ := keyLits_ok _ _ _ _ (tag_key h) okLits_state
  obtain ⟨fs, hu⟩ := state_under
  refine ⟨.string (keyBytes l), ?_⟩
  unfold Go.keyOf
  have hf : (keyV k).formed Try.prog 100 = true := by
    unfold keyV Value.formed
    simp only [hu]
    simp [cellsK_len h, cellsOf_state]
  have hc : (keyV k).cells.toList = cellsK k := by unfold keyV; simp [Value.cells]
  simp only [hu, keyType_state, hf, hc, hl]
  simp
theorem state_law : WideMaps.KeyLaw Try.prog 100 := deep_law_gate (by kernel_rfl) (of_decide_eq_true (by kernel_rfl)) (of_decide_eq_true (by kernel_rfl)) keyType_state (by kernel_rfl)
end Go.Proofs.Ytphojngdgmnpaaa

namespace Go.Proofs.Ytphojngdgmnpaaa
open Go Go.RowKit
set_option linter.unusedVariables false
set_option linter.unusedSimpArgs false
set_option maxRecDepth 100000

/-- all stays but the map, which is o' -/
structure ExtB (b : Nat) (o' : Obj) (w w' : World) : Prop where
  os : w'.os = w.os
  tape : w'.tape = w.tape
  output : w'.output = w.output
  size : w.heap.size ≤ w'.heap.size
  block : ∀ k, k < w.heap.size → k ≠ b → w'.heap[k]? = w.heap[k]?
  at_ : w'.heap[b]? = some o'
theorem ExtB.ext {b : Nat} {o' : Obj} {w w' : World} (h : ExtB b o' w w') (hlt : b < w.heap.size) : Ext (World.putO w b o') w' :=
  ⟨h.os, h.tape, h.output, by simpa [World.putO] using h.size, fun k hk => by
    simp only [World.putO, Array.getElem?_setIfInBounds]
    by_cases c : b = k
    · subst c; rw [if_pos rfl, if_pos hlt]; exact h.at_
    · rw [if_neg c]; exact h.block k (by simpa [World.putO] using hk) (fun e => c e.symm)⟩
def MFn (P : Program) (f : FuncId) (b : Nat) (o : Obj) (args : List AV) (o' : Obj) (r : AV) : Prop :=
  ∀ (U : Uns) (w : World) (vs : List Value), w.heap[b]? = some o → Rdp U w args B0 H0 vs → Calls P f vs.toArray w fun e w' => ∃ v, e = .returned v ∧ Rdv (fun q k => q < w.heap.size ∧ U q k) w' B0 H0 r v ∧ ExtB b o' w w'
section
variable {P : Program} {E : Env} {b nt : Nat} {o o' : Obj}
theorem last_call {f : FuncId} {fn : Func} {l : List Operand} {ats : Array TypeId} {xs ys : List AV} {y : AV} {S : St} {d : Option Nat} {ty : TypeId} {pos : String} {af : Array Edge} {gd : Option (Nat × Bool)}
    (hd : dOk nt d = true) (hf : P.funcs[f]? = some fn) (hb : fn.body.isSome = true) (hnm : (fn.name == "runtime.NumGoroutine") = false) (hx : argsA S.t l = some xs) (hw : ∀ H', WkL H' xs ys) (hnt : xs.all notTup = true) (hc : MFn P f b o ys o' y)
    (hlt : b < E.w0.heap.size) (hn : ∀ k, ¬ E.ent k) (ho : isMapO o = true) (ho' : isMapO o' = true) : LastOK P E b nt ⟨d, .call { callee := .value (.func f), args := l.toArray, argTypes := ats }, ty, pos, af, gd⟩ o S o' (S.app d ⟨y, []⟩) := by
  intro B a w r K Q' hK
  have hbk := put_block hlt hn r
  have hwl : b < w.heap.size := Nat.lt_of_lt_of_le (by rw [Env.put_size]; exact hlt) r.left.size
  have hnt' : ∀ z ∈ xs, ∀ us, z ≠ .tup us := fun z hz => notTup_ne (List.all_eq_true.1 hnt z hz)
  have h1 := (hw S.h).rdp (args_rdp r l xs (argsA_map hx) hnt')
  have h2 := hc _ w _ hbk h1
  unfold Oper.wp
  have he : (execOp a.eval ⟨d, .call { callee := .value (.func f), args := l.toArray, argTypes := ats }, ty, pos, af, gd⟩).run P w = .ok (.enter f (l.map a.eval).toArray) w := by
    have hb' : fn.body ≠ none := by cases h : fn.body <;> simp_all
    have hn' : fn.name ≠ "runtime.NumGoroutine" := by simpa using hnm
    have ha : (l.map a.eval).toArray = l.toArray.map a.eval := by apply Array.ext'; simp
    rw [ha]
    simp [execOp, resolve, Deferred.ofValue, Act.eval, invoke, callFunc, hf, hn', hb']
  rw [he]
  refine Calls.mono h2 ?_
  rintro e w' ⟨v, rfl, h3, h4⟩
  have r1 := r.putO (b := b) (o := o) (o' := o') (by rw [Env.put_size]; exact hlt) (hn b) hbk ho ho'
  rw [Env.put_put] at r1
  have r2 := (r1.ext (h4.ext hwl)).put hd (x := y) (v := v) (Rdv_free (Rdv_sub (fun q k h => by
    rw [unst_put, ← unst_put E b o] at h
    exact ⟨r.unst_lt h, h⟩) h3))
  rw [← St.app_t S d ⟨y, []⟩] at r2
  have eh := St.app_h S d ⟨y, []⟩
  simp only [updH] at eh
  rw [← eh] at r2
  exact hK B _ w' r2
theorem wpOps_part {ops : Array Oper} {Q : Exit → Act → World → Prop} {K : St → List Rec → Prop} {rest : List Nat}
    (hK : ∀ S rs, K S rs → ∀ B a w, Rel E nt B S.t S.h a w → wpOps P ops Q rest a w) :
    ∀ (l : List Oper) (i : Nat) (S : St) (rs : List Rec) (B : Blk) (a : Act) (w : World), (∀ j, j < l.length → ops[i + j]? = l[j]?) → AWops P E nt ops l S rs K → Rel E nt B S.t S.h a w → wpOps P ops Q (List.range' i l.length ++ rest) a w
  | [], i, S, rs, B, a, w, _, h, r => hK S rs h B a w r
  | op :: l, i, S, rs, B, a, w, hl, h, r => by
    have ho : ops[i]? = some op := by simpa using hl 0 (by simp)
    have h2 : ∀ j, j < l.length → ops[i + 1 + j]? = l[j]? := fun j hj => by
      have := hl (j + 1) (by simp; omega)
      rw [show i + (j + 1) = i + 1 + j by omega] at this
      simpa using this
    rw [List.length_cons, List.range'_succ, List.cons_append]
    simp only [wpOps, ho]
    obtain ⟨S1, ⟨es1, es2⟩, h⟩ := h
    rw [← es1, ← es2] at r
    have e1 := St.app_t S1 op.dst
    have e2 := St.app_h S1 op.dst
    rcases h with ⟨hw, rh, e, hok, hrest⟩ | ⟨hw, hd, hrest⟩
    · rw [if_pos (wanted_of r hw)]
      refine .inl (hok S1.t S1.h (fun _ _ => rfl) (fun _ _ => rfl) (fun _ _ => rfl) B a w r _ _ fun B' a' w' r' => ?_)
      rw [← e1, ← e2] at r'
      exact wpOps_part hK l (i + 1) _ _ B' a' w' h2 hrest r'
    · rw [if_neg (by rw [wanted_of r hw]; simp)]
      have r' := r.undef hd
      have e1' := e1 ⟨.tup [], []⟩
      have e2' := e2 ⟨.tup [], []⟩
      simp only [updH] at e2'
      rw [← e1', ← e2'] at r'
      exact wpOps_part hK l (i + 1) _ _ B _ w h2 hrest r'
end
section
variable {P : Program} {E : Env} {b nt : Nat} {o : Obj} {S : St} {Q : Exit → Obj → St → Prop}
/-- a region in the text's order, of which one operation writes the map -/
theorem AWM_regionCut {id n : Nat} {ops : Array Oper} (hn : n < ops.size) (h : AWops P (E.put b o) nt ops (ops.toList.take n) S [] (fun S1 _ => (opAt ops n).guard = none ∧ ∃ o' S2, LastOK P E b nt (opAt ops n) o S1 o' S2 ∧ AWops P (E.put b o') nt ops (ops.toList.drop (n + 1)) S2 [] (fun S3 _ => Q .normal o' S3))) :
    AWM P E b nt (.region id ops false) o S Q := fun B a w r => by
  refine wp_region ?_
  have hl : (ops.toList.take n).length = n := by rw [List.length_take]; simp; omega
  have hl2 : (ops.toList.drop (n + 1)).length = ops.size - (n + 1) := by simp
  have er : List.range ops.size = List.range' 0 (ops.toList.take n).length ++ (n :: (List.range' (n + 1) (ops.toList.drop (n + 1)).length ++ [])) := by
    rw [hl, hl2, List.append_nil, List.range_eq_range', ← List.range'_succ]
    rw [show ops.size - (n + 1) + 1 = ops.size - n by omega]
    have := List.range'_append (s := 0) (m := n) (n := ops.size - n) (step := 1)
    rw [Nat.zero_add, Nat.one_mul] at this
    rw [this]
    congr 1; omega
  rw [er]
  refine wpOps_part (E := E.put b o) (nt := nt) (fun S1 rs hK B1 a1 w1 r1 => ?_) _ 0 S [] B a w (fun j hj => ?_) h r
  · obtain ⟨hg, o', S2, hlast, hrest⟩ := hK
    have ho : ops[n]? = some (opAt ops n) := by simp [opAt, hn]
    simp only [wpOps, ho]
    rw [if_pos (by unfold Region.wanted; rw [hg])]
    refine .inl (hlast B1 a1 w1 r1 _ _ fun B2 a2 w2 r2 => ?_)
    refine wpOps_part (E := E.put b o') (nt := nt) (fun S3 rs hK B3 a3 w3 r3 => ?_) _ (n + 1) S2 [] B2 a2 w2 (fun j hj => ?_) hrest r2
    · exact ⟨o', B3, S3, r3, hK⟩
    · rw [List.getElem?_drop]; simp
  · rw [List.getElem?_take, if_pos (by omega)]; simp
theorem Env.put_same {E : Env} {b : Nat} {o : Obj} (h : E.w0.heap[b]? = some o) : E.put b o = E := by
  have : E.w0.heap.setIfInBounds b o = E.w0.heap := by
    apply Array.ext_getElem?
    intro k
    rw [Array.getElem?_setIfInBounds]
    by_cases c : b = k
    · subst c
      rw [if_pos rfl, h, if_pos (Array.getElem?_eq_some_iff.1 h).1]
    · rw [if_neg c]
  unfold Env.put
  rw [this]
/-- what a function computes that writes a map handed in, out of its code -/
theorem MFn_intro {f : FuncId} {fn : Func} {c : Code} {args : List AV} {r : AV} {rv : List ResultVar} {o' : Obj} (hf : P.funcs[f]? = some fn) (hb : fn.body = some c) (hnt : fn.ntmps = nt) (hrv : fn.results = rv.toArray) (hn : args.length ≤ nt) (ys : List AV) (hy : resA ys = r)
    (h : ∀ E, (∀ k, ¬ E.ent k) → b < E.w0.heap.size → AWM P E b nt c o ⟨bindsA 0 args, []⟩ (fun e oo S' => (e = .normal ∨ e = .ret) ∧ oo = o' ∧ ResL P S' rv ys)) : MFn P f b o args o' r := by
  have hrv' : fn.results.toList = rv := by rw [hrv]
  subst hnt
  subst hrv'
  clear hrv
  intro U w vs hbo hvs
  subst hy
  obtain ⟨hl, hg⟩ := Rdp_get hvs
  have hblt : b < w.heap.size := (Array.getElem?_eq_some_iff.1 hbo).1
  let E : Env := ⟨w, U, fun _ => none, fun _ _ => rfl, []⟩
  have hE : ∀ b, ¬ E.ent b := fun b ⟨g, k, h⟩ => by cases h
  have ep : E.put b o = E := Env.put_same hbo
  have eU : unst E B0 H0 = fun b o => b < w.heap.size ∧ U b o ∧ ¬ E.ent b := unst0 E
  have r0 : Rel E fn.ntmps B0 (St.t ⟨bindsA 0 args, []⟩) (St.h ⟨bindsA 0 args, []⟩) { tmps := vs.toArray ++ Array.replicate (fn.ntmps - vs.toArray.size) undef, defers := [] } w := by
    have eH : (St.h ⟨bindsA 0 args, []⟩) = H0 := by funext k; rfl
    rw [eH]
    refine ⟨by simp; omega, rfl, fun s x hs => ?_, fun g bx h => by simp [H0] at h, fun g _ => rfl, fun g g' b h => by simp [H0, live] at h, ⟨rfl, rfl, rfl, Nat.le_refl _, fun k _ _ => rfl, Evo.refl _ _⟩, fun _ _ => rfl⟩
    have hs' : look s (bindsA 0 args) = some x := hs
    rw [bindsA_look] at hs'
    simp only [Nat.zero_le, if_true, Nat.sub_zero] at hs'
    obtain ⟨v, h1, c', h2, h3⟩ := hg s x hs'
    have hsl : s < vs.length := (List.getElem?_eq_some_iff.1 h1).1
    refine ⟨v, ?_, ?_⟩
    · rw [Array.getElem?_append_left (by simpa using hsl)]
      simpa using h1
    · rw [eU]
      exact Rdv_sub (fun b o h => h.2.1) (by rw [Rdv_not (Rd_notup h2)]; exact ⟨c', h2, h3⟩)
  rw [← ep] at r0
  refine calls_of_wp hf hb (wp_mono (h E hE hblt B0 _ w r0) ?_)
  rintro e a' w' ⟨oo, B', S', r', he, rfl, hres⟩
  obtain ⟨us, k1, k2, k3⟩ := resL_run r' _ _ hres
  have hob := put_block hblt hE r'
  have hx : ExtB b oo w w' := ⟨r'.left.os, r'.left.tape, r'.left.output, by have := r'.left.size; rw [Env.put_size] at this; exact this, fun k hk hkb => by
    have := r'.left.block k (by rw [Env.put_size]; exact hk) (hE k)
    rw [this]
    simp only [Env.put, Array.getElem?_setIfInBounds, if_neg (fun e : b = k => hkb e.symm)]
    rfl, hob⟩
  have eu : ∀ q k, (q < w.heap.size ∧ U q k) → unst (E.put b oo) B' S'.h q k := fun q k h => by rw [unst_put]; exact .inl ⟨h.1, h.2, hE q⟩
  have hfin : ∃ v, (results fn a'.tmps).run P w' = .ok v w' ∧ ∃ v', Ending.returned v = .returned v' ∧ Rdv (fun b o => b < w.heap.size ∧ U b o) w' B0 H0 (resA ys) v' ∧ ExtB b oo w w' := by
    have hm := mapM_arr _ _ _ _ _ k1
    rw [Array.toArray_toList] at hm
    rw [results_eq, Sem.run_bind, hm]
    obtain ⟨m1, m2⟩ := Rdp_get k3
    by_cases h1 : us.length = 1
    · obtain ⟨u, rfl⟩ := List.length_eq_one_iff.1 h1
      obtain ⟨y, rfl⟩ := List.length_eq_one_iff.1 (m1.trans h1)
      refine ⟨u, by simp, u, rfl, ?_, hx⟩
      obtain ⟨v, h3, c', h4, h5⟩ := m2 0 y rfl
      simp at h3
      subst h3
      show Rdv (fun b o => b < w.heap.size ∧ U b o) w' B0 H0 y u
      exact Rdv_sub eu (by rw [Rdv_not (Rd_notup h4)]; exact ⟨c', h4, h5⟩)
    · refine ⟨.tuple us.toArray, by simp [h1], _, rfl, ?_, hx⟩
      have hr : resA ys = .tup ys := by
        match ys, m1 with
        | [], _ => rfl
        | [y], m1 => exact absurd m1.symm h1
        | y :: z :: l, _ => rfl
      rw [hr, Rdv_tup]
      have := Rdv_sub eu (w := w') (B := B0) (H := H0) (x := .tup ys) (v := .tuple us.toArray) (by rw [Rdv_tup]; exact ⟨us, rfl, k3⟩)
      rw [Rdv_tup] at this
      exact this
  obtain ⟨v, h1, h2⟩ := hfin
  rcases he with rfl | rfl
  · exact ⟨r'.df, v, h1, h2⟩
  · exact ⟨r'.df, v, h1, h2⟩
end
end Go.Proofs.Ytphojngdgmnpaaa

namespace Go.Proofs.Ytphojngdgmnpaaa
open Go Go.RowKit
set_option linter.unusedVariables false
set_option linter.unusedSimpArgs false
set_option maxRecDepth 100000

def dOf (d : List Bool) (k : Nat) : Bool := d.getD k false
def mustOf (l : List Cal) : List Bool := (List.range 14).map fun i => decide (i < l.length) && decide (0 ≤ (atC l i).to)
def inn (o : List Nat) : List Bool := (List.range 14).map fun k => decide (k ∈ o)
def ovr (l : List Cal) (d : List Bool) : Bool := decide (List.zipWith (· && ·) d (mustOf l) = mustOf l)
abbrev Rs := Option (List Nat) × List Ky
def fmL (l : List Cal) (R : List Bool → List Ent → List Ky → Rs) (d : List Bool) (m : List Ent) : List Nat → List Ky → Rs
  | [], T => (none, T)
  | i :: is, T =>
    if dOf d i || !rdy l i (dOf d) then fmL l R d m is T
    else if (doC m (atC l i)).2 then
      match R (d.set i true) (doC m (atC l i)).1 T with
      | (some s, T') => (some (i :: s), T')
      | (none, T') => fmL l R d m is T'
    else fmL l R d m is T
def fmB (l : List Cal) (R : List Bool → List Ent → List Ky → Rs) (d : List Bool) (m : List Ent) (T : List Ky) : Rs :=
  if ovr l d then (some [], T) else if (d, m) ∈ T then (none, T) else fmL l R d m (List.range l.length) (T ++ [(d, m)])
def fm (l : List Cal) : Nat → List Bool → List Ent → List Ky → Rs
  | 0 => fmB l fun _ _ T => (none, T)
  | f + 1 => fmB l (fm l f)
def natA (k : Nat) : AV := intA (k : Nat)
def numsA (o : List Nat) : AV := .sl none 1 (o.map natA)
/-- the order found, behind the one that was there -/
def ordO (o : List Nat) (r : Option (List Nat)) : List Nat := match r with | some s => o ++ s | none => []
def searchA (l : List Cal) (b : Nat) : AV := .ref (.agg 16 [calsA l, .arr 14 1 ((mustOf l).map boolA), .v (.map (some b))])
@[simp] theorem inn_len (o : List Nat) : (inn o).length = 14 := by simp [inn]
@[simp] theorem must_len (l : List Cal) : (mustOf l).length = 14 := by simp [mustOf]
attribute [local irreducible] OpOK AWops AW CondB Go2 AFn thenA inBlockA noGotoA orderOk wantedA
set_option maxRecDepth 100000 in
set_option maxHeartbeats 4000000 in
theorem a_from1 (d : List Bool) (hd : d.length = 14) (n : AV) (e : AV) (k : Nat) (hk : k < 14) : AFn Try.prog 45 [intA (k : Nat), .ref (.agg 379 [.arr 14 1 (d.map boolA), n, e])] (boolA (dOf d k)) := by
  have he : (d.map boolA)[k]? = some (boolA (dOf d k)) := by
    unfold dOf
    rw [List.getElem?_map, List.getD_eq_getElem?_getD, List.getElem?_eq_getElem (by omega)]; rfl
  refine AFn_intro Try.func45 rfl Try.ntmps45 rfl (by simp) [_] rfl fun E hE => ?_
  refine wW ?_
  (apply Wv; (focus (exact ok_idx_refarr tabT rfl rfl rfl rfl (by omega) (by omega) (by rw [Int.toNat_natCast]; exact he))); (focus (first | exact want_n | exact want_g rfl (by with_reducible rfl))))
  refine wW ?_
  exact fin ⟨res_of rfl rfl rfl, trivial⟩
end Go.Proofs.Ytphojngdgmnpaaa

namespace Go.Proofs.Ytphojngdgmnpaaa
open Go Go.RowKit
set_option linter.unusedVariables false
set_option linter.unusedSimpArgs false
set_option maxRecDepth 100000

theorem run_method {P : Program} {t : TypeId} {v : Value} {name : String} {f : FuncId} {F : Array Field} (n : Nat) (h : (P.info? t).bind (fun i => (i.methods.find? (·.name == name)).map fun m => (m.path.toList.length, m.func)) = some (0, some (f, false))) (hu : P.underlying t = some (.struct F)) (w : World) : (Go.method (n + 1) t v name).run P w = .ok (f, v) w := by
  cases hi : P.info? t with
  | none => rw [hi] at h; cases h
  | some i =>
    rw [hi] at h
    simp only [Option.bind_some] at h
    cases hm : i.methods.find? (·.name == name) with
    | none => rw [hm] at h; cases h
    | some m =>
      rw [hm] at h
      simp only [Option.map_some, Option.some.injEq, Prod.mk.injEq] at h
      obtain ⟨h1, h2⟩ := h
      have h3 : m.path.toList = [] := List.eq_nil_of_length_eq_zero h1
      unfold Go.method
      simp [typeInfo, hi, hm, h2, h3, Go.follow, Go.receiverAt, run_underlying hu, Go.Place.get]
section
variable {P : Program} {E : Env} {nt : Nat} {ops : Array Oper} {T : Nat → Option AV} {H : Hp} {d : Option Nat} {ty : TypeId} {pos : String} {af : Array Edge} {gd : Option (Nat × Bool)}
theorem ok_mkifc {t : TypeId} {x : Operand} {y : AV} {F : Array Field} (hu : P.underlying t = some (.struct F)) (hd : dOk nt d = true) (hx : evalO T x = some y) (hnt : notTup y = true) : OpOK P E nt ops ⟨d, .makeInterface t x, ty, pos, af, gd⟩ T H [] ⟨.ifc t y, []⟩ :=
  ok_val hd fun B T' H' a w r ht hh => by
    have h1 := r.eval ((ht x (by simp [Op.operands])).trans hx)
    rw [Rdv_not (notTup_ne hnt)] at h1
    obtain ⟨c, h2, h3⟩ := h1
    refine ⟨.iface t (a.eval x), by simp [execOp, Instr.makeInterface, run_underlying hu], ?_⟩
    rw [Rdv_not (by simp)]
    exact ⟨[_], by simp only [Rd]; exact ⟨c, h2, rfl⟩, by rw [h3]; rfl⟩
/-- of that type -/
theorem ok_assert_y {t xt : TypeId} {x : Operand} {y : AV} {F : Array Field} (hu : P.underlying t = some (.struct F)) (hd : dOk nt d = true) (hx : evalO T x = some (.ifc t y)) (hnt : notTup y = true) : OpOK P E nt ops ⟨d, .typeAssert x xt t true, ty, pos, af, gd⟩ T H [] ⟨.tup [y, boolA true], []⟩ :=
  ok_val hd fun B T' H' a w r ht hh => by
    have h1 := Rdv_one (by simp) (r.eval ((ht x (by simp [Op.operands])).trans hx)) rfl
    simp only [Rd] at h1
    obtain ⟨c, h2, h3⟩ := h1
    injection h3 with h3
    refine ⟨.tuple #[pack y c, .bool true], by simp [execOp, h3, Instr.typeAssert, run_underlying hu], ?_⟩
    rw [Rdv_tup]
    refine ⟨[pack y c, .bool true], rfl, ?_⟩
    simp only [Rdp]
    exact ⟨c, [.bool true], rfl, h2, [.bool true], [], rfl, (rd_v rfl).2 rfl, rfl⟩
def isAggV : Value → Bool
  | .agg _ => true
  | _ => false
/-- of another one -/
theorem ok_assert_n {t s xt : TypeId} {x : Operand} {y : AV} {n : Nat} {fs : List AV} {F : Array Field} (hu : P.underlying t = some (.struct F)) (hd : dOk nt d = true) (hx : evalO T x = some (.ifc s y)) (hne : Nat.beq s t = false) (hz : ZeroOk P t (.agg n fs)) (hzv : ((P.info? t).bind (·.zero)).map isAggV = some true) : OpOK P E nt ops ⟨d, .typeAssert x xt t true, ty, pos, af, gd⟩ T H [] ⟨.tup [.agg n fs, boolA false], []⟩ :=
  ok_val hd fun B T' H' a w r ht hh => by
    have h1 := Rdv_one (by simp) (r.eval ((ht x (by simp [Op.operands])).trans hx)) rfl
    simp only [Rd] at h1
    obtain ⟨c, h2, h3⟩ := h1
    injection h3 with h3
    obtain ⟨i, zv, z1, z2, z3⟩ := hz
    have hst : ¬ s = t := fun e => by subst e; simp at hne
    have hzr := Rd_free (B := B) (H := H') _ (z3 (unst E B H') w)
    refine ⟨.tuple #[zv, .bool false], by simp [execOp, h3, Instr.typeAssert, run_underlying hu, hst, zeroValue, typeInfo, z1, z2], ?_⟩
    rw [Rdv_tup]
    refine ⟨[zv, .bool false], rfl, ?_⟩
    simp only [Rdp]
    refine ⟨zv.cells.toList, [.bool false], ?_, hzr, [.bool false], [], rfl, (rd_v rfl).2 rfl, rfl⟩
    rw [z1] at hzv
    simp only [Option.bind_some, z2, Option.map_some, Option.some.injEq] at hzv
    cases zv <;> first | rfl | cases hzv
theorem ok_invoke {f : FuncId} {fn : Func} {t : TypeId} {x : Operand} {name : String} {l : List Operand} {ats : Array TypeId} {v y : AV} {xs ys : List AV} {F : Array Field} (hd : dOk nt d = true) (hf : P.funcs[f]? = some fn) (hb : fn.body.isSome = true) (hnm : (fn.name == "runtime.NumGoroutine") = false)
    (hu : P.underlying t = some (.struct F)) (hm : (P.info? t).bind (fun i => (i.methods.find? (·.name == name)).map fun m => (m.path.toList.length, m.func)) = some (0, some (f, false))) (hxf : evalO T x = some (.ifc t v)) (hvd : dataA v = true) (hx : l.map (evalO T) = xs.map some) (hc : AFn P f (v :: ys) y) (hw : ∀ H', WkL H' xs ys) (hnt : xs.all notTup = true) :
    OpOK P E nt ops ⟨d, .call { callee := .invoke x name, args := l.toArray, argTypes := ats }, ty, pos, af, gd⟩ T H [] ⟨y, []⟩ := by
  intro T' H' ht _ _ B a w r K Q hK
  have hxs := args_rdp r l xs (map_agree hx (fun y hy => agree_op ht (by simp [Op.operands, Call.operands]; exact .inr hy))) (fun z hz => notTup_ne (List.all_eq_true.1 hnt z hz))
  have hys := (hw H').rdp hxs
  have hfv := Rdv_one (by simp) (r.eval ((agree_op ht (x := x) (by simp [Op.operands, Call.operands])).trans hxf)) rfl
  simp only [Rd] at hfv
  obtain ⟨c, e1, e2⟩ := hfv
  injection e2 with e2
  have hall : Rdp (unst E B H') w (v :: ys) B0 H0 (pack v c :: l.map a.eval) := by
    simp only [Rdp]
    exact ⟨c, _, rfl, Rd_data v hvd e1, hys⟩
  have h2 := hc _ w _ hall
  unfold Oper.wp
  have he : (execOp a.eval ⟨d, .call { callee := .invoke x name, args := l.toArray, argTypes := ats }, ty, pos, af, gd⟩).run P w = .ok (.enter f (pack v c :: l.map a.eval).toArray) w := by
    have hb' : fn.body ≠ none := by cases h : fn.body <;> simp_all
    have hn' : fn.name ≠ "runtime.NumGoroutine" := by simpa using hnm
    have hmr := run_method (v := pack v c) (P.types.size + Made.depth - 1) hm hu w
    rw [show P.types.size + Made.depth - 1 + 1 = P.types.size + Made.depth from by simp [Made.depth]] at hmr
    have ha : (pack v c :: l.map a.eval).toArray = #[pack v c] ++ (l.toArray.map a.eval) := by apply Array.ext'; simp
    rw [ha]
    simp [execOp, resolve, e2, invoke, callMethod, hmr, callFunc, hf, hn', hb']
    exact List.take_of_length_le (by simp)
  rw [he]
  refine Calls.mono h2 ?_
  rintro e w' ⟨u, rfl, h3, h4⟩
  exact hK B _ w' ((r.ext h4).put hd (Rdv_free (Rdv_sub (fun b o h => ⟨r.unst_lt h, h⟩) h3)))
end
section
variable {E : Env} {nt : Nat} {ops : Array Oper} {T : Nat → Option AV} {H : Hp} {d : Option Nat} {ty : TypeId} {pos : String} {af : Array Edge} {gd : Option (Nat × Bool)}
noncomputable def isStructB (t : TypeId) : Bool := match Try.prog.underlying t with
  | some (.struct _) => true
  | _ => false
theorem isStruct_eq {t : TypeId} (h : isStructB t = true) : ∃ F, Try.prog.underlying t = some (.struct F) := by
  unfold isStructB at h
  split at h
  · rename_i F e; exact ⟨F, e⟩
  · cases h
theorem o_mkifc {t : TypeId} {x : Operand} {y : AV} (hd : dOk nt d = true) (hx : evalO T x = some y) (hnt : notTup y = true) (hu : isStructB t = true) : OpOK Try.prog E nt ops ⟨d, .makeInterface t x, ty, pos, af, gd⟩ T H [] ⟨.ifc t y, []⟩ := by
  obtain ⟨F, hF⟩ := isStruct_eq hu
  exact ok_mkifc hF hd hx hnt
theorem o_asy {t xt : TypeId} {x : Operand} {y : AV} (hd : dOk nt d = true) (hx : evalO T x = some (.ifc t y)) (hnt : notTup y = true) (hu : isStructB t = true) : OpOK Try.prog E nt ops ⟨d, .typeAssert x xt t true, ty, pos, af, gd⟩ T H [] ⟨.tup [y, boolA true], []⟩ := by
  obtain ⟨F, hF⟩ := isStruct_eq hu
  exact ok_assert_y hF hd hx hnt
theorem o_asn {t s xt : TypeId} {x : Operand} {y : AV} {n : Nat} {fs : List AV} (hd : dOk nt d = true) (hx : evalO T x = some (.ifc s y)) (hne : Nat.beq s t = false) (hz : zeroT t = some (.agg n fs)) (hu : isStructB t = true) (hzv : ((Try.prog.info? t).bind (·.zero)).map isAggV = some true) : OpOK Try.prog E nt ops ⟨d, .typeAssert x xt t true, ty, pos, af, gd⟩ T H [] ⟨.tup [.agg n fs, boolA false], []⟩ := by
  obtain ⟨F, hF⟩ := isStruct_eq hu
  exact ok_assert_n hF hd hx hne (zeroT_ok hz) hzv
/-- a method by name: the function that stands for it -/
def MCall (t : TypeId) (name : String) (args : List AV) (r : AV) : Prop := ∃ f fn F, Try.prog.funcs[f]? = some fn ∧ fn.body.isSome = true ∧ (fn.name == "runtime.NumGoroutine") = false ∧ Try.prog.underlying t = some (.struct F) ∧ (Try.prog.info? t).bind (fun i => (i.methods.find? (·.name == name)).map fun m => (m.path.toList.length, m.func)) = some (0, some (f, false)) ∧ AFn Try.prog f args r
theorem mcall {t : TypeId} {name : String} {f : FuncId} {fn : Func} {args : List AV} {r : AV} (hf : Try.prog.funcs[f]? = some fn) (hc : AFn Try.prog f args r) (hb : fn.body.isSome = true) (hn : (fn.name == "runtime.NumGoroutine") = false) (hu : isStructB t = true) (hm : (Try.prog.info? t).bind (fun i => (i.methods.find? (·.name == name)).map fun m => (m.path.toList.length, m.func)) = some (0, some (f, false))) : MCall t name args r := by
  obtain ⟨F, hF⟩ := isStruct_eq hu
  exact ⟨f, fn, F, hf, hb, hn, hF, hm, hc⟩
theorem o_minv {t : TypeId} {x : Operand} {name : String} {l : List Operand} {ats : Array TypeId} {v y : AV} {xs ys : List AV} (hd : dOk nt d = true) (hxf : evalO T x = some (.ifc t v)) (hvd : dataA v = true) (hx : argsA T l = some xs) (hw : weakA xs = some ys) (hnt : xs.all notTup = true) (hc : MCall t name (v :: ys) y) :
    OpOK Try.prog E nt ops ⟨d, .call { callee := .invoke x name, args := l.toArray, argTypes := ats }, ty, pos, af, gd⟩ T H [] ⟨y, []⟩ := by
  obtain ⟨f, fn, F, h1, h2, h3, h4, h5, h6⟩ := hc
  exact ok_invoke hd h1 h2 h3 h4 h5 hxf hvd (argsA_map hx) h6 (fun _ => weakA_wkl _ _ hw) hnt
end
end Go.Proofs.Ytphojngdgmnpaaa

namespace Go.Proofs.Ytphojngdgmnpaaa
open Go Go.RowKit
set_option linter.unusedVariables false
set_option linter.unusedSimpArgs false
set_option maxRecDepth 100000

theorem run_part_of {P : Program} {t : TypeId} {agg : Bool} {n : Nat} (ht : TyOf P t agg n) (w : World) (c1 c2 c3 : List Value) (hn : c2.length = n) (h1 : agg = false → n = 1) :
    (part t (c1 ++ c2 ++ c3).toArray c1.length).run P w = .ok (if agg then .agg c2.toArray else c2.headD undef) w := by
  have hz := run_sizeOf_of ht w
  obtain ⟨d, hu, hd, hi⟩ := ht
  have hagg : (isAgg t).run P w = .ok agg w := by
    unfold isAgg
    rw [Sem.run_bind, run_underlying hu w]
    subst hd
    cases d <;> rfl
  unfold part
  rw [Sem.run_bind, hagg, Result.andThen_ok]
  cases agg
  · obtain rfl := h1 rfl
    obtain ⟨v, rfl⟩ : ∃ v, c2 = [v] := by
      match c2, hn with
      | [v], _ => exact ⟨v, rfl⟩
    simp
  · have e : (c1 ++ c2 ++ c3).toArray.extract c1.length (c1.length + n) = c2.toArray := by
      apply Array.ext'
      simp [List.extract_eq_take_drop, List.drop_append, List.take_append, ← hn]
    simp only [if_true, Sem.run_bind, hz, Result.andThen_ok, e]
    rfl
section
variable {P : Program} {E : Env} {nt : Nat} {ops : Array Oper} {T : Nat → Option AV} {H : Hp} {d : Option Nat} {ty : TypeId} {pos : String} {af : Array Edge} {gd : Option (Nat × Bool)} (tb : Tab P)
theorem ok_fldv {x : Operand} {s : TypeId} {f n o : Nat} {fs : List (Nat × Nat × Bool)} {y z : AV} (hd : dOk nt d = true) (hx : evalO T x = some y) (hs : tb.ti s = some (.st n fs)) (hf : fldA fs y f = some (o, z)) (hg : fs[f]? = some (o, sizeA z, isAggA z)) :
    OpOK P E nt ops ⟨d, .field s x f, ty, pos, af, gd⟩ T H [] ⟨z, []⟩ :=
  ok_val hd fun B T' H' a w r ht hh => by
    have h1 := r.eval ((ht x (by simp [Op.operands])).trans hx)
    obtain ⟨m, ys, g, rfl, k1, k2, k3, k4⟩ := fldA_some hf
    rw [Rdv_not (by simp)] at h1
    obtain ⟨c, h2, h3⟩ := h1
    simp only [Rd] at h2
    obtain ⟨h2', h4⟩ := h2
    obtain ⟨c1, c2, c3, rfl, m1, m2, _⟩ := Rds_at h4 k1
    obtain ⟨_, F, hu, hF⟩ := tb.ok s _ hs
    obtain ⟨fd, hfd, hfo, hft⟩ := fields_at hF f o (sizeA z) _ hg
    have hp := run_part_of hft w c1 c2 c3 (Rd_len m2) size1
    rw [pack_if m2] at hp
    rw [m1, ← k3] at hp
    refine ⟨pack z c2, ?_, by rw [Rdv_not (Rd_notup m2)]; exact ⟨c2, m2, rfl⟩⟩
    have e : pack (.agg m ys) (c1 ++ c2 ++ c3) = .agg (c1 ++ c2 ++ c3).toArray := rfl
    simp only [execOp, h3, e, Instr.field, Sem.run_bind, run_underlying hu, hfd, asAgg, Result.andThen_ok, Sem.run_pure, hfo, hp]
theorem ok_idxv {x ix : Operand} {t e : TypeId} {tn len es : Nat} {ea : Bool} {m : Nat} {xs : List AV} {k : IntKind} {i : Int} {y : AV} (hd : dOk nt d = true) (hs : tb.ti t = some (.arr tn len es ea e)) (hx : evalO T x = some (.arr m es xs)) (hi : evalO T ix = some (.v (.int k i)))
    (h0 : 0 ≤ i) (hl : i < (len : Int)) (hy : xs[i.toNat]? = some y) (hg : ea = isAggA y) :
    OpOK P E nt ops ⟨d, .index t x ix, ty, pos, af, gd⟩ T H [] ⟨y, []⟩ :=
  ok_val hd fun B T' H' a w r ht hh => by
    have h1 := r.eval ((ht x (by simp [Op.operands])).trans hx)
    have hj := r.evalv ((ht ix (by simp [Op.operands])).trans hi)
    rw [Rdv_not (by simp)] at h1
    obtain ⟨c, h2, h3⟩ := h1
    simp only [Rd] at h2
    obtain ⟨h4, h5⟩ := h2
    obtain ⟨c1, c2, c3, rfl, m1, mn, m2, _⟩ := Rdu_at h5 hy
    obtain ⟨_, hu, he⟩ := tb.ok t _ hs
    have hz := run_sizeOf_of he w
    subst hg
    have hes : es = sizeA y := by rw [← mn]; exact Rd_len m2
    have hp := run_part_of he w c1 c2 c3 mn (by intro h; rw [hes]; exact size1 h)
    rw [pack_if m2] at hp
    rw [m1] at hp
    refine ⟨pack y c2, ?_, by rw [Rdv_not (Rd_notup m2)]; exact ⟨c2, Rd_free _ m2, rfl⟩⟩
    have h3' : a.eval x = .agg (c1 ++ c2 ++ c3).toArray := h3
    generalize (c1 ++ c2 ++ c3).toArray = cs at h3' hp
    simp [execOp, h3', hj, Instr.index, asIntOf, run_underlying hu, h0, hl, hz, hp]
end
section
variable {E : Env} {nt : Nat} {ops : Array Oper} {T : Nat → Option AV} {H : Hp} {d : Option Nat} {ty : TypeId} {pos : String} {af : Array Edge} {gd : Option (Nat × Bool)}
theorem o_fldv {x : Operand} {s : TypeId} {f n o : Nat} {fs : List (Nat × Nat × Bool)} {y z : AV} (hd : dOk nt d = true) (hx : evalO T x = some y) (hs : tabT.ti s = some (.st n fs)) (hf : fldA fs y f = some (o, z)) (hg : fs[f]? = some (o, sizeA z, isAggA z)) :
    OpOK Try.prog E nt ops ⟨d, .field s x f, ty, pos, af, gd⟩ T H [] ⟨z, []⟩ := ok_fldv tabT hd hx hs hf hg
theorem o_idxv {x ix : Operand} {t e : TypeId} {tn len es : Nat} {ea : Bool} {m : Nat} {xs : List AV} {k : IntKind} {i : Int} {j : Nat} {y : AV} (hd : dOk nt d = true) (hs : tabT.ti t = some (.arr tn len es ea e)) (hx : evalO T x = some (.arr m es xs)) (hi : evalO T ix = some (.v (.int k i)))
    (hj : natOf i = some j) (hl : Nat.blt j len = true) (hy : xs[j]? = some y) (hg : ea = isAggA y) :
    OpOK Try.prog E nt ops ⟨d, .index t x ix, ty, pos, af, gd⟩ T H [] ⟨y, []⟩ := by
  have := natOf_eq hj; subst this
  have hl' : j < len := Nat.le_of_ble_eq_true hl
  exact ok_idxv tabT hd hs hx hi (Int.natCast_nonneg j) (by omega) (by simpa using hy) hg
end
end Go.Proofs.Ytphojngdgmnpaaa

namespace Go.Proofs.Ytphojngdgmnpaaa
open Go Go.RowKit
set_option linter.unusedVariables false
set_option linter.unusedSimpArgs false
set_option maxRecDepth 100000
def barA (d : List Bool) : AV := .arr 14 1 (d.map boolA)
def stA (d : List Bool) (n : Int) (m : List Ent) : AV := .agg 379 [barA d, intA n, .arr 364 26 (m.map Ent.av)]
theorem keyA_st (k : Ky) : keyA k = stA k.1 (k.2.length : Nat) (padE k.2) := rfl
/-! ### zero values -/
theorem flat_rep (n : Nat) : flat Ent.arr (List.replicate n Ent.zero) = (List.replicate n [Value.int .i64 0, .int .u8 0, .int .u8 0, .int .u8 0, .int .u8 0, .int .u8 0, .int .u8 0, .int .u8 0, .int .u8 0, .int .i64 0, .int .u8 0, .int .u8 0, .int .u8 0, .int .u8 0, .int .u8 0, .int .u8 0, .int .u8 0, .int .u8 0, .int .u8 0, .int .u8 0, .int .u8 0, .int .u8 0, .int .u8 0, .int .u8 0, .int .u8 0, .int .u8 0]).flatten := by
  induction n with
  | zero => rfl
  | succ n ih =>
    have e : flat Ent.arr (List.replicate (n + 1) Ent.zero) = Ent.zero.arr.toList ++ flat Ent.arr (List.replicate n Ent.zero) := rfl
    rw [e, ih, Ent.zero_arr, List.replicate_succ, List.flatten_cons]
def zKey : Ky := (List.replicate 14 false, [])
theorem zKey_cells : cellsK zKey = List.replicate 14 (Value.bool false) ++ (.int .i64 0 :: (List.replicate 14 [Value.int .i64 0, .int .u8 0, .int .u8 0, .int .u8 0, .int .u8 0, .int .u8 0, .int .u8 0, .int .u8 0, .int .u8 0, .int .i64 0, .int .u8 0, .int .u8 0, .int .u8 0, .int .u8 0, .int .u8 0, .int .u8 0, .int .u8 0, .int .u8 0, .int .u8 0, .int .u8 0, .int .u8 0, .int .u8 0, .int .u8 0, .int .u8 0, .int .u8 0, .int .u8 0]).flatten) := by
  unfold cellsK zKey padE
  rw [List.nil_append, flat_rep]
  rfl
theorem state_info : (Try.prog.info? 100).map (fun i => (i.zero, i.size)) = some (some (keyV zKey), 379) := by
  unfold keyV
  rw [zKey_cells]
  kernel_rfl
theorem keyA_rd2 {k : Ky} {U : Uns} {w : World} {B : Blk} {H : Hp} (h : KyOk k) : Rd U w (keyA k) B H (cellsK k) := by
  have e1 := (rdu_cells (av := boolA) (cell := Value.bool) (fun _ => rfl) (fun _ => rfl) k.1 (U := U) (w := w) (B := B0) (H := H0)).2 rfl
  have e2 := (DT.rdu (D := dEnt) (padE k.2) (U := U) (w := w) (B := B0) (H := H0)).2 rfl
  unfold keyA
  simp only [Rd, Rds]
  refine ⟨cellsK_len h, k.1.map Value.bool, _, rfl, ⟨by rw [List.length_map, h.len], e1⟩, [.int .i64 (k.2.length : Nat)], flat Ent.arr (padE k.2), rfl, by unfold intA; simp [Rd, plain], _, [], (List.append_nil _).symm, ⟨?_, e2⟩, rfl⟩
  have := flat_len (arr := Ent.arr) (n := 26) Ent.arr_size (padE k.2)
  rw [padE_len h.few] at this
  exact this
theorem zKey_ok : KyOk zKey := ⟨rfl, Nat.zero_le _, fun e he => by cases he⟩
theorem zero_state : ZeroOk Try.prog 100 (stA (List.replicate 14 false) 0 (List.replicate 14 Ent.zero)) := zero_of state_info fun U w => by
  have : (keyV zKey).cells.toList = cellsK zKey := by unfold keyV; simp [Value.cells]
  rw [this]
  exact keyA_rd2 zKey_ok
theorem zero_b14 : ZeroOk Try.prog 64 (barA (List.replicate 14 false)) := zero_of (v := .agg (List.replicate 14 (Value.bool false)).toArray) (n := 14) (by kernel_rfl) fun U w => by
  have e1 := (rdu_cells (av := boolA) (cell := Value.bool) (fun _ => rfl) (fun _ => rfl) (List.replicate 14 false) (U := U) (w := w) (B := B0) (H := H0)).2 rfl
  unfold barA
  simp only [Rd]
  exact ⟨rfl, e1⟩
theorem zero_search : ZeroOk Try.prog 66 (.agg 16 [.v (.slice none 0 0), barA (List.replicate 14 false), .v (.map none)]) := zero_of (v := .agg ((Value.slice none 0 0 :: List.replicate 14 (Value.bool false)) ++ [Value.map none]).toArray) (n := 16) (by kernel_rfl) fun U w => by
  have e1 := (rdu_cells (av := boolA) (cell := Value.bool) (fun _ => rfl) (fun _ => rfl) (List.replicate 14 false) (U := U) (w := w) (B := B0) (H := H0)).2 rfl
  unfold barA
  simp only [Rd, Rds]
  exact ⟨rfl, [Value.slice none 0 0], _, rfl, ⟨rfl, rfl⟩, List.replicate 14 (Value.bool false), [Value.map none], rfl, ⟨rfl, e1⟩, [Value.map none], [], rfl, ⟨rfl, rfl⟩, rfl⟩
/-! ### equality of arrays of bools -/
def barV (d : List Bool) : Value := .agg (d.map Value.bool).toArray
theorem barA_rd {d : List Bool} {U : Uns} {w : World} {B : Blk} {H : Hp} {v : Value} (h : Rdv U w B H (barA d) v) : v = barV d := by
  unfold barA at h
  rw [Rdv_not (by simp)] at h
  obtain ⟨c, h1, rfl⟩ := h
  simp only [Rd] at h1
  have := (rdu_cells (av := boolA) (cell := Value.bool) (fun _ => rfl) (fun _ => rfl) d).1 h1.2
  subst this
  rfl
theorem okLits_b14 : okLits Try.prog (Try.prog.types.size + 1) 64 (List.replicate 14 .b) = true := by kernel_rfl
theorem keyType_b14 : Try.prog.keyType 64 = true := by kernel_rfl
theorem cellsOf_b14 : Try.prog.cellsOf 64 = 14 := by kernel_rfl
theorem bar_some {d : List Bool} (h : d.length = 14) : ∃ l, Go.keyOf Try.prog 64 (barV d) = some l := by
  have ht : TagsOk (List.replicate 14 .b) (d.map Value.bool) := TagsOk.all (by rw [List.length_map, h]) fun c hc => by
    rw [List.mem_map] at hc
    obtain ⟨x, _, rfl⟩ := hc
    exact (show tagOk .b (.bool x) from ⟨x, rfl⟩)
  obtain ⟨l, hl⟩ := keyLits_ok _ _ _ _ ht okLits_b14
  refine ⟨.string (keyBytes l), ?_⟩
  unfold Go.keyOf
  have hf : (barV d).formed Try.prog 64 = true := by
    unfold barV Value.formed
    simp only [Try.underlying64]
    simp [h, cellsOf_b14]
  have hc : (barV d).cells.toList = d.map Value.bool := by unfold barV; simp [Value.cells]
  simp only [Try.underlying64, keyType_b14, hf, hc, hl]
  simp
theorem b14_law : WideMaps.KeyLaw Try.prog 64 := deep_law_gate (by kernel_rfl) (of_decide_eq_true (by kernel_rfl)) (of_decide_eq_true (by kernel_rfl)) keyType_b14 (by kernel_rfl)
theorem bar_inj {d e : List Bool} (h : barV d = barV e) : d = e := by
  unfold barV at h
  injection h with h
  have h : d.map Value.bool = e.map Value.bool := by simpa using congrArg Array.toList h
  exact List.map_inj_right (fun x y h => by injection h) |>.1 h
theorem bar_eq {d e : List Bool} (h : d.length = 14) (h' : e.length = 14) (w : World) : (Op.equal 64 (barV d) (barV e)).run Try.prog w = .ok (decide (d = e)) w := by
  obtain ⟨l1, k1⟩ := bar_some h
  obtain ⟨l2, k2⟩ := bar_some h'
  obtain ⟨r, hr, hiff⟩ := run_equal_deep w (m := 5) (by omega) (by kernel_rfl) (by kernel_rfl) k1 k2
  rw [hr]
  congr 1
  rw [Bool.eq_iff_iff, hiff, decide_eq_true_eq]
  constructor
  · intro e1
    subst e1
    exact bar_inj (b14_law.inj k1 k2)
  · rintro rfl
    rw [k1] at k2; injection k2
section
variable {E : Env} {nt : Nat} {ops : Array Oper} {T : Nat → Option AV} {H : Hp} {d : Option Nat} {ty : TypeId} {pos : String} {af : Array Edge} {gd : Option (Nat × Bool)}
theorem o_nilcr {x : Operand} {y : AV} (hx : evalO T x = some (.ref y)) (hd : dOk nt d = true) : OpOK Try.prog E nt ops ⟨d, .nilCheck x, ty, pos, af, gd⟩ T H [] ⟨.ref y, []⟩ :=
  ok_val hd fun B T' H' a w r ht hh => by
    have h0 := r.eval ((ht x (by simp [Op.operands])).trans hx)
    have h := Rdv_one (by simp) h0 rfl
    simp only [Rd] at h
    obtain ⟨b, off, c, h2, _⟩ := h
    injection h2 with h2
    exact ⟨a.eval x, by simp [execOp, h2], h0⟩
theorem o_nilcp {x : Operand} {g off : Nat} {p : List Nat} (hx : evalO T x = some (.ptr g off p)) (hd : dOk nt d = true) : OpOK Try.prog E nt ops ⟨d, .nilCheck x, ty, pos, af, gd⟩ T H [] ⟨.ptr g off p, []⟩ :=
  ok_val hd fun B T' H' a w r ht hh => by
    have h0 := r.eval ((ht x (by simp [Op.operands])).trans hx)
    have h := Rdv_one (by simp) h0 rfl
    simp only [Rd] at h
    obtain ⟨_, b, _, h2⟩ := h
    injection h2 with h2
    exact ⟨a.eval x, by simp [execOp, h2], h0⟩
theorem o_idxpn {x ix : Operand} {t e : TypeId} {tn len es : Nat} {ea : Bool} {g off : Nat} {p : List Nat} {k : IntKind} {i : Nat} (hd : dOk nt d = true) (hs : tabT.ti t = some (.arr tn len es ea e)) (hx : evalO T x = some (.ptr g off p)) (hi : evalO T ix = some (.v (.int k (i : Nat)))) (hl : i < len) :
    OpOK Try.prog E nt ops ⟨d, .indexAddr t x ix, ty, pos, af, gd⟩ T H [] ⟨.ptr g (off + i * es) (p ++ [i]), []⟩ := ok_idx_ptr tabT hd hs hx hi (by omega) (by omega)
theorem o_idxvn {x ix : Operand} {t e : TypeId} {tn len es : Nat} {ea : Bool} {m : Nat} {xs : List AV} {k : IntKind} {i : Nat} {y : AV} (hd : dOk nt d = true) (hs : tabT.ti t = some (.arr tn len es ea e)) (hx : evalO T x = some (.arr m es xs)) (hi : evalO T ix = some (.v (.int k (i : Nat))))
    (hl : i < len) (hy : xs[i]? = some y) (hg : ea = isAggA y) : OpOK Try.prog E nt ops ⟨d, .index t x ix, ty, pos, af, gd⟩ T H [] ⟨y, []⟩ := ok_idxv tabT hd hs hx hi (by omega) (by omega) (by rw [Int.toNat_natCast]; exact hy) hg
theorem o_idxrn {x ix : Operand} {t e : TypeId} {tn len es : Nat} {ea : Bool} {m : Nat} {xs : List AV} {k : IntKind} {i : Nat} {y : AV} (hd : dOk nt d = true) (hs : tabT.ti t = some (.arr tn len es ea e)) (hx : evalO T x = some (.ref (.arr m es xs))) (hi : evalO T ix = some (.v (.int k (i : Nat))))
    (hl : i < len) (hy : xs[i]? = some y) : OpOK Try.prog E nt ops ⟨d, .indexAddr t x ix, ty, pos, af, gd⟩ T H [] ⟨.ref y, []⟩ := ok_idx_refarr tabT hd hs hx hi (by omega) (by omega) (by rw [Int.toNat_natCast]; exact hy)
theorem o_eqbar {t' : TypeId} {x y : Operand} {a b : List Bool} (hd : dOk nt d = true) (hx : evalO T x = some (barA a)) (hy : evalO T y = some (barA b)) (ha : a.length = 14) (hb : b.length = 14) : OpOK Try.prog E nt ops ⟨d, .binOp .eql 64 x y t', ty, pos, af, gd⟩ T H [] ⟨.v (.bool (decide (a = b))), []⟩ :=
  ok_val hd fun B T' H' A w r ht hh => ⟨.bool (decide (a = b)), by
    have h1 := barA_rd (r.eval ((ht x (by simp [Op.operands])).trans hx))
    have h2 := barA_rd (r.eval ((ht y (by simp [Op.operands])).trans hy))
    have hg : Try.prog.eqGuardType Try.prog.depth 64 = false := by kernel_rfl
    have he := bar_eq ha hb w
    have hb2 : (binOp .eql 64 (barV a) (barV b)).run Try.prog w = .ok (.bool (decide (a = b))) w := by
      have he' : (Op.equalIn 10000 64 (barV a) (barV b)).run Try.prog w = .ok (decide (a = b)) w := he
      unfold barV at he' ⊢
      rw [run_eql_struct, he']; rfl
    unfold barV at h1 h2 hb2
    simp only [execOp, h1, h2, Sem.run_bind]
    simp [eqGuard, hg, hb2], by rw [Rdv_v]; exact ⟨rfl, rfl⟩⟩
theorem o_cpents {x y : Operand} {t tx e : TypeId} {bytes : Nat} {ea : Bool} {g off cap : Nat} {tok : Option Nat} {d0 : AV} {n : AV} {ms : List Ent} (hd : dOk nt d = true) (hs : tabT.ti t = some (.sl e 26 bytes ea)) (hx : evalO T x = some (.seg g off 26 [2] 14 cap)) (hy : evalO T y = some (.sl tok 26 (ms.map Ent.av)))
    (hg : H g = some (.var (.agg 379 [d0, n, .arr 364 26 ((List.replicate 14 Ent.zero).map Ent.av)]))) (ho : off = sizeA d0 + (sizeA n + 0)) (hle : ms.length ≤ 14) :
    OpOK Try.prog E nt ops ⟨d, .call { callee := .builtin .copy, args := #[x, y], argTypes := #[t, tx] }, ty, pos, af, gd⟩ T H [g] ⟨.v (.int .i64 (ms.length : Nat)), [(g, .var (.agg 379 [d0, n, .arr 364 26 ((padE ms).map Ent.av)]))]⟩ := by
  have hmin : min (ms.map Ent.av).length 14 = ms.length := by rw [List.length_map]; omega
  have h := ok_copy tabT (E := E) (nt := nt) (ops := ops) (T := T) (H := H) (d := d) (ty := ty) (pos := pos) (af := af) (gd := gd) (x := x) (y := y) (t := t) (tx := tx) (g := g) (off := off) (len := 14) (cap := cap) (m := 364) (p := [2]) (z := .agg 379 [d0, n, .arr 364 26 ((List.replicate 14 Ent.zero).map Ent.av)]) (z' := .agg 379 [d0, n, .arr 364 26 ((padE ms).map Ent.av)]) (src := .sl tok 26 (ms.map Ent.av)) (xs := (List.replicate 14 Ent.zero).map Ent.av) (ys := ms.map Ent.av) hd hs hx hy srcn_sl hg rfl (by rw [ho]; rfl) (by simp) (by
    rw [hmin]
    have : (ms.map Ent.av).take ms.length ++ ((List.replicate 14 Ent.zero).map Ent.av).drop ms.length = (padE ms).map Ent.av := by
      unfold padE
      rw [List.take_of_length_le (by simp), List.map_append, ← List.map_drop, List.drop_replicate]
    rw [this]
    rfl)
  rw [hmin] at h
  exact h
/-- true laid into the array at a place -/
theorem o_stin {x y : Operand} {g off i : Nat} {dl : List Bool} {n e : AV} (hx : evalO T x = some (.ptr g off [0, i])) (hoff : off = i * 1) (hy : evalO T y = some (.v (.bool true))) (hg : H g = some (.var (.agg 379 [barA dl, n, e]))) (hi : i < dl.length) (hs : tabT.sa 4 = some (false, 1)) :
    OpOK Try.prog E nt ops ⟨none, .store 4 x y, ty, pos, af, gd⟩ T H [] ⟨.tup [], [(g, .var (.agg 379 [barA (dl.set i true), n, e]))]⟩ := by
  refine ok_store tabT (d := none) rfl hx hy hg (old := boolA dl[i]) ?_ ?_ ?_ hs rfl rfl
  · simp [subA, barA, hi]
  · simp [offA, barA, sumS, hi, hoff, boolA]
  · simp [setA, barA, hi, dataA, boolA, List.map_set]
theorem o_ldbar {x : Operand} {g off i : Nat} {dl : List Bool} (hd : dOk nt d = true) (hx : evalO T x = some (.ptr g off [i])) (hoff : off = i * 1) (hg : H g = some (.var (barA dl))) (hi : i < dl.length) (hs : tabT.sa 4 = some (false, 1)) :
    OpOK Try.prog E nt ops ⟨d, .load 4 x, ty, pos, af, gd⟩ T H [g] ⟨boolA (dOf dl i), []⟩ := by
  refine ok_load_ptr tabT hd hx hg rfl (z := boolA (dOf dl i)) ?_ ?_ hs
  · simp [subA, barA, hi, dOf]
  · simp [offA, barA, hi, hoff, boolA]
theorem o_stbar {x y : Operand} {g off i : Nat} {dl : List Bool} {v : Bool} (hx : evalO T x = some (.ptr g off [i])) (hoff : off = i * 1) (hy : evalO T y = some (.v (.bool v))) (hg : H g = some (.var (barA dl))) (hi : i < dl.length) (hs : tabT.sa 4 = some (false, 1)) :
    OpOK Try.prog E nt ops ⟨none, .store 4 x y, ty, pos, af, gd⟩ T H [] ⟨.tup [], [(g, .var (barA (dl.set i v)))]⟩ := by
  refine ok_store tabT (d := none) rfl hx hy hg (old := boolA dl[i]) ?_ ?_ ?_ hs rfl rfl
  · simp [subA, barA, hi]
  · simp [offA, barA, hi, hoff, boolA]
  · simp [setA, barA, hi, dataA, boolA, List.map_set]
end
end Go.Proofs.Ytphojngdgmnpaaa
