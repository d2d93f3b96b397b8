/-
  AbsTypes: the structs of package api as readings; contracts that were shown over the world, as contracts over readings.
-/
import Derived.Test.YtigbkhjcboecjaaAbsMem5
import Derived.Test.YtigbkhjcboecjaaTab
import Derived.Test.YtigbkhjcboecjaaTypes
namespace Go.Proofs.Ytigbkhjcboecjaa
open Go Go.RowKit
set_option linter.unusedVariables false
set_option linter.unusedSimpArgs false

def intA (n : Int) : AV := .v (.int .i64 n)
def boolA (b : Bool) : AV := .v (.bool b)
def byteA (x : BitVec 8) : AV := .v (.int .u8 (B8 x))
def u64A (x : BitVec 64) : AV := .v (.int .u64 (D64 x))
def vecA {n : Nat} (b : Vector (BitVec 8) n) : AV := .arr n 1 (b.toList.map byteA)
def Key.av (k : Key) : AV := .agg 9 [intA k.n, vecA k.b]
def Vl.av (k : Vl) : AV := .agg 17 [intA k.n, vecA k.b]
def Msg.av (m : Msg) : AV := .agg 29 [intA m.kind, u64A m.seq, m.key.av, m.val.av, u64A m.add]
def Ent.av (e : Ent) : AV := .agg 26 [e.key.av, e.val.av]
section
variable {U : Uns} {w : World} {B : Blk} {H : Hp}
theorem rd_v {x : Value} {c : List Value} (h : plain x = true) : Rd U w (.v x) B H c ↔ c = [x] := by simp [Rd, h]
theorem rdu_bytes : ∀ (l : List (BitVec 8)) {B : Blk} {H : Hp} {c : List Value}, Rdu U w 1 (l.map byteA) B H c ↔ c = l.map fun x => Value.int .u8 (B8 x)
  | [], _, _, c => by simp [Rdu]
  | x :: l, _, _, c => by
    simp only [List.map_cons, Rdu, byteA]
    constructor
    · rintro ⟨c1, c2, rfl, _, h1, h2⟩
      rw [rd_v rfl] at h1
      rw [rdu_bytes l] at h2
      rw [h1, h2]; rfl
    · rintro rfl
      exact ⟨[_], _, rfl, rfl, by rw [rd_v rfl], (rdu_bytes l).2 rfl⟩
theorem rd_vec {n : Nat} {b : Vector (BitVec 8) n} {c : List Value} : Rd U w (vecA b) B H c ↔ c = (bArr b).toList := by
  have e : (bArr b).toList = b.toList.map fun x => Value.int .u8 (B8 x) := by rw [bArr_def]; simp; rfl
  simp only [vecA, Rd, rdu_bytes, e]
  constructor
  · exact fun h => h.2
  · rintro rfl; simp
theorem rds_cons {x : AV} {xs : List AV} {c : List Value} {r1 r2 : List Value} (h1 : ∀ c, Rd U w x B H c ↔ c = r1) (h2 : ∀ c, Rds U w xs B H c ↔ c = r2) : Rds U w (x :: xs) B H c ↔ c = r1 ++ r2 := by
  simp only [Rds, h1, h2]
  constructor
  · rintro ⟨c1, c2, rfl, rfl, rfl⟩; rfl
  · rintro rfl; exact ⟨_, _, rfl, rfl, rfl⟩
theorem rds_nil {c : List Value} : Rds U w [] B H c ↔ c = [] := by simp [Rds]
theorem rd_agg {n : Nat} {fs : List AV} {c r : List Value} (hr : r.length = n) (h : Rds U w fs B H c ↔ c = r) : Rd U w (.agg n fs) B H c ↔ c = r := by
  simp only [Rd, h]
  exact ⟨fun h => h.2, fun h => ⟨by rw [h]; exact hr, h⟩⟩
theorem cat_list (a b : Array Value) : (cat a b).toList = a.toList ++ b.toList := by rw [cat_def]; simp
theorem cel_list (v : Value) : (cel v).toList = [v] := by rw [cel_def]
theorem Key.rd {k : Key} {c : List Value} : Rd U w k.av B H c ↔ c = k.arr.toList := by
  refine rd_agg (by have := k.arr_size; simpa using this) ((rds_cons (fun c => rd_v rfl) fun c => rds_cons (fun c => rd_vec) fun c => rds_nil).trans ?_)
  rw [Key.arr_def]; simp [cat_list, cel_list]
theorem Vl.rd {k : Vl} {c : List Value} : Rd U w k.av B H c ↔ c = k.arr.toList := by
  refine rd_agg (by have := k.arr_size; simpa using this) ((rds_cons (fun c => rd_v rfl) fun c => rds_cons (fun c => rd_vec) fun c => rds_nil).trans ?_)
  rw [Vl.arr_def]; simp [cat_list, cel_list]
theorem Msg.rd {m : Msg} {c : List Value} : Rd U w m.av B H c ↔ c = m.arr.toList := by
  refine rd_agg (by have := m.arr_size; simpa using this) ((rds_cons (fun c => rd_v rfl) fun c => rds_cons (fun c => rd_v rfl) fun c => rds_cons (fun c => Key.rd) fun c => rds_cons (fun c => Vl.rd) fun c => rds_cons (fun c => rd_v rfl) fun c => rds_nil).trans ?_)
  rw [Msg.arr_def]; simp [cat_list, cel_list]
theorem Ent.rd {m : Ent} {c : List Value} : Rd U w m.av B H c ↔ c = m.arr.toList := by
  refine rd_agg (by have := m.arr_size; simpa using this) ((rds_cons (fun c => Key.rd) fun c => rds_cons (fun c => Vl.rd) fun c => rds_nil).trans ?_)
  rw [Ent.arr_def]; simp [cat_list]
end
/-- a type of plain data: how it reads, as a value and as cells -/
structure DT (α : Type) where
  t : TypeId
  n : Nat
  av : α → AV
  arr : α → Array Value
  rd : ∀ {U : Uns} {w : World} {B : Blk} {H : Hp} {x : α} {c : List Value}, Rd U w (av x) B H c ↔ c = (arr x).toList
  agg : ∀ x, isAggA (av x) = true
  enc : EncOk arr n
def dKey : DT Key := ⟨27, 9, Key.av, Key.arr, Key.rd, fun _ => rfl, Key.enc⟩
def dVl : DT Vl := ⟨34, 17, Vl.av, Vl.arr, Vl.rd, fun _ => rfl, ⟨Vl.arr_size, Vl.arr_one, by omega⟩⟩
def dMsg : DT Msg := ⟨36, 29, Msg.av, Msg.arr, Msg.rd, fun _ => rfl, ⟨Msg.arr_size, Msg.arr_one, by omega⟩⟩
def dEnt : DT Ent := ⟨75, 26, Ent.av, Ent.arr, Ent.rd, fun _ => rfl, ⟨Ent.arr_size, Ent.arr_one, by omega⟩⟩
section
variable {α : Type} (D : DT α) {U : Uns} {w : World} {B : Blk} {H : Hp}
theorem DT.pack {x : α} {c : List Value} (h : Rd U w (D.av x) B H c) : pack (D.av x) c = .agg (D.arr x) := by
  rw [(Rd_pack h).1 (D.agg x)]
  rw [D.rd] at h
  rw [h]
theorem DT.rdv {x : α} {v : Value} : Rdv U w B H (D.av x) v ↔ v = .agg (D.arr x) := by
  rw [Rdv_not (by intro xs e; have := D.agg x; rw [e] at this; cases this)]
  constructor
  · rintro ⟨c, h1, h2⟩; rw [h2, D.pack h1]
  · rintro rfl
    have h : Rd U w (D.av x) B H (D.arr x).toList := D.rd.2 rfl
    exact ⟨_, h, (D.pack h).symm⟩
theorem DT.rdu : ∀ (xs : List α) {c : List Value}, Rdu U w D.n (xs.map D.av) B H c ↔ c = flat D.arr xs
  | [], c => by simp [Rdu, flat]
  | x :: xs, c => by
    have e : flat D.arr (x :: xs) = (D.arr x).toList ++ flat D.arr xs := rfl
    simp only [List.map_cons, Rdu, D.rd, DT.rdu xs, e]
    constructor
    · rintro ⟨c1, c2, rfl, _, rfl, rfl⟩; rfl
    · rintro rfl; exact ⟨_, _, rfl, by have := D.enc.size x; simpa using this, rfl, rfl⟩
end
/-- a slice, as the contracts over the world have it -/
theorem sl_gen {α : Type} {av : α → AV} {arr : α → Array Value} {n : Nat} (enc : EncOk arr n) {U : Uns} {w : World} {B : Blk} {H : Hp} (hrdu : ∀ (xs : List α) {c : List Value}, Rdu U w n (xs.map av) B0 H0 c ↔ c = flat arr xs) {tok : Option Nat} {xs : List α} {v : Value} (h : Rd U w (.sl tok n (xs.map av)) B H [v]) : Sl arr n w v xs := by
  simp only [Rd, List.length_map] at h
  obtain ⟨A, cap, h1, h2, h3, h4, _⟩ := h
  injection h1 with h1
  refine ⟨A, cap, h1, h2, h3, fun h0 => ?_⟩
  obtain ⟨b, off, c, k1, k2, k3, k4⟩ := h4 h0
  rw [hrdu] at k4
  subst k4
  refine ⟨b, off, k1, row_lt k2, fun i hi => ?_⟩
  have hn : i * n + n ≤ xs.length * n := by rw [← Nat.succ_mul]; exact Nat.mul_le_mul_right _ hi
  rw [row_sub k2 (i * n) n hn]
  unfold rowOf
  have hl := flat_length enc xs
  rw [if_pos (by simp [hl]; exact hn)]
  congr 1
  apply Array.ext_getElem?
  intro k
  rw [Array.getElem?_extract]
  by_cases hk : k < n
  · rw [if_pos (by simp [hl]; omega)]
    have := flat_get enc xs i k hi hk
    simpa using this
  · rw [if_neg (by omega), Array.getElem?_eq_none (by have := enc.size xs[i]; omega)]
theorem rdu_cells {α : Type} {av : α → AV} {cell : α → Value} (h : ∀ x, av x = .v (cell x)) (hp : ∀ x, plain (cell x) = true) {U : Uns} {w : World} {B : Blk} {H : Hp} : ∀ (xs : List α) {c : List Value}, Rdu U w 1 (xs.map av) B H c ↔ c = xs.map cell
  | [], c => by simp [Rdu]
  | x :: l, c => by
    simp only [List.map_cons, Rdu, h]
    constructor
    · rintro ⟨c1, c2, rfl, _, h1, h2⟩
      rw [rd_v (hp x)] at h1
      rw [rdu_cells h hp l] at h2
      rw [h1, h2]; rfl
    · rintro rfl
      exact ⟨[_], _, rfl, rfl, by rw [rd_v (hp x)], (rdu_cells h hp l).2 rfl⟩
theorem flat_cells {α : Type} {arr : α → Array Value} {cell : α → Value} (h : ∀ x, arr x = #[cell x]) : ∀ xs : List α, flat arr xs = xs.map cell
  | [] => rfl
  | x :: l => by
    have e : flat arr (x :: l) = (arr x).toList ++ flat arr l := rfl
    rw [e, h, flat_cells h l]; rfl
theorem sl_ints_of {U : Uns} {w : World} {B : Blk} {H : Hp} {tok : Option Nat} {xs : List Int} {v : Value} (h : Rdv U w B H (.sl tok 1 (xs.map intA)) v) : Sl ie 1 w v xs :=
  sl_gen ie_ok (fun xs c => by rw [flat_cells (arr := ie) (cell := fun n => Value.int .i64 n) (fun _ => rfl)]; exact rdu_cells (cell := fun n => .int .i64 n) (fun _ => rfl) (fun _ => rfl) xs) (Rdv_one (by simp) h rfl)
theorem sl_bytes_of {U : Uns} {w : World} {B : Blk} {H : Hp} {tok : Option Nat} {xs : List (BitVec 8)} {v : Value} (h : Rdv U w B H (.sl tok 1 (xs.map byteA)) v) : Sl be 1 w v xs :=
  sl_gen be_ok (fun xs c => by rw [flat_cells (arr := be) (cell := fun x => Value.int .u8 (B8 x)) (fun _ => rfl)]; exact rdu_cells (cell := fun x => .int .u8 (B8 x)) (fun _ => rfl) (fun _ => rfl) xs) (Rdv_one (by simp) h rfl)
theorem DT.slv {α : Type} (D : DT α) {U : Uns} {w : World} {B : Blk} {H : Hp} {tok : Option Nat} {xs : List α} {v : Value} (h : Rdv U w B H (.sl tok D.n (xs.map D.av)) v) : Sl D.arr D.n w v xs := sl_gen D.enc (fun xs c => D.rdu xs) (Rdv_one (by simp) h rfl)
theorem zero_of {t : TypeId} {z : AV} {v : Value} {n : Nat} (h : (Try.prog.info? t).map (fun i => (i.zero, i.size)) = some (some v, n)) (hr : ∀ U w, Rd U w z B0 H0 v.cells.toList) : ZeroOk Try.prog t z := by
  cases hi : Try.prog.info? t with
  | none => rw [hi] at h; cases h
  | some i =>
    rw [hi] at h
    simp only [Option.map_some, Option.some.injEq, Prod.mk.injEq] at h
    exact ⟨i, v, hi, h.1, hr⟩
theorem zero_Key : ZeroOk Try.prog 27 Key.zero.av := zero_of Key.info fun U w => Key.rd.2 rfl
theorem zero_Vl : ZeroOk Try.prog 34 Vl.zero.av := zero_of Vl.info fun U w => Vl.rd.2 rfl
theorem zero_Msg : ZeroOk Try.prog 36 Msg.zero.av := zero_of Msg.info fun U w => Msg.rd.2 rfl
theorem zero_Ent : ZeroOk Try.prog 75 Ent.zero.av := zero_of Ent.info fun U w => Ent.rd.2 rfl
theorem zero_int : ZeroOk Try.prog 3 (intA 0) := zero_of (v := .int .i64 0) (n := 1) (by kernel_rfl) fun U w => (rd_v rfl).2 rfl
theorem zero_byte : ZeroOk Try.prog 5 (byteA 0#8) := zero_of (v := .int .u8 0) (n := 1) (by kernel_rfl) fun U w => (rd_v rfl).2 (by rw [B8_zero]; rfl)
theorem zero_slints : ZeroOk Try.prog 22 (.v (.slice none 0 0)) := zero_of (v := .slice none 0 0) (n := 1) (by kernel_rfl) fun U w => (rd_v rfl).2 rfl
theorem zero_slkeys : ZeroOk Try.prog 29 (.v (.slice none 0 0)) := zero_of (v := .slice none 0 0) (n := 1) (by kernel_rfl) fun U w => (rd_v rfl).2 rfl
theorem rdp_one {U : Uns} {w : World} {B : Blk} {H : Hp} {x : AV} {xs : List AV} {vs : List Value} (h : Rdp U w (x :: xs) B H vs) : ∃ v us, vs = v :: us ∧ Rdv U w B H x v ∧ Rdp U w xs B H us := by
  simp only [Rdp] at h
  obtain ⟨c, us, rfl, h1, h2⟩ := h
  exact ⟨_, us, rfl, by rw [Rdv_not (Rd_notup h1)]; exact ⟨c, h1, rfl⟩, h2⟩
theorem rdp_nil {U : Uns} {w : World} {B : Blk} {H : Hp} {vs : List Value} (h : Rdp U w [] B H vs) : vs = [] := by simpa [Rdp] using h
theorem is_v {U : Uns} {w w' : World} {x : Value} (h : plain x = true) : Rdv U w' B0 H0 (.v x) x := Rdv_v.2 ⟨h, rfl⟩
theorem ofIs {P : Program} {f : FuncId} {vs : Array Value} {w : World} {r : AV} {x : Value} {U : Uns} (h : Calls P f vs w (Is w x)) (hr : ∀ w', Rdv (fun b o => b < w.heap.size ∧ U b o) w' B0 H0 r x) :
    Calls P f vs w fun e w' => ∃ v, e = .returned v ∧ Rdv (fun b o => b < w.heap.size ∧ U b o) w' B0 H0 r v ∧ Ext w w' :=
  h.mono fun e w' ⟨h1, h2⟩ => ⟨x, h1, hr w', h2⟩
end Go.Proofs.Ytigbkhjcboecjaa
