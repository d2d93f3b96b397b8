/-
  AbsNode: nodes, and a few more operations.
-/
import Derived.Test.YtigbkhjcboecjaaAbsStep
namespace Go.Proofs.Ytigbkhjcboecjaa
open Go Go.RowKit
set_option linter.unusedVariables false
set_option linter.unusedSimpArgs false

def nodeA (leaf : Bool) (es ks ps ms : AV) : AV := .agg 5 [boolA leaf, es, ks, ps, ms]
def nilA : AV := .v (.slice none 0 0)
section
variable {E : Env} {nt : Nat} {ops : Array Oper} {T : Nat → Option AV} {H : Hp} {d : Option Nat} {ty : TypeId} {pos : String} {af : Array Edge} {gd : Option (Nat × Bool)}
theorem o_app1 {α : Type} {f : α → AV} {s x : Operand} {t tx e : TypeId} {es bytes : Nat} {ea : Bool} {tk : Nat} {x0 : α} {y0 : AV} {zs : List α} {src : AV} (hd : dOk nt d = true) (hs : tabT.ti t = some (.sl e es bytes ea))
    (hy : evalO T x = some src) (hx : evalO T s = some (.sl (some tk) es [y0])) (hg : H tk = some (.tail e es 1)) (hsrc : SrcOf Try.prog tx es src (zs.map f)) (h0 : y0 = f x0) (hlen : (1 + zs.length) * bytes ≤ 140737488355328) (hlen2 : 1 + zs.length ≤ 9223372036854775807) :
    OpOK Try.prog E nt ops ⟨d, .call { callee := .builtin .append, args := #[s, x], argTypes := #[t, tx] }, ty, pos, af, gd⟩ T H [tk] ⟨.sl (some tk) es ((x0 :: zs).map f), [(tk, .tail e es (x0 :: zs).length)]⟩ :=
  o_app (f := f) (xs := [x0]) (zs := zs) hd hs (by rw [hx, h0]; rfl) hg hy hsrc (by simpa using hlen) (by simpa using hlen2)
end
theorem res_varw {S : St} {a t g n : Nat} {fs ys : List AV} (ha : S.t a = some (.ptr g 0 [])) (hg : S.h g = some (.var (.agg n fs))) (hs : tabT.sa t = some (true, n)) (hw : weakA fs = some ys) : Res1 Try.prog S (.cell a t) (.agg n ys) := ⟨g, .agg n fs, ha, hg, tabT.tyOf hs, Wk.agg (weakA_wkl _ _ hw)⟩
end Go.Proofs.Ytigbkhjcboecjaa
