/- Part of the proof, without conditions. -/
import Derived.Test.YtfkhhohdgeckdaaGreatP26
import Derived.Test.YtfkhhohdgeckdaaGreatP32
namespace Go.Proofs.YtfkhhohdgeckdaaGreat
open Go RowKit Proofs.Tryz
set_option linter.all false
set_option maxRecDepth 100000
set_option maxHeartbeats 16000000
def JA(i:Nat):Int:=24+32*(((i:Nat):Int)%27+432*(1+((i:Nat):Int)%3))
def tK(n:Nat):List Int:=(List.range n).map JA
def qX(n:Nat)(l:List Int):List Int:=tK n++l
def AB(n:Nat):(tK n).length=n:=by unfold tK;simp
def Nc(n:Nat):tK (n+1)=tK n++[JA n]:=by unfold tK;rw[EO,oq];rfl
variable {n:Nat}
def TE{x:Int}(h:x∈tK n):0<=x/\x<=1000000:=by
 unfold tK at h;obtain⟨i,-,rfl⟩:=sM.1 h;unfold JA;omega
def xF:lB prog 26 (.agg 4 [kq 0,kq 0,kq 0,.v (.slice none 0 0)]):=lR (v:=.agg #[.int .i64 0,.int .i64 0,.int .i64 0,.slice none 0 0]) (n:=4) j6 λU w=>by
 simp only[kq,Rd,qQ,Value.cells];exact ee
variable {E:su}{nt es tk:Nat}{ops:Array Oper}{T:Nat->Option AV}{H:Hp}{d:Option Nat}{ty t e:TypeId}{pos:String}{af:Array Edge}{gd:Option (Nat×Bool)}{α:Type}{s x:Operand}{ea:Bool}{src:AV}
def alk{f:α->AV}{tx:TypeId}{bytes:Nat}{G zs:List α}(n:lK nt d=true)(o:kM.ti t=some (.sl e es bytes ea))(j:kv T s=some (.sl (some tk) es (G.map f)))(u:H tk=some (.tail e es G.length))
 (F:kv T x=some src) (I:yR prog tx es src (zs.map f)) (U:(G.length+zs.length+(G.length+zs.length)/4+192)*bytes<=281474976710656) (a:G.length+zs.length<=9223372036854775807):
 kE prog E nt ops ⟨d,.call {callee:=.builtin .append,args:= #[s,x],argTypes:= #[t,tx]},ty,pos,af,gd⟩ T H [tk] ⟨.sl (some tk) es ((G++zs).map f),[(tk,.tail e es (G++zs).length)]⟩:=by
 have:=Oa kM (E:=E) (ops:=ops) (H:=H) (ty:=ty) (pos:=pos) (af:=af) (gd:=gd) n o j i0 F I (λc v=>growslice_fits_wide v jM) jQ;rw[<-oq,kX,kX,<-lA]at this;exact this
def UF:lB prog 52 (.v (.slice none 0 0)):=lR (v:=.slice none 0 0) (n:=1) j6 λU w=>(qV O).2 O
variable {g:Nat}
section
def aeK{l:List qn}(n:lK nt (some g)=true)(j:kv T x=some (qW l))(t:H g=none):kE prog E nt ops ⟨some g,.buildSlice 24 1 #[(0,x)],ty,pos,af,gd⟩ T H [] ⟨.sl (some g) 1 [qW l],[(g,.tail 52 1 1)]⟩:=by
 have y:Fj T 1 0 [(0,x)]=some [qW l]:=by
  unfold Fj;rw[j];rfl
 exact qo (len:=0) (l:= [(0,x)]) UF O n O y t O O O
end
section
attribute [local irreducible] kE lM AW mU lL mG mC lj lT ly kN
def ajd(n:Nat)(B:n<=1000)(l:List Int)(g:l.length<=17592186043904):mG prog 34 [kq n,lJ l] (lJ (qX n l)):=by
 refine kR func34 O ntmps34 O ki [_] O λE S=>?_;refine wL ?_;refine lU (lL.token 5 5 0 3 O O) ?_;refine kU (λj:Nat=>⟨[(0,kq n),(1,lJ l),(6,kq j),(5,.sl (some 5) 1 ((tK j).map kq))],[(5,.tail 3 1 (tK j).length)]⟩) (λj=>j<=n) (λj=>n- j) 0 (kO _) ed (λj i=>?_);have z:=AB j;by_cases Z:j<n
 .have o:=Nc j;have e:=AB (j+1)
  repeat refine Ip ?_
  iterate 22 (try (first|(first|refine Jg _ ?_|refine Ij ?_|refine XC ?_|refine MM zD ?_|refine CQ ?_|refine oz ?_|refine x9 ?_|refine CA ?_|refine Fc ?_|refine Cz ?_|refine BZ ?_|refine Ff ?_|refine CC O ?_|refine G7 ?_|refine MJ ?_|refine G4 ?_|refine agM O ?_|with_reducible refine afK ?_|with_reducible refine afL ?_|with_reducible refine LY jd ?_|with_reducible refine TN jd ?_|refine And.intro jC ?_)|(first|(apply Wv;(focus exact gC);(focus exact ig))|(apply Wb;(focus exact gG);(focus exact ig))|refine Ws (nX kM (d:=none) O O O O O O O O O O) hP ?_|(refine sN gS O ?_)|refine Mx O O iK ?_|refine My O O iK ?_|(refine Mz O O jh ?_)|(refine tc _ j5 ?_))))
  refine Was 21 (kq (JA j)) O ?_;refine wL ?_;refine⟨j+1,Z,by omega,?_⟩;rw[o,oq];exact ed
 .have:j=n:=by omega
  subst this
  repeat (first|refine Wb (alk O O O O O (uE O) (by rw[z];omega) (by rw[z];omega)) hP ?_|refine Ip ?_|refine wLs ?_)
  exact oY ⟨pY (by unfold qX;rw[oq];rfl),trivial⟩
def uJ(v:Int)(l:List Int):MI:=
 let k:=v%1073741824
 ⟨if 0<k/2048%4 then 64 else 1+k/128%12,4*(1+k%4+k/4%4)+1+k/16%8,k/4%4,oN l (1+k%4).toNat⟩
def amm(l:List Int)(y:∀v∈l,-9223372036854775808<=v/\v<=9223372036854775807)(g:l.length<=1000000000000000)(n:Int)(a:1<=n)(A:n<=4):mG prog 23 [lJ l,kq n] (wK (oN l n.toNat)):=by
 obtain rfl|rfl|rfl|rfl:n=1∨n=2∨n=3∨n=4:=eY
 .exact ajc l y g
 .exact ajb l y g
 .exact aja l y g
 .exact ai9 l y g
def aje(v:Int)(y: -9223372036854775808<=v/\v<=9223372036854775807)(l:List Int)(g:∀v∈l,-9223372036854775808<=v/\v<=9223372036854775807)(B:l.length<=1000000000000000):mG prog 21 [kq v,lJ l] (uJ v l).av:=by
 refine kR func21 O ntmps21 O ki [_] O λE S=>?_;have i:=DE v (show(1073741824:Int)≠0 by omega);have a:=DD v (show(0:Int)<1073741824 by omega);have c1:=GX v 1073741824 kh kh y;unfold uJ;dsimp only;generalize v%1073741824=k at i a c1⊢;have W:=kD DC (c1);have c3:=amm l g B (1+k%4) kh kh;have Z:=kD Gh (c3);by_cases q:0<k/2048%4
 .rw[kx q]
  repeat (first|refine Wb (oR xF O O) hP ?_|refine Wv (sI xF O O O O O O O) hP ?_|refine Ip ?_|refine wLs ?_)
  exact aV
 .rw[ku q];exact aV
section
attribute [local irreducible] AS lF kP.mm kP.waits kP.free BA kP.u9 mK mo kG.read lh kP.me kG.write kG.may pf kG.look kG.due yt
def acU(X:kY)(ops:List (List qn))(g:ops.length<=1000)(n:∀l∈ops,l.length<=1000):mZ prog 61 [wK ops] X (wK ops) (λC _=>C=X):=by
 have T:(ops.map qW).length=ops.length:=kX _;unfold wK;refine kz func61 O ntmps61 O ki [_] O λE S N k=>?_;refine tB ?_;refine lU (lL.token 3 100 0 52 O O) ?_;refine kU (λj:Nat=>⟨[(3,.sl (some 100) 1 ((ops.take j).map qW)),(6,.sl none 1 (ops.map qW)),(7,kq (ops.length:Nat)),(8,kq (j:Nat))],[(100,.tail 52 1 (ops.take j).length),(4999,.ext (Sg X))]⟩) (λj=>j<=ops.length) (λj=>ops.length- j) 0 (kO _) ed (λj i=>?_);by_cases Z:j<ops.length
 .have m:j<(ops.map qW).length:=by omega
  have Y:=n _ (ng Z);have t:(ops.map qW)[j]?=some (qW ops[j]):=gq;have o:ops.take (j+1)=ops.take j++[ops[j]]:=(vM Z).symm;have a:(ops.take j).length=j:=fy;have W:=kD func109 (Uj ops[j] kh)
  repeat (first|refine Vb (aeK O O O) hP ?_|refine vd ?_)
  refine⟨j+1,Z,by omega,?_⟩;exact dC
 .obtain rfl:j=ops.length:=by omega
  have m:¬ops.length<(ops.map qW).length:=eY;rw[nQ];refine tB ?_;exact ns O O λ_=>⟨gw,trivial⟩
end
end
