/- Part of the proof, without conditions. -/
import Derived.Test.YtfkhhohdgeckdaaGreatP28
import Derived.Test.YtfkhhohdgeckdaaGreatP25
namespace Go.Proofs.YtfkhhohdgeckdaaGreat
open Go RowKit Proofs.Tryz
set_option linter.all false
set_option maxRecDepth 100000
set_option maxHeartbeats 16000000
structure MI where
 blocks:Int
 uM:Int
 mN:Int
 ops:List (List qn)
def MI.av(c:MI):AV:=.agg 4 [kq c.blocks,kq c.uM,kq c.mN,wK c.ops]
structure MI.Ok(c:MI):Prop where
 b:1<=c.blocks/\c.blocks<=256
 f:0<=c.mN/\c.mN<=3
 n:1<=c.ops.length/\c.ops.length<=4
 r:4*((c.ops.length:Int)+c.mN)<c.uM/\c.uM<=64
 o:∀l∈c.ops,l.length<=24/\ ∀o∈l,1<=o.kind/\o.kind<=4
def OM(H:kG)(t n:Int)(h:(H.alloc t n).2.2=true):(H.alloc t n).2.1.length=n.toNat:=by
 unfold kG.alloc at h⊢;split
 .rename_i a;rw[kx a]at h;split
  .rename_i b;rw[kx b]at h;cases h
  .exact Ml _ _
 .rename_i a;rw[ku a]at h;cases h
def Ni:DQ 109:=λA cap w u=>by have q:=λ(w:World) A n c n' c'=>AU w 52 _ A n c n' c' underlying52;cases A<;>(go_enter func109,ntmps109;go_wp2;go_ret;exact⟨_,0,rfl,kO _,gP⟩)
section
attribute [local irreducible] kE lM AW mU lL mG mC lj lT ly kN AS lF kP.mm kP.waits kP.free BA kP.u9 mK mo kG.read lh kP.me kG.write kG.may
section
attribute [local irreducible] pf kG.look kG.due yt
def U8(X:kY)(c:MI)(k:c.Ok):mZ prog 59 [c.av] X (kq 0) (λC _=>C=X):=by
 obtain⟨x,s,kn,p,W⟩:=k;obtain⟨b,V,r,ops⟩:=c;unfold MI.av;dsimp only at*;have g:(ops.map qW).length=ops.length:=kX _;unfold wK;have v:(!decide (((ops.length:Nat):Int)<=4))=false:=fy;have a:(decide (V<=4*(((ops.length:Nat):Int)+r)))=false:=fy;have G:(decide (V>64))=false:=fy;have A:some (AV.v (.bool (decide (((ops.length:Nat):Int)<=4))))=some (kA true):=by rw[kW (show((ops.length:Nat):Int)<=4 by omega)];rfl
 refine kz func59 O ntmps59 O ki [_] O λE S N m=>?_
 repeat (first|refine Vv (Cm O O O kh) hP ?_|refine vd ?_)
 refine lU (lL.as 4 (kA true) (by exact A)) ?_;refine kU (λj:Nat=>⟨[(4,kA true),(56,.sl none 1 (ops.map qW)),(57,kq (ops.length:Nat)),(58,kq (j:Nat))],[(4999,.ext (Sg X))]⟩) (λj=>j<=ops.length) (λj=>ops.length- j) 0 (kO _) ed (λj l=>?_);by_cases Z:j<ops.length
 .have n:j<(ops.map qW).length:=by omega
  have Y:=W _ (ng Z);have t:(ops.map qW)[j]?=some (qW ops[j]):=gq;obtain⟨H,w⟩:=Y;have T:(ops[j].map qn.av).length=ops[j].length:=kX _;have z:some (AV.sl none 4 (ops[j].map qn.av))=some (qW ops[j]):=rfl;refine tB ?_;refine kU (λi:Nat=>⟨[(4,kA true),(6,qW ops[j]),(56,.sl none 1 (ops.map qW)),(57,kq (ops.length:Nat)),(58,kq (j:Nat)),(62,qW ops[j]),(63,kq (ops[j].length:Nat)),(64,kq (i:Nat))],[(4999,.ext (Sg X))]⟩) (λi=>i<=ops[j].length) (λi=>ops[j].length- i) 0 (kO _) ed (λi hi=>?_);by_cases o:i<ops[j].length
  .have D:i<(ops[j].map qn.av).length:=by omega
   have F:=w _ (ng o);have I:(ops[j].map qn.av)[i]?=some ops[j][i].av:=by rw[oI,kQ o];rfl
   unfold qW;refine tB ?_;refine⟨i+1,by omega,by omega,?_⟩;rw[kW F.2];exact ed
  .obtain rfl:i=ops[j].length:=by omega
   have D:¬ops[j].length<(ops[j].map qn.av).length:=eY;have J:(decide ((((ops[j].map qn.av).length:Nat):Int)>24))=false:=fy;unfold qW;refine tB ?_;exact⟨j+1,Z,by omega,ed⟩
 .obtain rfl:j=ops.length:=by omega
  have n:¬ops.length<(ops.map qW).length:=eY;refine tB ?_;exact ns O (O) λ_=>⟨gx,trivial⟩
end
section
attribute [local irreducible] qj lx rO oc nZ rI kG.pin kG.load kG.take kG.leave Co ta rU rV rD kG.set kG.fits kG.born kG.bears kG.alloc
def ahe(X:kY)(h d i b N:Nat)(H:kG)(r:mT)(p:Nd)(f:p.In)(D:mY X h d H)(w:H.Bd N)(hN:N<=80000)(I:X (26,i)=some (.var b r.av)):mZ prog 136 [lQ (26,i) b,lQ (1,h) d,p.av] X (.mz []) (λC _=>uw h d (26,i) b X (r.grow H p).2 (r.grow H p).1.av C):=by
 have G:=w.ok kh;have v:uw h d (26,i) b X H r.av X:=⟨pR.refl _ _ _,D,I⟩;have a:=I;unfold mT.av at a;unfold mT.grow;obtain⟨q,rfl,m⟩:=D;have e:=kS func200 (RO X h q H r.t 2 m G.w);have g:=OM H r.t 2;have hk2:=w.alloc r.t 2;refine kz func136 O ntmps136 O ki [] O λE S P n=>?_;generalize H.alloc r.t 2=A at e g hk2⊢;obtain⟨H2,l,ok⟩:=A;dsimp only at e g hk2⊢;refine wU ?_;intro Y z t;have K:=v.Hb ki O t;have c:=K.2.2;unfold mT.av at c;cases ok
 .rw[ku ki];have d6:=kS xf (BO Y h q.b i b H2 r 3 K.2.1 (hk2.ok kh) K.2.2);refine wU ?_;intro U z M;refine wU ?_;exact ns O (K.then M) λ_=>trivial
 .rw[kx O];have hl2:=g O
  obtain⟨a0,a1,rfl⟩:∃a0 a1,l= [a0,a1]:=by
   match l,hl2 with
   | [a0,a1],_=>exact⟨a0,a1,rfl⟩
  have e0: [a0,a1].getD 0 0=a0:=rfl;have R: [a0,a1].getD 1 0=a1:=rfl;rw[e0,R];have hl0:0<([a0,a1].map kq).length:=Nat.zero_lt_succ _;have hl1:1<([a0,a1].map kq).length:=GB _;have F:=kD yK (T8 p f.gd a0 a1);obtain⟨s1,s2,s3⟩:=aaH f a0 a1;unfold zm at F;generalize rD p a0 a1=s at F s1 s2 s3⊢;obtain⟨p2,x,y,ok⟩:=s;dsimp only at F s1 s2 s3⊢;obtain⟨o,j,hq2⟩:=K.2.1;cases ok
  .rw[ku ki];have d6:=kS xf (BO Y h q.b i b H2 r 0 K.2.1 (hk2.ok kh) K.2.2);refine wU ?_;intro U z M;refine wU ?_;exact ns O (K.then M) λ_=>trivial
  .rw[kx O];have J:=kS AM (Hg Y h o H2 r.t 0 p2 s1.sz hq2 (hk2.ok kh).w);rw[j]at J;refine wU ?_;intro Z z L;have hC:=K.Hb ki j L;have hk3:=hk2.set r.t 0 p2;have k:=hC.2.2;unfold mT.av at k;obtain⟨u,T,hq3⟩:=hC.2.1;have d4:=kS JI (Pf Z h u _ r.t a0 x s2.sz hq3 (hk3.ok kh).w);rw[T]at d4;refine wU ?_;intro V z hV;have hD:=hC.Hb ki T hV;have hk4:=hk3.born r.t a0 x;have B:=hD.2.2;unfold mT.av at B;obtain⟨q4,e4,hq4⟩:=hD.2.1;have d5:=kS JI (Pf V h q4 _ r.t a1 y s3.sz hq4 (hk4.ok kh).w);rw[e4]at d5;refine wU ?_;intro W z hW;have hE':=hD.Hb ki e4 hW;have hk5:=hk4.born r.t a1 y;have d6:=kS xf (BO W h q.b i b _ r 0 hE'.2.1 (hk5.ok kh) hE'.2.2);refine wU ?_;intro U z M;refine wU ?_;exact ns O (hE'.then M) λ_=>trivial
end
end
section
attribute [local irreducible] kE lM AW mU lL mG mC lj lT ly kN
def Uj(l:List qn)(g:l.length<=1000000):mG prog 109 [qW l] (qW l):=by
 by_cases i:l= []
 .subst i;exact LU Ni
 .have X:0<l.length:=Gu.2 i;refine kL func109 O ntmps109 O ki [_] O λE S N j=>?_;exact bK
end
