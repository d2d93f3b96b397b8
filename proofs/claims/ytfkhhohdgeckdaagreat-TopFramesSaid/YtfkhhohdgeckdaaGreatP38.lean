/- Part of the proof, without conditions. -/
import Derived.Test.YtfkhhohdgeckdaaGreatP35
namespace Go.Proofs.YtfkhhohdgeckdaaGreat
open Go RowKit Proofs.Tryz
set_option linter.all false
set_option maxRecDepth 100000
set_option maxHeartbeats 16000000
def alC{n:Nd}(h:n.In)(m:lq):(x6 n m).1.Sz:=by
 unfold x6;split
 .exact(Pq h ki).sz
 .exact h.sm
variable {h hb i b:Nat}{X C Y:kY}{H':kG}{z:AV}
def Rt.left{H:kG}{w:o9}(k:uw h hb (25,i) b X H z C)(k':uw h hb (25,i) b C H' (w.av i none) Y)(e:w.room=none):Rt h hb i b X H' w Y:=
 Rt.of (rb:=none) (by rw[e];rfl) (k.then k')
section
attribute [local irreducible] kE lM AW mU lL mG mC lj lT ly kN AS lF kP.mm kP.waits kP.free BA kP.u9 mK mo kG.read lh kP.me kG.write qj lx rO oc nZ rI kG.may kG.pin kG.load kG.take kG.leave Co ta rU rV rD kG.set x6 mT.step
def aac(X:kY)(h g i b N:Nat)(H:kG)(w:o9)(seq:BitVec 64)(D:mY X h g H)(x:H.Bd N)(G:N<=80000)(T:w.m.ok=true)(o:Uo X i b w):mZ prog 175 [lQ (25,i) b,lQ (1,h) g,qU seq] X (kA (w.insert H seq).2) (λC _=>Rt h g i b X (w.insert H seq).1.2 (w.insert H seq).1.1 C):=by
 have F:=x.ok kh;obtain⟨rb,j,I⟩:=o;have u:uw h g (25,i) b X H (w.av i rb) X:=⟨pR.refl _ _ _,D,j⟩;have d:=j;unfold o9.av at d;have J:=D;obtain⟨q,rfl,m⟩:=D;have p:=m.o;have W:=lH yJ (zX X h q.c H.c 0 m.c F.w.c);rw[show(H.c.node 0).getD ⟨false,[],[],[],[]⟩=H.nd 0 from rfl]at W;have U:=F.nd 0;unfold o9.insert;generalize H.nd 0=n at W U⊢;have hm2:({w.m with seq:=seq}:lq).ok=true:=by rw[VV];exact T
 have sz:=alC U {w.m with seq:=seq};have z:=kD func229 (Um n U.gd {w.m with seq:=seq} hm2);generalize x6 n {w.m with seq:=seq}=r at z sz⊢;obtain⟨M,ok⟩:=r;dsimp only at z sz⊢;have v:=kS func131 (acI X i w.t true);have B:=anH h q.b H w.t 0 M sz F;refine kz func175 O ntmps175 O ki [_] O λE S P s=>?_;cases rb
 all_goals
  unfold tE at d;cases ok
  .rw[ku ki];refine wU ?_;rintro Y y ⟨R,rfl,rfl⟩;have K:uw h q.b (26,i) R X H (mT.new w.t true).av (X.put (26,i) (.var R (mT.new w.t true).av)):=⟨pR.put ki,u.2.1.put ki,kC _ _ _⟩;have f:(X.put (26,i) (.var R (mT.new w.t true).av)) (25,i)=X (25,i):=ky _ _ ki;have k:=f.trans d
   repeat (first|(refine l7 (lL.Cs 39 (26,i) [] O) ?_;refine MT ?_)|refine MT ?_)
   refine ns O ?_ λ_=>⟨gx,trivial⟩;refine⟨?_,?_,some R,?_,R,rfl,?_⟩
   .intro l a c;have c1:l≠(25,i):=λe=>c kc;have c2:l≠(26,i):=λe=>c kc;simp only[ky _ _ c1,ky _ _ c2]
   .exact(((u.2.1.put ki).put ki).put ki)
   .rw[kC];rfl
   .rw[ky _ _ ki,ky _ _ ki,kC]
  .rw[kx O];refine wU ?_;intro Y y t;have K:=u.go ki t;have L:=x.set w.t 0 M;have V:=kS func230 (RG Y h q.b i b _ w 0 K.2.1 (L.ok kh) ⟨_,K.2.2⟩);refine wU ?_;intro Z y A;refine wU ?_;exact ns O (Rt.left K A O) λ_=>⟨gx,trivial⟩
def acB(X:kY)(h f i b N:Nat)(H:kG)(w:o9)(r:mT)(G:BitVec 64)(D:mY X h f H)(x:H.Bd N)(m:N<=80000)(B:(r.step H).2.Bd (N+5))(g:Uo X i b w)(M:w.room=some r):mZ prog 176 [lQ (25,i) b,lQ (1,h) f,qU G] X (kA false) (λC _=>Rt h f i b X (w.below H r).2 (w.below H r).1 C):=by
 have F:=x.ok kh;obtain⟨rb,j,I⟩:=g;rw[M]at I;obtain⟨L,rfl,I⟩:=I;have a:=j;unfold o9.av tE at a;have n:=D;have W:=kS Gg (XK X h f i L N H r D x m I);unfold o9.below;generalize J:r.step H=R at W B⊢;obtain⟨o,H2⟩:=R;dsimp only at W B⊢;generalize (if r.pc=11∨H.may r.t=true then o.e else 0)=e at W⊢;refine kz func176 O ntmps176 O ki [_] O λE S P k=>?_;refine wU ?_;intro Y y s;have z:Y (25,i)=some (.var b (w.av i (some L))):=(s.1 _ (HT ki) ki).trans j;have K:uw h f (25,i) b Y H2 (w.av i (some L)) Y:=⟨pR.refl _ _ _,s.2.1,z⟩;have p:pR h [(25,i),(26,i)] X Y:=s.1.mono ki;have d:=z;unfold o9.av tE at d;by_cases c:o.pc=11
 .rw[kx c];rw[kW c];by_cases c2:e=0
  .rw[kx c2];refine wU ?_;refine ns O ?_ λ_=>⟨gx,trivial⟩;refine⟨?_,?_,none,?_,rfl⟩
   .exact p.trans ((pR.put ki).trans (pR.put ki))
   .exact(K.2.1.put ki).put ki
   .rw[kC];rfl
  .rw[ku c2];have V:=kS func230 (RG Y h f i b H2 w e s.2.1 (B.ok kh) ⟨_,z⟩);refine wU ?_;intro Z y l;refine wU ?_;exact ns O (⟨p.trans (l.1.mono ki),l.2.1,none,l.2.2,rfl⟩) λ_=>⟨gx,trivial⟩
 .rw[ku c];rw[la c];refine wU ?_;exact ns O (⟨p,s.2.1,some L,z,L,rfl,s.2.2⟩) λ_=>⟨gx,trivial⟩
end
