/- Part of the proof, without conditions. -/
import Derived.Test.YtfkhhohdgeckdaaGreatP33
namespace Go.Proofs.YtfkhhohdgeckdaaGreat
open Go RowKit Proofs.Tryz
set_option linter.all false
set_option maxRecDepth 100000
set_option maxHeartbeats 16000000
section
attribute [local irreducible] kE lM AW mU lL mG mC lj lT ly kN AS lF kP.mm kP.waits kP.free BA kP.u9 mK mo kG.read lh kP.me kG.write qj lx rO oc nZ rI kG.may kG.pin kG.load kG.take kG.leave Co ta rU rV rD kG.set kG.fits kG.born kG.bears kG.alloc mT.choose mT.push mT.claim mT.split mT.grow
def XK(X:kY)(h f i b N:Nat)(H:kG)(r:mT)(D:mY X h f H)(w:H.Bd N)(t:N<=80000)(I:X (26,i)=some (.var b r.av)):mZ prog 82 [lQ (26,i) b,lQ (1,h) f] X (.mz [kA (decide ((r.step H).1.pc=11)),kq (if r.pc=11∨H.may r.t=true then(r.step H).1.e else 0)]) (λC _=>uw h f (26,i) b X (r.step H).2 (r.step H).1.av C):=by
 have F:=w.ok kh;have Z:uw h f (26,i) b X H r.av X:=⟨pR.refl _ _ _,D,I⟩;have a:=I;unfold mT.av at a;generalize J:r.step H=R;unfold mT.step at J;obtain⟨q,rfl,g⟩:=D;have j:=g.o;have W:=lH Dj (KH X h q H r.t g F.w F.sm);by_cases c:r.pc=11
 .rw[kx (.inl c)]at J;subst J;rw[kx (.inl c)];refine kz Gg O ntmps82 O ki [_,_] O λE T S k=>?_;refine wU ?_;refine ns O Z λ_=>?_;rw[kW c];exact⟨gx,gx,trivial⟩
 .cases m:H.may r.t
  .rw[m]at W;rw[kx (.inr m)]at J;subst J;rw[ku (by simp[c]),la c];refine kz Gg O ntmps82 O ki [_,_] O λE T S k=>?_;refine wU ?_;exact ns O (Z) λ_=>⟨gx,gx,trivial⟩
  .rw[m]at W;rw[ku (by simp[c,m])]at J;rw[kx (.inr O)];have z:=lH yJ (zX X h q.c H.c r.upper g.c F.w.c);have o:=lH yJ (zX X h q.c H.c r.lower g.c F.w.c);rw[show(H.c.node r.upper).getD ⟨false,[],[],[],[]⟩=H.nd r.upper from rfl]at z;rw[show(H.c.node r.lower).getD ⟨false,[],[],[],[]⟩=H.nd r.lower from rfl]at o;have G:=F.nd r.upper;have V:=F.nd r.lower;generalize H.nd r.upper=M at z G J;generalize H.nd r.lower=cn at o V J;refine kz Gg O ntmps82 O ki [_,_] O λE T S k=>?_;refine wU ?_;by_cases c1:r.pc=1
   .rw[kx c1]at J;subst J;have p:=kS func132 (aaf X h q.b i b H r M G ⟨q,rfl,g⟩ F I);exact cE
   .rw[ku c1]at J;by_cases c2:r.pc=2
    .rw[kx c2]at J;have p:=kS JK (U6 X h q H r.t r.lower g F.w F.pn);generalize H.pin r.t r.lower=P at p J;obtain⟨H',u⟩:=P;dsimp only at p J;refine wU ?_;intro Y y s;have K:=Z.Hb ki O s;have d:=K.2.2;unfold mT.av at d;have B:u=1∨u=2∨u=3∨ ¬(u=1∨u=2∨u=3):=eY;rcases B with e|e|e|e
     .subst e;rw[kx (.inl O)]at J;exact cR
     .subst e;rw[kx (.inr O)]at J;exact cR
     .subst e;rw[ku ki,kx O]at J;exact cR
     .have n:¬u=1:=λx=>e (.inl x);have l:¬u=2:=λx=>e (.inr (.inl x));have U:¬u=3:=λx=>e (.inr (.inr x));rw[ku (by simp[n,l]),ku U]at J;subst J;refine wU ?_;exact ns O (K) λ_=>⟨gx,gx,trivial⟩
    .rw[ku c2]at J;by_cases c3:r.pc=3
     .rw[kx c3]at J;subst J;have p:=kS func79 (Pe X h q H r.t r.lower g F.w);exact bL
     .rw[ku c3]at J;by_cases v:r.pc=4
      .rw[kx v]at J;subst J;have p:=kS func80 (Pa X h q H r.t r.lower true g F.w F.sm);exact bL
      .rw[ku v]at J;by_cases A:r.pc=5
       .rw[kx A]at J;subst J;have p:=kS func133 (ahd X h q.b i b N H r M cn G V ⟨q,rfl,g⟩ w t I);exact cE
       .rw[ku A]at J;by_cases L:r.pc=6
        .rw[kx L]at J;subst J;have p:=kS JG (KF X h q.b i b H r 7 ⟨q,rfl,g⟩ F I);exact cE
        .rw[ku L]at J;by_cases c7:r.pc=7
         .rw[kx c7]at J;subst J;have p:=kS JG (KF X h q.b i b H r 10 ⟨q,rfl,g⟩ F I);exact cE
         .rw[ku c7]at J;by_cases c8:r.pc=8
          .rw[kx c8]at J;subst J;have p:=kS JG (KF X h q.b i b H r 9 ⟨q,rfl,g⟩ F I);exact cE
          .rw[ku c8]at J;by_cases c9:r.pc=9
           .rw[kx c9]at J;subst J;have p:=kS func135 (acG X h q.b i b N H r M cn G V ⟨q,rfl,g⟩ w t I);exact cE
           .rw[ku c9]at J;by_cases c10:r.pc=10
            .rw[kx c10]at J;subst J;have p:=kS func136 (ahe X h q.b i b N H r M G ⟨q,rfl,g⟩ w t I);exact cE
            .rw[ku c10]at J;subst J;refine wU ?_;exact ns O (Z) λ_=>⟨gx,gx,trivial⟩
end
