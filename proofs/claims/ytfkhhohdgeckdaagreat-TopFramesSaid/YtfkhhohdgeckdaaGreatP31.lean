/- Part of the proof, without conditions. -/
import Derived.Test.YtfkhhohdgeckdaaGreatP23
namespace Go.Proofs.YtfkhhohdgeckdaaGreat
open Go RowKit Proofs.Tryz
set_option linter.all false
set_option maxRecDepth 100000
set_option maxHeartbeats 16000000
section
attribute [local irreducible] kE lM AW mU lL mG mC lj lT ly kN AS lF kP.mm kP.waits kP.free BA kP.u9 mK mo kG.read lh kP.me kG.write qj lx rO oc nZ rI kG.may kG.pin kG.load kG.take kG.leave
def ag5(X:kY)(h g i b:Nat)(H:kG)(w:qP)(D:mY X h g H)(x:H.Ok)(l:Xt X i b w)(T:w.Ok):mZ prog 71 [lQ (24,i) b,lQ (1,h) g] X (kA (decide ((w.step H).1.pc=6))) (λC _=>uw h g (24,i) b X (w.step H).2 (w.step H).1.av C):=by
 have j:=ag6 X h g i b H w D x l T;obtain⟨p,rfl,I⟩:=D;have W:=lH Dj (KH X h p H w.t I x.w x.sm);have Z:uw h p.b (24,i) b X H w.av X:=⟨pR.refl _ _ _,⟨p,rfl,I⟩,l.o⟩;have d:=l.o;unfold qP.av at d;unfold qP.step;refine kz func71 O ntmps71 O ki [_] O λE S N n=>?_;by_cases c:w.pc=6
 .rw[kx (.inl c)];refine wU ?_;exact eQ
 .cases m:H.may w.t
  .rw[m]at W;rw[kx (.inr O)];refine wU ?_;exact eQ
  .rw[m]at W;rw[ku (by simp[c])];by_cases c1:w.pc=1
   .rw[kx c1];have z:=kS JK (U6 X h p H w.t w.block I x.w x.pn);generalize H.pin w.t w.block=r at z⊢;obtain⟨H',u⟩:=r;dsimp only at z⊢;have k:u=1∨u=2∨u=3∨ ¬(u=1∨u=2∨u=3):=eY;rcases k with q|q|q|q
    .subst q;rw[kx (.inl O)];exact bR
    .subst q;rw[kx (.inr O)];exact bR
    .subst q;rw[ku ki,kx O];exact bR
    .have s:¬u=1:=λe=>q (.inl e);have o:¬u=2:=λe=>q (.inr (.inl e));have U:¬u=3:=λe=>q (.inr (.inr e));rw[ku (by simp[s,o]),ku U];refine wU ?_;intro Y y t;have K:=Z.Hb ki O t;have f:=K.2.2;unfold qP.av at f;refine wU ?_;exact ns O (K) λ_=>⟨gx,trivial⟩
   .rw[ku c1];by_cases c2:w.pc=2
    .rw[kx c2];have z:=kS func79 (Pe X h p H w.t w.block I x.w);refine wU ?_;intro Y y t;have K:=Z.Hb ki O t;have f:=K.2.2;unfold qP.av at f;refine wU ?_;exact eR
    .rw[ku c2];by_cases c3:w.pc=3
     .rw[kx c3];have z:=kS func80 (Pa X h p H w.t w.block false I x.w x.sm);cases a:w.above
      .skip
       refine wU ?_;intro Y y t;have K:=Z.Hb ki O t;have f:=K.2.2;unfold qP.av at f;rw[a]at f;refine wU ?_;exact eR
      .skip
       refine wU ?_;intro Y y t;have K:=Z.Hb ki O t;have f:=K.2.2;unfold qP.av at f;rw[a]at f;refine wU ?_;exact ns O ((K.put ki _).put ki _) λ_=>⟨gx,trivial⟩
     .rw[ku c3];by_cases v:w.pc=4
      .rw[kx v];have z:=kS Dk (BP X h p H w.t w.parent I x.w x.sm x.pn);exact bR
      .rw[ku v];have z:=kS func116 (j);refine wU ?_;intro Y y t;have f:=t.2.2;unfold qP.av at f;refine wU ?_;exact ns O (t) λ_=>⟨gx,trivial⟩
end
