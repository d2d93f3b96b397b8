/- Part of the proof, without conditions. -/
import Derived.Test.YtfkhhohdgeckdaaGreatP35
namespace Go.Proofs.YtfkhhohdgeckdaaGreat
open Go RowKit Proofs.Tryz
set_option linter.all false
set_option maxRecDepth 100000
set_option maxHeartbeats 16000000
abbrev aoz(i b:Nat):AV:=.fn (.func 77) [] [.ref (lQ (27,i) b)]
def qf.Sm(f:qf):Prop:= -1000000000<=f.rounds/\f.rounds<=1000000000/\ -1000000000<=f.Cu/\f.Cu<=1000000000
section
attribute [local irreducible] kE lM AW mU lL mG mC lj lT ly kN AS lF kP.mm kP.waits kP.free BA kP.u9 mK mo kG.read lh kP.me kG.write qj lx rO oc nZ rI kG.may kG.pin kG.load kG.take kG.leave Co ta rU rV rD kG.set x6 pf mT.step
def aai(X:kY)(h j i b:Nat)(H:kG)(f:qf)(D:mY X h j H)(N:Nat)(w:H.Bd N)(x:N<=80000)(z:Jk X i b f)(B:f.Sm):mZ prog 81 [lQ (27,i) b,lQ (1,h) j,aoz i b] X (.mz []) (λC _=>Uw h j i b X (f.look H).2 (f.look H).1 C):=by
 have F:=w.ok kh;obtain⟨rb,k,I⟩:=z;have r:uw h j (27,i) b X H (f.av i rb) X:=⟨pR.refl _ _ _,D,k⟩;have g:=k;unfold qf.av at g;have G:=D;obtain⟨q,rfl,m⟩:=D;have o:=m.o;have W:=lH yJ (zX X h q.c H.c 0 m.c F.w.c);rw[show(H.c.node 0).getD ⟨false,[],[],[],[]⟩=H.nd 0 from rfl]at W;have R:=F.nd 0;unfold qf.look;generalize H.nd 0=n at W R⊢;have A:=kD func130 (IT n (Nd.NO R.sm) (λ_=>R.gd.lf.ok.bd));refine kz func81 O ntmps81 O ki [] O λE S P p=>?_;cases c:pf n
 .rw[c]at A;rw[ku ki];have t:=Qm h q.b H f.t 0 F;have J:=w.leave f.t 0;generalize (H.leave f.t 0)=L at t J⊢;obtain⟨H2,T⟩:=L;dsimp only at t J⊢;cases rb with
  |none=>
   unfold tE at g;refine wU ?_;intro Y y s;have K:=(r.put ki _).go ki s;have v:=kS func77 (Em Y h q.b i b H2 {f with pinned:=false} false K.2.1 ⟨none,K.2.2⟩ B);refine wJ ?_;intro Z y u;refine wJ ?_;refine ns O ?_ λ_=>trivial;exact Uw.of (rb:=none) O (K.then u)
  |some r0=>
   unfold tE at g;refine wU ?_;intro Y y s;have K:=(r.put ki _).go ki s;have v:=kS func77 (Em Y h q.b i b H2 {f with pinned:=false} false K.2.1 ⟨(some r0),K.2.2⟩ B);refine wJ ?_;intro Z y u;refine wJ ?_;refine ns O ?_ λ_=>trivial;exact Uw.of (rb:=none) O (K.then u)
 .rw[c]at A;rw[kx O]
  have t:sR 131 [kq f.t,kA false] (26,i) (mT.new f.t false).av:=λY=>by have d:=kS func131 (acI Y i f.t false);exact d
  cases rb
  all_goals
   unfold tE at g;refine wJ ?_;rintro Z y ⟨M,rfl,rfl⟩
   repeat (first|(refine l7 (lL.Cs 27 (26,i) [] O) ?_;refine XR ?_)|refine XR ?_)
   refine ns O ?_ λ_=>trivial;refine⟨λl a c=>?_,?_,some M,?_,M,rfl,?_⟩
   .have c1:l≠(27,i):=λe=>c kc;have c2:l≠(26,i):=λe=>c kc;simp only[ky _ _ c1,ky _ _ c2]
   .exact(((G.put ki).put ki).put ki).put ki
   .rw[kC];rfl
   .rw[ky _ _ ki,ky _ _ ki,kC]
def HZ(X:kY)(i b:Nat)(f:qf)(z:Jk X i b f):Xr 98 "Rest" [lQ (27,i) b] X (kA f.rest):=by have d:=lH func141 (Nz X i b f z);exact akk d O jC
def aah(X:kY)(h g i b:Nat)(H:kG)(f:qf)(D:mY X h g H)(N:Nat)(w:H.Bd N)(u:N<=80000)(z:Jk X i b f)(B:f.Sm)(F:f.pc=5-> ∃r,f.room=some r/\(r.step H).2.Bd (N+5)):mZ prog 38 [lQ (27,i) b,lQ (1,h) g] X (kA (H.may f.t&&(f.step H).1.rest)) (λC _=>Uw h g i b X (f.step H).2 (f.step H).1 C):=by
 have G:=w.ok kh;have hf0:=z;obtain⟨rb,j,I⟩:=z;have n:uw h g (27,i) b X H (f.av i rb) X:=⟨pR.refl _ _ _,D,j⟩;have a:=j;unfold qf.av at a;have x:=D;obtain⟨q,rfl,k⟩:=D;have W:=lH Dj (KH X h q H f.t k G.w G.sm);generalize J:f.step H=R;unfold qf.step at J;cases m:H.may f.t
 .rw[m]at W;rw[kx m]at J;subst J;refine kz func38 O ntmps38 O ki [_] O λE T P l=>?_;refine wJ ?_;exact ns O (Uw.of I n) λ_=>⟨gx,trivial⟩
 .rw[m]at W;rw[ku j8]at J;rw[xl];refine kz func38 O ntmps38 O ki [_] O λE T P l=>?_
  repeat (first|(refine l7 (lL.froz T 2 O) ?_;refine l7 (lL.ref 2 2 O O O) ?_)|refine XR ?_)
  by_cases c1:f.pc=1
  .rw[kx c1]at J;subst J;have A:=kS func78 (acP X h q.b i b H f ⟨q,rfl,k⟩ G hf0);exact cX
  .rw[ku c1]at J;by_cases c2:f.pc=2
   .rw[kx c2]at J;subst J;have A:=afP h q.b H f.t 0 G;refine wJ ?_;intro Y y s;have K:=n.go ki s;have d:=K.2.2;unfold qf.av at d
    repeat (first|(refine xu 19 (Uw h q.b i b X (H.load f.t 0).1 {f with pc:=3}) O (Uw.of I (K.put ki _)) λZ o=>?_;have d9:=HZ Z i b _ o.2.2)|refine XR ?_)
    exact eS
   .rw[ku c2]at J;by_cases c3:f.pc=3
    .rw[kx c3]at J;subst J;have A:=afN h q.b H f.t 0 true G;refine wJ ?_;intro Y y s;have K:=n.go ki s;have d:=K.2.2;unfold qf.av at d
     repeat (first|(refine xu 19 (Uw h q.b i b X (H.take f.t 0 true) {f with pc:=4}) O (Uw.of I (K.put ki _)) λZ o=>?_;have d9:=HZ Z i b _ o.2.2)|refine XR ?_)
     exact eS
    .rw[ku c3]at J;by_cases v:f.pc=4
     .rw[kx v]at J;subst J;have A:=kS func81 (aai X h q.b i b H f ⟨q,rfl,k⟩ N w u hf0 B);exact cX
     .rw[ku v]at J;by_cases M:f.pc=5
      .rw[kx M]at J;obtain⟨r,e,L⟩:=F M;rw[e]at I J;obtain⟨U,rfl,I⟩:=I;dsimp only at J;unfold qf.below at J;unfold tE at a;have A:=kS Gg (XK X h q.b i U N H r ⟨q,rfl,k⟩ w u I);generalize r.step H=S at A L J;obtain⟨p,H2⟩:=S;dsimp only at A L J;generalize (if r.pc=11∨H.may r.t=true then p.e else 0)=V at A J;refine wJ ?_;intro Y y s;have hx2:Y (27,i)=some (.var b (f.av i (some U))):=(s.1 _ (HT ki) ki).trans j;have K:uw h q.b (27,i) b Y H2 (f.av i (some U)) Y:=⟨pR.refl _ _ _,s.2.1,hx2⟩;have hXY:pR h [(27,i),(26,i)] X Y:=s.1.mono ki;have d:=hx2;unfold qf.av tE at d;by_cases c:p.pc=11
       .rw[kx c]at J;subst J;rw[kW c];have t:=kS func77 (Em Y h q.b i b H2 f (decide (V=0)) K.2.1 ⟨some U,hx2⟩ B);refine wJ ?_;intro Z y o;have hF:Uw h q.b i b X H2 (f.round (decide (V=0))) Z:=⟨hXY.trans (o.1.mono ki),o.2.1,none,o.2.2,rfl⟩;have d9:=HZ Z i b _ hF.2.2;refine wJ ?_;exact eV
       .rw[ku c]at J;subst J;rw[la c];have hF:Uw h q.b i b X H2 {f with room:=some p} Y:=⟨hXY,s.2.1,some U,hx2,U,rfl,s.2.2⟩;have d9:=HZ Y i b _ hF.2.2;refine wJ ?_;exact eV
      .rw[ku M]at J;subst J;have d9:=HZ X i b _ hf0;refine wJ ?_;exact ns O (Uw.of I n) λ_=>⟨gx,trivial⟩
end
