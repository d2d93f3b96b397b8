/- Part of the proof, without conditions. -/
import Derived.Test.YtfkhhohdgeckdaaGreatP22
namespace Go.Proofs.YtfkhhohdgeckdaaGreat
open Go RowKit Proofs.Tryz
set_option linter.all false
set_option maxRecDepth 100000
set_option maxHeartbeats 16000000
section
attribute [local irreducible] kE lM AW mU lL mG mC lj lT ly kN AS lF kP.mm kP.waits kP.free BA kP.u9 mK mo kG.read lh kP.me kG.write qj lx rO oc nZ rI kG.may kG.pin kG.load kG.take kG.leave Co ta rU rV rD kG.set kG.fits kG.born kG.bears kG.alloc
def ahd(X:kY)(h f i b N:Nat)(H:kG)(r:mT)(p c:Nd)(g:p.In)(u:c.In)(D:mY X h f H)(w:H.Bd N)(L:N<=80000)(I:X (26,i)=some (.var b r.av)):mZ prog 133 [lQ (26,i) b,lQ (1,h) f,p.av,c.av] X (.mz []) (λC _=>uw h f (26,i) b X (r.push H p c).2 (r.push H p c).1.av C):=by
 have F:=w.ok kh;have n:uw h f (26,i) b X H r.av X:=⟨pR.refl _ _ _,D,I⟩;have a:=I;have l2:=u.ks;have l3:=g.ks;unfold mT.av at a;unfold mT.push;have W:=kD Dx (Kr p.ks r.lower kh);have z:=kD Gs (ab1 p c g.gd u.gd (lF p.ks r.lower));obtain⟨B,J⟩:=ahR g u (lF p.ks r.lower);refine kz func133 O ntmps133 O ki [] O λE S P l=>?_;by_cases c1:c.leaf=false/\c.ks.length=4
 .rw[kx c1];obtain⟨a1,a2⟩:=c1;have a3:(!c.leaf)=true:=by rw[a1];rfl
  refine wU ?_;exact eO
 .rw[ku c1]
  have hcs:(c.leaf=true/\(!c.leaf)=false)∨((c.leaf=false/\(!c.leaf)=true)/\ ¬c.ks.length=4):=by
   cases q:c.leaf
   .exact .inr ⟨⟨O,rfl⟩,λe=>c1 ⟨q,e⟩⟩
   .exact .inl ⟨O,rfl⟩
  generalize ta p c (lF p.ks r.lower)=s at z B J⊢;obtain⟨A,c2,ok⟩:=s;dsimp only at z B J⊢;cases ok
  .rw[ku ki];rcases hcs with⟨a1,a3⟩|⟨⟨a1,a3⟩,a2⟩
   .rw[kx a1];refine wU ?_;exact eO
   .rw[ku (by simp[a1])];have o:=kS func198 (RJ X h f i b H r D F I);refine wU ?_;intro Y y t;have T:(r.above H).1.lower=r.lower:=by unfold mT.above;split;split;rfl;rfl;rfl
    have d:=t.2.2;have K:=n.then t;generalize r.above H=R at d K T⊢;obtain⟨R,H2⟩:=R;dsimp only at d K T⊢;unfold mT.av at d;rw[<-T];refine wU ?_;exact ns O ((((K.put ki _).put ki _).put ki _).put ki _) λ_=>trivial
  .rw[kx O];have go:∀Y H2,uw h f (26,i) b X H2 r.av Y->H2.Bd N->True:=λ_ _ _ _=>trivial;obtain⟨q,rfl,k⟩:=D;have o:=kS AM (Hg X h q H r.t r.upper A B.sz k F.w);rcases hcs with⟨a1,a3⟩|⟨⟨a1,a3⟩,a2⟩
   all_goals
    refine wU ?_;intro Y y t;have K:=n.Hb ki O t;obtain⟨m,j,hq2⟩:=K.2.1;have hk2:=w.set r.t r.upper A;have d:=K.2.2;unfold mT.av at d;have G:=kS AM (Hg Y h m (H.set r.t r.upper A) r.t r.lower c2 J.sz hq2 (hk2.ok kh).w);rw[j]at G;refine wU ?_;intro Z y v;have hC:=K.Hb ki j v;have hk3:=hk2.set r.t r.lower c2;have M:=kS Gi (E5 Z h q.b i b _ r hC.2.1 (hk3.ok kh) hC.2.2);refine wU ?_;intro V y hV;have hD:=hC.then hV;have hk4:(r.below ((H.set r.t r.upper A).set r.t r.lower c2)).2.Bd (N+1):=hk3.leave _ _;have d6:=kS xf (BO V h q.b i b _ (r.below ((H.set r.t r.upper A).set r.t r.lower c2)).1 0 hD.2.1 (hk4.ok kh) hD.2.2);refine wU ?_;intro U y x;refine wU ?_;exact ns O (hD.then x) λ_=>trivial
end
