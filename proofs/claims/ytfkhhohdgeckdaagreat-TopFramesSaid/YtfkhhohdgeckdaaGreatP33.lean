/- Part of the proof, without conditions. -/
import Derived.Test.YtfkhhohdgeckdaaGreatP32
namespace Go.Proofs.YtfkhhohdgeckdaaGreat
open Go RowKit Proofs.Tryz
set_option linter.all false
set_option maxRecDepth 100000
set_option maxHeartbeats 16000000
def aaI{p c:Nd}(X:p.In)(u:c.In)(i id:Int):(yU p c i id).1.S4/\(yU p c i id).2.1.S4/\(yU p c i id).2.2.1.S4:=by
 unfold yU;split
 .exact aaJ X u i id
 .exact aaK X u i id
section
attribute [local irreducible] kE lM AW mU lL mG mC lj lT ly kN AS lF kP.mm kP.waits kP.free BA kP.u9 mK mo kG.read lh kP.me kG.write qj lx rO oc nZ rI kG.may kG.pin kG.load kG.take kG.leave Co ta rU rV rD kG.set kG.fits kG.born kG.bears kG.alloc yU
def acG(X:kY)(h e i b N:Nat)(H:kG)(r:mT)(p c:Nd)(j:p.In)(u:c.In)(D:mY X h e H)(w:H.Bd N)(hN:N<=80000)(I:X (26,i)=some (.var b r.av)):mZ prog 135 [lQ (26,i) b,lQ (1,h) e,p.av,c.av] X (.mz []) (λC _=>uw h e (26,i) b X (r.split H p c).2 (r.split H p c).1.av C):=by
 have G:=w.ok kh;have L:uw h e (26,i) b X H r.av X:=⟨pR.refl _ _ _,D,I⟩;have a:=I;have l1:=u.es;have l2:=u.ms;have l3:=j.ks;have l4:=j.ms;unfold mT.av at a;unfold mT.split;obtain⟨q,rfl,t⟩:=D;have f:=kS func200 (RO X h q H r.t 1 t G.w);have d0:=kD Dx (Kr p.ks r.lower kh);have g:=OM H r.t 1;have hk2:=w.alloc r.t 1;refine kz func135 O ntmps135 O ki [] O λE S P v=>?_;generalize H.alloc r.t 1=A at f g hk2⊢;obtain⟨H2,l,ok⟩:=A;dsimp only at f g hk2⊢;refine wU ?_;intro Y y z;have K:=L.Hb ki O z;have d:=K.2.2;unfold mT.av at d;obtain⟨x,m,hq2⟩:=K.2.1;cases ok
 .rw[ku ki];have M:=kS Gi (E5 Y h q.b i b _ r K.2.1 (hk2.ok kh) K.2.2);refine wU ?_;intro V y hV;have hD:=K.then hV;have hk4:(r.below H2).2.Bd (N+1):=hk2.leave _ _;have d6:=kS xf (BO V h q.b i b _ (r.below H2).1 3 hD.2.1 (hk4.ok kh) hD.2.2);refine wU ?_;intro U y hU;refine wU ?_;exact ns O (hD.then hU) λ_=>trivial
 .rw[kx O];have hl2:=g O
  obtain⟨a0,rfl⟩:∃a0,l= [a0]:=by
   match l,hl2 with
   | [a0],_=>exact⟨a0,rfl⟩
  rw[show[a0].getD 0 0=a0 from rfl];have hl0:0<([a0].map kq).length:=Nat.zero_lt_succ _;obtain⟨s1,s2,s3⟩:=aaI j u (lF p.ks r.lower) a0
  have hsp:(c.leaf=true/\mG prog 202 [p.av,c.av,kq (lF p.ks r.lower),kq a0] (zm (yU p c (lF p.ks r.lower) a0)))∨(c.leaf=false/\mG prog 201 [p.av,c.av,kq (lF p.ks r.lower),kq a0] (zm (yU p c (lF p.ks r.lower) a0))):=by
   unfold yU;cases hcl:c.leaf
   .refine .inr ⟨O,?_⟩;rw[ku ki];exact Q9 p c j.gd u.gd j.kp _ _
   .refine .inl ⟨O,?_⟩;rw[kx O];exact T9 p c j.gd u.gd j.kp kh kh _ _
  unfold zm at hsp;generalize yU p c (lF p.ks r.lower) a0=s at hsp s1 s2 s3⊢;obtain⟨p2,c2,n,ok⟩:=s;dsimp only at hsp s1 s2 s3⊢;cases ok
  .rw[ku ki];have M:=kS Gi (E5 Y h q.b i b _ r K.2.1 (hk2.ok kh) K.2.2);have hk4:(r.below H2).2.Bd (N+1):=hk2.leave _ _;rcases hsp with⟨hcl,o⟩|⟨hcl,o⟩
   .have F:=kD Gp (o);exact aM
   .have F:=kD Gm (o);exact aM
  .rw[kx O];have M:=kS AM (Hg Y h x H2 r.t r.upper p2 s1.sz hq2 (hk2.ok kh).w);rw[m]at M;have hk3:=hk2.set r.t r.upper p2;have hk4:=hk3.set r.t r.lower c2;have hk5:=hk4.born r.t a0 n;have hk6:(r.below (((H2.set r.t r.upper p2).set r.t r.lower c2).born r.t a0 n)).2.Bd (N+1):=hk5.leave _ _;rcases hsp with⟨hcl,o⟩|⟨hcl,o⟩
   .have F:=kD Gp (o);exact ak
   .have F:=kD Gm (o);exact ak
end
