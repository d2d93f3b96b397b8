/- Part of the proof, without conditions. -/
import Derived.Test.YtfkhhohdgeckdaaGreatP22
namespace Go.Proofs.YtfkhhohdgeckdaaGreat
open Go RowKit Proofs.Tryz
set_option linter.all false
set_option maxRecDepth 100000
set_option maxHeartbeats 16000000
section
attribute [local irreducible] kE lM AW mU lL mG mC lj lT ly kN AS lF kP.mm kP.waits kP.free BA kP.u9 mK mo kG.read lh kP.me kG.write qj lx rO oc nZ rI kG.may kG.pin kG.load kG.take kG.leave
def acz(X:kY)(h g i b:Nat)(H:kG)(w:qP)(D:mY X h g H)(x:H.Ok)(j:Xt X i b w)(T:w.Ok)(c:¬((H.c.node w.block).isSome=true/\qj lx w.k (H.nd w.block).ps<(H.nd w.block).ks.length)):mZ prog 116 [lQ (24,i) b,lQ (1,h) g] X (.mz []) (λC _=>uw h g (24,i) b X (w.look H).2 (w.look H).1.av C):=by
 obtain⟨p,rfl,I⟩:=D;have W:=lH yJ (zX X h p.c H.c w.block I.c x.w.c);have P:=x.nd w.block;rw[show(H.c.node w.block).getD ⟨false,[],[],[],[]⟩=H.nd w.block from rfl]at W;have d:=j.o;have f:=I.o;unfold qP.av at d;have Y:uw h p.b (24,i) b X H w.av X:=⟨pR.refl _ _ _,⟨p,rfl,I⟩,j.o⟩;unfold qP.look qP.alD;generalize H.nd w.block=n at W P c⊢;have t:=P.gd;have l1:=t.es;have l2:=t.ks;have M:=t.ps;have R:=t.ms;have z:=kD func168 (aj7 n.ps w.k kh);refine kz func116 O ntmps116 O ki [] O λE S N k=>?_;rw[ku jK]
 have u:(H.c.node w.block).isSome=false∨(H.c.node w.block).isSome=true/\ ¬(qj lx w.k n.ps)<n.ks.length:=by
  cases q:(H.c.node w.block).isSome
  .exact .inl O
  .exact .inr ⟨O,λe=>c ⟨q,e⟩⟩
 have G:=Qm h p.b H w.t w.block x;have L:mY X h p.b H:=⟨p,rfl,I⟩;have l:=kD func171 (Xm n.es w.k t.lf.DV kh);cases a:w.any
 .have o:w.tell n={w with value:=(N9 (oc w.k n.es)).1,found:=(N9 (oc w.k n.es)).2,pc:=6,pinned:=false}:=by simp only[qP.tell,qP.ahI,a];simp
  rw[o];rw[a]at d;generalize N9 (oc w.k n.es)=r at l⊢;obtain⟨J,v⟩:=r;rcases u with c1|⟨c1,c2⟩<;>rw[c1]at W
  all_goals
   refine wU ?_;intro Z y m;have K:=((Y.put ki _).put ki _).go ki m;have A:=K.2.2;refine wU ?_;refine ns O ?_ λ_=>trivial;rw[a];exact(K.put ki _).put ki _
 .have o:w.tell n={w with value:=(rI (N9 (oc w.k n.es)).1 (N9 (oc w.k n.es)).2 w.m).1,found:=(rI (N9 (oc w.k n.es)).1 (N9 (oc w.k n.es)).2 w.m).2,pc:=6,pinned:=false}:=by simp only[qP.tell,qP.ahI,a];simp
  rw[o];rw[a]at d;have B:=kD Kd (ZH (N9 (oc w.k n.es)).1 (N9 (oc w.k n.es)).2 w.m ⟨(lq.spec (T a)).1,(lq.spec (T a)).2.1⟩);generalize N9 (oc w.k n.es)=r at l B⊢;obtain⟨J,v⟩:=r;generalize rI J v w.m=s at B⊢;obtain⟨V,F⟩:=s;rcases u with c1|⟨c1,c2⟩<;>rw[c1]at W
  all_goals
   refine wU ?_;intro Z y m;have K:=((((Y.put ki _).put ki _).put ki _).put ki _).go ki m;have A:=K.2.2;refine wU ?_;refine ns O ?_ λ_=>trivial;rw[a];exact(K.put ki _).put ki _
def ag6(X:kY)(h d i b:Nat)(H:kG)(w:qP)(D:mY X h d H)(x:H.Ok)(e:Xt X i b w)(T:w.Ok):mZ prog 116 [lQ (24,i) b,lQ (1,h) d] X (.mz []) (λC _=>uw h d (24,i) b X (w.look H).2 (w.look H).1.av C):=by
 by_cases c:(H.c.node w.block).isSome=true/\qj lx w.k (H.nd w.block).ps<(H.nd w.block).ks.length
 .exact acA X h d i b H w D x e T c
 .exact acz X h d i b H w D x e T c
end
