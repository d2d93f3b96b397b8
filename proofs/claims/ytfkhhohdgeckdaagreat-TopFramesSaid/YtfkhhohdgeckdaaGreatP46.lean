/- Part of the proof, without conditions. -/
import Derived.Test.YtfkhhohdgeckdaaGreatP45
namespace Go.Proofs.YtfkhhohdgeckdaaGreat
open Go RowKit Proofs.Tryz
set_option linter.all false
set_option maxRecDepth 100000
set_option maxHeartbeats 16000000
section
attribute [local irreducible] kE lM AW mU lL mG mC lj lT ly kN AS lF kP.mm kP.waits kP.free BA kP.u9 mK mo kG.read lh kP.me kG.write kG.may pf kG.look kG.due yt kG.new lX.tell uJ qX lX.step lX.new kG.M7
theorem RH(v fill:Int)(ops mb:List Int)(y: -9223372036854775808<=v/\v<=9223372036854775807)(z: -9223372036854775808<=fill/\fill<=9223372036854775807)(g:∀x∈ops,-9223372036854775808<=x/\x<=9223372036854775807)(U:ops.length<=17592186043904)(Z:∀x∈mb,-9223372036854775808<=x/\x<=9223372036854775807)(hpl:mb.length<=17592186043904):
 mZ prog 8 [kq v,kq fill,lJ ops,lJ mb] Nf (kA true) (λ_ _=>True):=by
 have cst:=aae Nf 0 v fill ops y z g U O;have u:=Ly v (qX (fill%70).toNat ops);generalize uJ v (qX (fill%70).toNat ops)=c at cst u;have X:=kD func15 (Rk);have B:=kS func16 (cst);have L:=FrI.new u;refine kz func8 O ntmps8 O ki [_] O λE T N m=>?_;refine MU ?_;rintro Y J ⟨p,rfl,hY1,hY2⟩;generalize lX.new c=S0 at hY2 L;obtain⟨q,eq,e⟩:=hY2.hl;have F:S0.H.Ok:=L.sf.hk.ok (by have:=L.sf.pk;omega);have c3:=Ny Y 0 q S0.H (50,0) (ajW 0 0) e F.w F.sm;rw[eq]at c3;have G:=lH Dg (zj Y 0 p _ hY2);have d6:=kS func33 (c3)
 repeat (first|(refine l7 (lL.Cs 26 (19,0) [] (l0:=(0,0)) (p:= []) (v:=.pointer (some ⟨p.b,0,none⟩)) O) ?_;refine BS ?_)|(refine l7 (lL.Cs 28 (19,0) [] (l0:=(0,0)) (p:= []) (v:=.pointer (some ⟨p.b,0,none⟩)) O) ?_;refine BS ?_)|refine BS ?_)
 rintro W0 v2 ⟨A0,cap0,rfl,rfl⟩;refine MU ?_;refine lU (lL.Cs 9 (19,0) [] (l0:=(0,0)) (p:= []) (v:=.pointer (some ⟨p.b,0,none⟩)) O) ?_;refine lU (lL.Cs 11 (50,0) [] (l0:=(0,0)) (p:= []) (v:=sv 13 A0 S0.H.c.fr.length cap0) O) ?_
 refine kU (λj:Nat×kY×lX×Option (Nat×Nat)×Nat=>⟨[(3,lJ mb),(9,lQ (19,0) p.b),(10,.ptr 10 0 []),(12,kq (j.1:Nat)),(11,.raw (50,j.1) [] (sv 13 j.2.2.2.1 j.2.2.1.H.c.fr.length j.2.2.2.2))],[(10,.var c.av),(4999,.ext (Sg j.2.1))]⟩)
  (λj=>j.1<=mb.length/\j.1<=300/\(∃p':va,p'.b=p.b/\oX j.2.1 0 p' j.2.2.1)/\FrI c j.2.2.1/\j.2.1 (50,j.1)=some (.my 85 13 j.2.2.2.1 j.2.2.2.2 j.2.2.1.H.M7)) (λj=>300- j.1)
  (0,Y.put (50,0) (.my 85 13 A0 cap0 S0.H.M7),S0,A0,cap0) ?init ed (λj k=>?_)
 case init=>exact⟨kO _,kO _,⟨p,rfl,hY2.ang (lb:=(50,0)) ki⟩,L,by dsimp only;exact kC _ _ _⟩
 obtain⟨i,W,S,A,cap⟩:=j;obtain⟨C,r,⟨p',P,I⟩,L,f⟩:=k;dsimp only at C r I L f⊢;clear F c3 G d6 eq e;by_cases l1:i<mb.length
 .by_cases l2:i<300
  .have l2i:((i:Nat):Int)<300:=by omega
   have cs:=acF adk W 0 p' S mb[i] I L.sf;rw[P]at cs;have o:=kS Dh (cs);refine MU ?_;rintro V v3 ⟨hV1,w,d,hV2⟩;obtain⟨hI2,t⟩:=L.step mb[i];generalize S.step mb[i]=R at cs o hV2 hI2 t⊢;obtain⟨S2,tk,ok⟩:=R;dsimp only at hV2 hI2 t⊢;obtain⟨n,eq2,hq2⟩:=hV2.hl;have hok2:S2.H.Ok:=hI2.sf.hk.ok (by have:=hI2.sf.pk;omega);have c3:=Ny V 0 n S2.H (50,i+1) (ajW 0 (i+1)) hq2 hok2.w hok2.sm;have K:=zj V 0 w _ hV2;rw[eq2]at c3;rw[d]at K;clear o cs;have G:=lH Dg (K);have d6:=kS func33 (c3);refine MU ?_;have n0:0<=c.uM:=by have:=u.r;have:=u.f;omega
   have H:((S.H.c.fr.length:Nat):Int)=c.uM:=by rw[L.len];omega
   have n2:((S2.H.c.fr.length:Nat):Int)=c.uM:=by rw[hI2.len];omega
   have n3:S2.H.c.fr.length=S.H.c.fr.length:=eY;have M:S.H.M7.length=S.H.c.fr.length:=YZ _;have m2:S2.H.M7.length=S2.H.c.fr.length:=YZ _;rintro W2 v4 ⟨A2,cap2,rfl,rfl⟩;have hw1:(V.put (50,i+1) (.my 85 13 A2 cap2 S2.H.M7)) (50,i)=some (.my 85 13 A cap S.H.M7):=(ky _ _ ki).trans ((hV1 _ (Ww kh)).trans f);have hw2:(V.put (50,i+1) (.my 85 13 A2 cap2 S2.H.M7)) (50,i+1)=some (.my 85 13 A2 cap2 S2.H.M7):=kC _ _ _;have hR2:oX (V.put (50,i+1) (.my 85 13 A2 cap2 S2.H.M7)) 0 w S2:=hV2.ang (lb:=(50,i+1)) ki;generalize V.put (50,i+1) (.my 85 13 A2 cap2 S2.H.M7)=W2 at hw1 hw2 hR2⊢;clear G d6 c3 K hq2 eq2 hV1 hV2 I P
   repeat (first|(refine Bi (x:=HU 12) (λ_:Unit=>⟨[(3,lJ mb),(9,lQ (19,0) p.b),(10,.ptr 10 0 []),(12,kq (i:Nat)),(11,.raw (50,i) [] (sv 13 A S.H.c.fr.length cap)),(13,kq (tk:Nat)),(14,kA ok),(15,.raw (50,i+1) [] (sv 13 A2 S2.H.c.fr.length cap2))],[(10,.var c.av),(4999,.ext (Sg W2))]⟩) (λ_=>True) ?g12 ?_;rotate_left)|refine BS ?_)
   case g12=>
    refine lU (lL.Cs 15 (50,i+1) [] (l0:=(0,0)) (p:= []) (v:=sv 13 A2 S2.H.c.fr.length cap2) O) ?_;refine pB O hw1 λD s b3=>?_;cases A with
    |none=>have:=py List.length (b3 O).1;rw[M]at this;simp only[List.length_nil]at this;have a:=u.r;have b:=u.n;have l:=u.f;omega
    |some ab=>
    obtain⟨ab,ao⟩:=ab;refine pB O hw2 λb4 b5 b6=>?_;cases A2 with
    |none=>have:=py List.length (b6 O).1;rw[m2]at this;simp only[List.length_nil]at this;have a:=u.r;have b:=u.n;have l:=u.f;omega
    |some ab2=>
    obtain⟨ab2,ao2⟩:=ab2;rw[<-n3];refine lU (S':=⟨[(3,lJ mb),(9,lQ (19,0) p.b),(10,.ptr 10 0 []),(12,kq (i:Nat)),(11,.raw (50,i) [] (sv 13 (some (ab,ao)) S2.H.c.fr.length cap)),(13,kq (tk:Nat)),(14,kA ok),(15,.raw (50,i+1) [] (sv 13 (some (ab2,ao2)) S2.H.c.fr.length cap2))],[(10,.var c.av),(4999,.ext (Sg W2))]⟩) ?_ ?_
    ·(refine lL.sub ⟨?_,?_,?_⟩<;>repeat' (first|exact True.intro|rfl|apply And.intro))
    exact aoK u.n u.f n3.symm O hI2.fi (by have:=u.r;omega) t hw1 hw2
   intro _ _
   repeat refine MT ?_
   refine⟨(i+1,W2,S2,A2,cap2),⟨l1,l2,⟨w,d,hR2⟩,hI2,hw2⟩,by dsimp only;omega,?_⟩;exact ed
  .have l2i:¬((i:Nat):Int)<300:=by omega
   exact dz
 .have l1i:¬((i:Nat):Int)<(mb.length:Nat):=by omega
  exact dz
end
