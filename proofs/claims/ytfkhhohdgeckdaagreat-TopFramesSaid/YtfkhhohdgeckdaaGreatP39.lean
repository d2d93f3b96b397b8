/- Part of the proof, without conditions. -/
import Derived.Test.YtfkhhohdgeckdaaGreatP38
namespace Go.Proofs.YtfkhhohdgeckdaaGreat
open Go RowKit Proofs.Tryz
set_option linter.all false
set_option maxRecDepth 100000
set_option maxHeartbeats 16000000
section
attribute [local irreducible] kE lM AW mU lL mG mC lj lT ly kN AS lF kP.mm kP.waits kP.free BA kP.u9 mK mo kG.read lh kP.me kG.write qj lx rO oc nZ rI kG.may kG.pin kG.load kG.take kG.leave Co ta rU rV rD kG.set x6 mT.step o9.pin o9.load o9.take o9.insert o9.below
def acy(X:kY)(h d i b N:Nat)(H:kG)(w:o9)(G:BitVec 64)(D:mY X h d H)(x:H.Bd N)(o:N<=80000)(U:w.m.ok=true)(g:Uo X i b w)(Z:0<=w.pc/\w.pc<=5)(A:w.pc=4-> ∃r,w.room=some r/\(r.step H).2.Bd (N+5)):mZ prog 74 [lQ (25,i) b,lQ (1,h) d,qU G] X (.mz [kA (decide ((w.step H G).1.1.pc=5)),kA (w.step H G).2,kq (w.step H G).1.1.e]) (λC _=>Rt h d i b X (w.step H G).1.2 (w.step H G).1.1 C):=by
 have F:=x.ok kh;have M:=g;obtain⟨rb,j,I⟩:=g;have n:uw h d (25,i) b X H (w.av i rb) X:=⟨pR.refl _ _ _,D,j⟩;have a:=j;unfold o9.av at a;have t:=D;obtain⟨q,rfl,f⟩:=D;have W:=lH Dj (KH X h q H w.t f F.w F.sm);have K:=kD func117 (aga);generalize J:w.step H G=R;unfold o9.step at J
 have V:∀(S:(o9×kG)×Bool) (Y:kY),Rt h q.b i b X S.1.2 S.1.1 Y-> ∃v,Y (25,i)=some (.var b (.agg 34 [kq S.1.1.t,S.1.1.m.av,kq S.1.1.pc,kA S.1.1.pinned,tE (26,i) v,kq S.1.1.e])):=λS Y k=>by
  obtain⟨v,e,_⟩:=k.2.2;exact⟨v,e⟩
 by_cases u:w.pc=5
 .rw[kx (.inl u)]at J;exact bc
 .cases m:H.may w.t
  .rw[m]at W;rw[kx (.inr m)]at J;exact bc
  .rw[m]at W;rw[ku (by simp[u,m])]at J;by_cases B:w.pc=0
   .rw[kx B]at J;rw[B]at a;have z:=kS func172 (akm X h q.b i b H w G t F M);refine kz AL O Di O ki [_,_,_] O λE T P l=>?_
    repeat (first|refine Wv (HJ O O O O O O O O) hP ?_|refine XR ?_)
    intro Y y s;subst J;obtain⟨v,c⟩:=V (w.pin H,false) Y s;exact cC
   .rw[ku B]at J;by_cases c1:w.pc=1
    .rw[kx c1]at J;rw[c1]at a;have z:=kS func173 (ag7 X h q.b i b H w G t F M);refine kz AL O Di O ki [_,_,_] O λE T P l=>?_
     repeat (first|refine Wv (HJ O O O O O O O O) hP ?_|refine XR ?_)
     intro Y y s;subst J;obtain⟨v,c⟩:=V (w.load H,false) Y s;exact cC
    .rw[ku c1]at J;by_cases c2:w.pc=2
     .rw[kx c2]at J;rw[c2]at a;have z:=kS func174 (ag4 X h q.b i b H w G t F M);refine kz AL O Di O ki [_,_,_] O λE T P l=>?_
      repeat (first|refine Wv (HJ O O O O O O O O) hP ?_|refine XR ?_)
      intro Y y s;subst J;obtain⟨v,c⟩:=V (w.take H,false) Y s;exact cC
     .rw[ku c2]at J;by_cases c3:w.pc=3
      .rw[kx c3]at J;rw[c3]at a;have z:=kS func175 (aac X h q.b i b N H w G t x o U M);refine kz AL O Di O ki [_,_,_] O λE T P l=>?_
       repeat (first|refine Wv (HJ O O O O O O O O) hP ?_|refine XR ?_)
       intro Y y s;generalize w.insert H G=S at J s z;subst J;obtain⟨v,c⟩:=V S Y s;exact cC
      .rw[ku c3]at J;have p:w.pc=4:=eY;obtain⟨r,e,L⟩:=A p;rw[e]at J;dsimp only at J;rw[p]at a;have z:=kS func176 (acB X h q.b i b N H w r G t x o L M e);refine kz AL O Di O ki [_,_,_] O λE T P l=>?_
       repeat (first|refine Wv (HJ O O O O O O O O) hP ?_|refine XR ?_)
       intro Y y s;subst J;obtain⟨v,c⟩:=V (w.below H r,false) Y s;exact cC
end
