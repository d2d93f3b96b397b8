/- Part of the proof, without conditions. -/
import Derived.Test.YtfkhhohdgeckdaaGreatP28
namespace Go.Proofs.YtfkhhohdgeckdaaGreat
open Go RowKit Proofs.Tryz
set_option linter.all false
set_option maxRecDepth 100000
set_option maxHeartbeats 16000000
noncomputable def lX.st(S:lX)(t:Nat):Int:=if S.may t=true then 0 else match S.cl[t]? with
 |some c=>if c.ended=true then 2 else 1
 |none=>1
noncomputable def lX.pJ(S:lX)(n:Nat):ox:=(List.range n).foldl (λtb t=>tb.u6 (t:Nat) (S.st t)) S.tb
def lX.n(S:lX):Nat:=S.cl.length+S.fl.length+1
noncomputable def lX.tell(S:lX):lX:={S with tb:=S.pJ S.n}
def lX.uf(S:lX)(n:Nat):S.pJ (n+1)=(S.pJ n).u6 (n:Nat) (S.st n):=by
 unfold lX.pJ;rw[EO,GD];rfl
theorem lX.R6(S:lX):S.pJ 0=S.tb:=rfl
theorem als(S:lX)(tb:ox)(t:Nat):lX.may {S with tb:=tb} t=S.may t:=rfl
theorem lX.zo{S:lX}(w:S.tb.Wf):∀n,(S.pJ n).Wf
 |0=>w
 |n+1=>by rw[S.uf];exact(lX.zo w n).u6 _ _
section
attribute [local irreducible] kE lM AW mU lL mG mC lj lT ly kN AS lF kP.mm kP.waits kP.free BA kP.u9 mK mo kG.read lh kP.me kG.write kG.may pf kG.look kG.due yt lX.may lX.pJ ox.u6
def Hh(X:kY)(h:Nat)(p:va)(S:lX)(r:oX X h p S)(x:S.H.Ok)(w:S.tb.Wf):mZ prog 40 [lQ (19,h) p.b] X (.mz []) (λC _=>yk h p.b S.tell X C):=by
 have a:=r.o;have b:=r.t;have U:=Jn h p.cb p.fb;have H:=r.lc;have D:=r.lf;have G:=r.n8;have hn:(yt h p.cb p.fb).length=S.n:=by unfold lX.n;omega
 have F:S.n<=8:=G;refine kz func40 O ntmps40 O ki [] O λE T N n=>?_;refine wJ ?_;refine kU (λj:Nat×kY=>⟨[(0,lQ (19,h) p.b),(9,.raw (20,h) [] (sv 1 (some (p.bt,p.ot)) (yt h p.cb p.fb).length p.ct)),(10,kq ((yt h p.cb p.fb).length:Nat)),(11,kq (j.1:Nat))],[(4999,.ext (Sg j.2))]⟩) (λj=>j.1<=S.n/\pw h X j.2/\oX j.2 h p {S with tb:=S.pJ j.1}) (λj=>S.n- j.1) (0,X) ⟨kO _,pw.refl h X,by dsimp only;rw[S.R6];exact r⟩ ed (λj k=>?_);obtain⟨j,Y⟩:=j;dsimp only at k⊢;obtain⟨k,s,I⟩:=k;have y:=I.o;have q:=I.t;by_cases d:j<S.n
 .have A:j<(yt h p.cb p.fb).length:=by omega
  have w':=lX.zo w j;have P:=S.uf j;have B:j<=S.cl.length+S.fl.length:=by unfold lX.n at d;omega
  have W:=lH func85 (acL Y h p {S with tb:=S.pJ j} j I x B);rw[als]at W;have z:=kS func86 (ag8 Y h p.tb (S.pJ j) (j:Nat) I.tb w');have f:=kS func88 (acC Y h p.tb (S.pJ j) (j:Nat) I.tb w');have t:=kS func87 (akr Y h p.tb (S.pJ j) (j:Nat) I.tb w')
  have next:∀Z,sQ h Y Z/\CM Z h p.tb ((S.pJ j).u6 (j:Nat) (S.st j))->pw h X Z/\oX Z h p {S with tb:=S.pJ (j+1)}:=λZ o=>by
   rw[P];exact⟨s.trans λl g=>o.1 l λe=>g (.inr (.inl jX)),I.table o.1 o.2⟩
  by_cases c1:j<S.cl.length
  .have u:S.cl[j]?=some S.cl[j]:=kQ c1;have hb:p.cb[j]?=some p.cb[j]:=kQ kh;have K:=I.cl j _ _ u hb;have L:=XY (h:=h) (fb:=p.fb) hb;unfold R4 at L;have M:S.st j=if S.may j=true then 0 else if S.cl[j].ended=true then 2 else 1:=by unfold lX.st;rw[u]
   have V:=lH func64 (En Y (8*h+j) p.cb[j] S.cl[j] K);generalize S.cl[j]=c at u K M V;generalize p.cb[j]=cb at hb K L V;cases m:S.may j
   .rw[m]at W;rw[ku j8]at M;cases e:c.ended
    .rw[e]at V;rw[ku kc]at M;exact bJ
    .rw[e]at V;rw[kx e]at M;exact bJ
   .rw[m]at W;rw[kx m]at M;exact bJ
  .have u:S.cl[j]?=none:=pN kh;have M:S.st j=if S.may j=true then 0 else 1:=by unfold lX.st;rw[u]
   by_cases c2:j- S.cl.length<S.fl.length
   .obtain⟨i,hi⟩:∃i,j=p.cb.length+i:=⟨j- p.cb.length,by omega⟩;have hb:p.fb[i]?=some p.fb[i]:=kQ kh;have L:=XW (h:=h) (cb:=p.cb) hb;unfold R3 at L;rw[<-hi]at L;generalize p.fb[i]=fb at hb L;exact az
   .have hi:j=p.cb.length+p.fb.length:=by omega
    have L:=XX (h:=h) (cb:=p.cb) (fb:=p.fb);unfold tkE at L;rw[<-hi]at L;exact az
 .obtain rfl:j=S.n:=by omega
  have A:¬S.n<(yt h p.cb p.fb).length:=eY;refine wJ ?_;refine ns O ?_ λ_=>trivial;exact⟨s,p,rfl,I⟩
end
