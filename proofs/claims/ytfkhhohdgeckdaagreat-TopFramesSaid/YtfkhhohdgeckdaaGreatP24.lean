/- Part of the proof, without conditions. -/
import Derived.Test.YtfkhhohdgeckdaaGreatP22
import Derived.Test.YtfkhhohdgeckdaaGreatP18
namespace Go.Proofs.YtfkhhohdgeckdaaGreat
open Go RowKit Proofs.Tryz
set_option linter.all false
set_option maxRecDepth 100000
set_option maxHeartbeats 16000000
structure wa where
 ops:List qn
 next:Nat
 read:Option qP
 write:Option o9
def wa.av(i:Nat)(rb K:Option Nat)(c:wa):AV:=.agg 4 [qW c.ops,kq (c.next:Nat),tE (24,i) rb,tE (25,i) K]
def MF(X:kY)(i:Nat)(rb:Option Nat):Option qP->Prop
 |none=>rb=none
 |some w=>∃b,rb=some b/\Xt X i b w
def G0(X:kY)(i:Nat)(K:Option Nat):Option o9->Prop
 |none=>K=none
 |some w=>∃b,K=some b/\Uo X i b w
def Ux(X:kY)(i b:Nat)(c:wa):Prop:=∃rb K,X (23,i)=some (.var b (c.av i rb K))/\MF X i rb c.read/\G0 X i K c.write
def wa.busy(c:wa):Bool:=c.read.isSome||c.write.isSome
def wa.ended(c:wa):Bool:= !c.busy&&decide (c.next=c.ops.length)
variable {X C:kY}{i:Nat}{rb:Option Nat}
def MF.off{o:Option qP}(k:MF X i rb o)(h:C (24,i)=X (24,i)):MF C i rb o:=by
 cases o with
 |none=>exact k
 |some r=>obtain⟨b,e,j⟩:=k;exact⟨b,e,⟨h.trans j.o⟩⟩
def G0.off{o:Option o9}(k:G0 X i rb o)(h:C (25,i)=X (25,i))(p:C (26,i)=X (26,i)):G0 C i rb o:=by
 cases o with
 |none=>exact k
 |some r=>
  obtain⟨b,e,J,j,H⟩:=k;exact⟨b,e,J,h.trans j,H.off p⟩
variable {b:Nat}
def Ux.off{c:wa}(k:Ux X i b c)(h:∀a,23<=a->a<=26->C (a,i)=X (a,i)):Ux C i b c:=by
 obtain⟨rb,K,d,e,l⟩:=k;exact⟨rb,K,(h 23 kh kh).trans d,e.off (h 24 kh kh),l.off (h 25 kh kh) (h 26 kh kh)⟩
def Jk.off{f:qf}(k:Jk X i b f)(h:∀a,26<=a->a<=27->C (a,i)=X (a,i)):Jk C i b f:=by
 obtain⟨rb,c,d⟩:=k;exact⟨rb,(h 27 kh kh).trans c,d.off (h 26 kh kh)⟩
structure lX where
 H:kG
 tb:ox
 cl:List wa
 fl:List qf
 ops:List (List qn)
 ev:List xD
 seq:BitVec 64
 mb:Int
structure va where
 b:Nat
 hb:Nat
 tb:Nat
 bt:Nat
 ot:Nat
 ct:Nat
 Ae:Option (Nat×Nat)
 ce:Nat
 cb:List Nat
 fb:List Nat
def R4(h j b:Nat):AV:=.ifc 96 (lQ (23,8*h+j) b)
def R3(h n j b:Nat):AV:=.ifc 100 (.agg 1 [lQ (27,8*h+(n+j)) b])
def tkE:AV:=.ifc 103 (.agg 0 [])
def yt(h:Nat)(cb fb:List Nat):List AV:=cb.mapIdx (R4 h)++(fb.mapIdx (R3 h cb.length)++[tkE])
def wK(ops:List (List qn)):AV:=.sl none 1 (ops.map qW)
abbrev Ow(h:Nat)(p:va)(S:lX):AV:=.agg 7 [lQ (1,h) p.hb,lQ (18,h) p.tb,.raw (20,h) [] (sv 1 (some (p.bt,p.ot)) (yt h p.cb p.fb).length p.ct),wK S.ops,.raw (22,h) [] (sv 22 p.Ae (S.ev.map xD.av).length p.ce),qU S.seq,kq S.mb]
structure oX(X:kY)(h:Nat)(p:va)(S:lX):Prop where
 o:X (19,h)=some (.var p.b (Ow h p S))
 t:X (20,h)=some (.my 95 1 (some (p.bt,p.ot)) p.ct (yt h p.cb p.fb))
 e:X (22,h)=some (.my 51 22 p.Ae p.ce (S.ev.map xD.av))
 hl:mY X h p.hb S.H
 tb:CM X h p.tb S.tb
 lc:p.cb.length=S.cl.length
 lf:p.fb.length=S.fl.length
 cl:∀j c b,S.cl[j]?=some c->p.cb[j]?=some b->Ux X (8*h+j) b c
 fl:∀j f b,S.fl[j]?=some f->p.fb[j]?=some b->Jk X (8*h+(S.cl.length+j)) b f
 n8:S.cl.length+S.fl.length+1<=8
def Xy(h:Nat)(l:nz):Prop:=uZ h l∨(17<=l.1/\l.1<=22/\l.2=h)∨(23<=l.1/\l.1<=27/\l.2/8=h)
def pw(h:Nat)(X C:kY):Prop:=∀l,¬Xy h l->C l=X l
def yk(h b:Nat)(S':lX)(X C:kY):Prop:=pw h X C/\ ∃p:va,p.b=b/\oX C h p S'
def pw.refl(h:Nat)(X:kY):pw h X X:=λ_ _=>rfl
variable {h:Nat}{Y Z:kY}
def pw.trans(k:pw h X Y)(k':pw h Y Z):pw h X Z:=λl g=>(k' l g).trans (k l g)
variable {L:List nz}
def pR.hou(k:pR h L X Y)(hL:∀l∈L,Xy h l):pw h X Y:=λl g=>k l (λe=>g (.inl e)) λe=>g (hL l e)
def yk.refl{p:va}{S:lX}(k:oX X h p S):yk h p.b S X X:=⟨pw.refl h X,p,rfl,k⟩
def Jn(h:Nat)(cb fb:List Nat):(yt h cb fb).length=cb.length+fb.length+1:=by unfold yt;simp;omega
variable {cb fb:List Nat}{j:Nat}
def XY(i:cb[j]?=some b):(yt h cb fb)[j]?=some (R4 h j b):=by have g:j<cb.length:=(mS.1 i).1;unfold yt;rw[pF jN,sn,i];rfl
def XW(i:fb[j]?=some b):(yt h cb fb)[cb.length+j]?=some (R3 h cb.length j b):=by have g:j<fb.length:=(mS.1 i).1;unfold yt;rw[o7 ki,QB,QA,pF jN,sn,i];rfl
def XX:(yt h cb fb)[cb.length+fb.length]?=some tkE:=by
 unfold yt;rw[o7 ki,QB,QA,o7 ki,QB];simp
noncomputable def kG.due(H:kG):Bool:=(H.look 0).2&&pf (H.look 0).1
noncomputable def lX.may(S:lX)(t:Nat):Bool:=match S.cl[t]? with
 |some c=>if c.busy=true then S.H.may t else !c.ended
 |none=>match S.fl[t- S.cl.length]? with
  |some f=>if f.rest=true then S.H.due else S.H.may t
  |none=>decide (0<S.H.c.line.length)&&decide (S.H.c.free=0)
def YL{H:kG}(o:H.Ok)(k:Int):(H.look k).1.In:=by
 unfold kG.look;cases hn:H.c.node k with
 |none=>exact Yh H k
 |some n=>
  have:=o.nd k;unfold kG.nd at this;rw[hn]at this;exact this
def acn:lB prog 103 (.agg 0 []):=lR (v:=.agg #[]) (n:=0) j6 λU w=>by simp[Rd,qQ,Value.cells]
section
attribute [local irreducible] kE lM AW mU lL mG mC lj lT ly kN AS lF kP.mm kP.waits kP.free BA kP.u9 mK mo kG.read lh kP.me kG.write
def NA(X:kY)(i b:Nat)(c:wa)(u:Ux X i b c):mZ prog 110 [lQ (23,i) b] X (kA c.busy) (λC _=>C=X):=by
 obtain⟨rb,K,a,d,k⟩:=u;obtain⟨ops,nx,rd,wr⟩:=c;unfold wa.av at a;unfold wa.busy;dsimp only at a d k⊢;refine kz func110 O ntmps110 O ki [_] O λE S N j=>?_;cases rd with
 |some w=>
  obtain⟨z,rfl,_⟩:=d;unfold tE at a;rw[Option.isSome_some,Bool.true_or];exact dM
 |none=>
  have d:rb=none:=d;subst d;rw[Option.isSome_none,Bool.false_or];cases wr with
  |some w=>
   obtain⟨z,rfl,_⟩:=k;unfold tE at a;rw[Option.isSome_some];exact dM
  |none=>
   have k:K=none:=k;subst k;unfold tE at a;rw[Option.isSome_none];exact dM
def En(X:kY)(i b:Nat)(c:wa)(u:Ux X i b c):mZ prog 64 [lQ (23,i) b] X (kA c.ended) (λC _=>C=X):=by
 have W:=lH func110 (NA X i b c u);obtain⟨rb,K,a,d,l⟩:=u;unfold wa.av at a;unfold wa.ended;refine kz func64 O ntmps64 O ki [_] O λE S N j=>?_;cases k:c.busy
 .rw[k]at W;have e:decide (c.next=c.ops.length)=decide (((c.next:Nat):Int)=((c.ops.length:Nat):Int)):=A4.2 kh;rw[Bool.not_false,xl,e];exact dM
 .rw[k]at W;rw[Mf,yM];exact dM
section
attribute [local irreducible] kG.may pf kG.look kG.due
def acL(X:kY)(h:Nat)(p:va)(S:lX)(t:Nat)(m:oX X h p S)(w:S.H.Ok)(s:t<=S.cl.length+S.fl.length):mZ prog 85 [lQ (19,h) p.b,kq (t:Nat)] X (kA (S.may t)) (λC _=>C=X):=by
 have a:=m.o;have b:=m.t;have V:=Jn h p.cb p.fb;have r:=m.lc;have Y:=m.lf;have B:=m.n8;have Z:t<(yt h p.cb p.fb).length:=eY;obtain⟨q,P,d⟩:=m.hl;have W:=lH Dj (KH X h q S.H (t:Nat) d w.w w.sm);rw[P]at W;unfold lX.may;by_cases c1:t<S.cl.length
 .have u:S.cl[t]?=some S.cl[t]:=kQ c1;have hb:p.cb[t]?=some p.cb[t]:=kQ kh;have I:=m.cl t _ _ u hb;have L:=XY (h:=h) (fb:=p.fb) hb;unfold R4 at L;generalize S.cl[t]=c at u I;generalize p.cb[t]=cb at hb I L;have A:=lH func110 (NA X (8*h+t) cb c I);have e:=lH func64 (En X (8*h+t) cb c I);rw[u];dsimp only;refine kz func85 O ntmps85 O ki [_] O λE T N i=>?_;cases k:c.busy
  .rw[k]at A;rw[ku ki];exact dM
  .rw[k]at A;rw[kx O];exact dM
 .have hn:S.cl[t]?=none:=pN kh;rw[hn];dsimp only;by_cases c2:t- S.cl.length<S.fl.length
  .obtain⟨j,rfl⟩:∃j,t=p.cb.length+j:=⟨t- p.cb.length,by omega⟩;rw[<-r]at c2⊢;rw[QA]at c2⊢;have z:S.fl[j]?=some S.fl[j]:=kQ c2;have hb:p.fb[j]?=some p.fb[j]:=kQ kh;have I:=m.fl j _ _ z hb;rw[<-r]at I;have L:=XW (h:=h) (cb:=p.cb) hb;unfold R3 at L;generalize S.fl[j]=f at z I;generalize p.fb[j]=fb at hb I L;have A:=lH func141 (Nz X (8*h+(p.cb.length+j)) fb f I);have e:=lH func142 (amZ X h p.hb S.H m.hl w (YL w 0));rw[show((S.H.look 0).2&&pf (S.H.look 0).1)=S.H.due by unfold kG.due;rfl]at e;rw[z];dsimp only;refine kz func85 O ntmps85 O ki [_] O λE T N i=>?_;cases k:f.rest
   .rw[k]at A;rw[ku ki];exact dM
   .rw[k]at A;rw[kx O];exact dM
  .have y:S.fl[t- S.cl.length]?=none:=pN kh;rw[y];dsimp only;obtain rfl:t=p.cb.length+p.fb.length:=eY;have L:=XX (h:=h) (cb:=p.cb) (fb:=p.fb);unfold tkE at L;have U:=d.o;rw[P]at U;have A:=lH func92 (XO X h q.c S.H.c d.c w.w.c);have e:=lH func143 (ahi X h q S.H d w.w);rw[P]at e;have D:(S.H.c.line.map (·.task)).length=S.H.c.line.length:=kX _;have l:decide (0<S.H.c.line.length)=decide (((S.H.c.line.map (·.task)).length:Int)>0):=A4.2 kh;have R:decide (S.H.c.free=0)=decide (((S.H.c.free:Nat):Int)=0):=A4.2 kh;rw[l,R];refine kz func85 O ntmps85 O ki [_] O λE T N i=>?_;by_cases k:((S.H.c.line.map (·.task)).length:Int)>0
   .rw[kW k,xl];exact dM
   .rw[la k,yM];exact dM
end
end
