/- Part of the proof, without conditions. -/
import Derived.Test.YtfkhhohdgeckdaaGreatP19
namespace Go.Proofs.YtfkhhohdgeckdaaGreat
open Go RowKit Proofs.Tryz
set_option linter.all false
set_option maxRecDepth 100000
set_option maxHeartbeats 16000000
def Fr.ani(f:Fr)(L:nT):AV:=.agg 13 [kq f.st,kq f.oj,kq f.pins,kA f.ref,kA f.uO,f.nd.av,lJ L.rd,kq L.wr,.sl none 2 (L.qu.map oU)]
def Ch(fs:List Fr)(ls:List nT)(j:Nat):List AV:=fs.mapIdx λi f=>if i<j then(match ls[i]? with|some L=>f.ani L|none=>f.out)else f.out
def ad4(fs:List Fr)(ls:List nT):Ch fs ls 0=fs.map Fr.out:=by
 apply wv;intro i;simp[Ch]
def SH(fs:List Fr)(ls:List nT)(j:Nat):(Ch fs ls j).length=fs.length:=by simp[Ch]
variable {ls:List nT}{j:Nat}
def ahY{fs:List Fr}{f:Fr}(h:fs[j]?=some f):(Ch fs ls j)[j]?=some (.agg 13 [kq f.st,kq f.oj,kq f.pins,kA f.ref,kA f.uO,f.nd.av,mF,kq (-1),mF]):=by
 simp only[Ch,sn,h,J9,rL];rfl
def ad3{fs:List Fr}{f:Fr}{L:nT}(h:fs[j]?=some f)(hL:ls[j]?=some L):(Ch fs ls j).set j (f.ani L)=Ch fs ls (j+1):=by
 apply wv;intro i;rw[AO,SH];have k:=(mS.1 h).1;by_cases e:j=i
 .subst e;rw[kx O,kx k];simp[Ch,sn,h,hL]
 .rw[ku e];simp only[Ch,sn];by_cases c:i<j
  .simp[c,show i<j+1 by omega]
  .simp[c,show¬i<j+1 by omega]
def kG.M7(H:kG):List AV:=Ch H.c.fr H.sX H.c.fr.length
def Fr.Bl(f:Fr)(L:nT):Bool:=(decide (f.st=0)||decide (f.st=2))&&decide (f.pins<=0)&&(L.SK true&&decide (L.qu.length=0))
def kG.idle(H:kG):Bool:=((H.c.fr.zip H.sX).all λx=>x.1.Bl x.2)&&decide (H.c.line.length=0)
variable {X C:kY}{h:Nat}
def qR.off{p:rR}{H:kG}(k:qR X h p H)(e:H.Wf)(U:∀l,uZ h l->C l=X l):qR C h p H:=by
 have F:H.sX.length<=64:=by rw[k.ln];exact e.c.len
 refine⟨(U _ (.inl ⟨.inl O,rfl⟩)).trans k.o,(U _ (.inl ⟨.inr (.inl O),rfl⟩)).trans k.l,(U _ (.inl ⟨.inr (.inr O),rfl⟩)).trans k.r,k.rw,k.rg,k.c.off λl g=>U l (.inr (.inl g)),k.s.off λl g=>U l (.inr (.inr (.inl g))),k.ln,k.lp,λi L b a c=>?_⟩;have hi:=(mS.1 a).1;exact(k.lt i L b a c).off (U _ (.inr (.inr (.inr ⟨by simp,by simp,by dsimp only;omega⟩)))) (U _ (.inr (.inr (.inr ⟨by simp,by simp,by dsimp only;omega⟩)))) (U _ (.inr (.inr (.inr ⟨by simp,by simp,by dsimp only;omega⟩))))
variable {lb:nz}{xb:XB}
def qR.put{p:rR}{H:kG}(k:qR X h p H)(f:H.Wf)(c:¬uZ h lb):qR (X.put lb xb) h p H:=k.off f λl g=>ky _ _ λe=>c (e▸g)
def anA(h i:Nat):¬uZ h (17,i):=by rintro(⟨a,_⟩|⟨a,b,_⟩|⟨a,_⟩|⟨a,b,_⟩|⟨a,b,_⟩)<;>simp at*
def P9{H:kG}{f:Fr}{L:nT}(z:H.c.fr[j]?=some f)(hL:H.sX[j]?=some L)(h:f.Bl L=false):H.idle=false:=by
 unfold kG.idle
 have:((H.c.fr.zip H.sX).all λx=>x.1.Bl x.2)=false:=by
  rw[List.all_eq_false];refine⟨(f,L),nF (i:=j) ?_,by simp[h]⟩;simp[Zf,z,hL]
 rw[this];rfl
def afi{H:kG}(h:∀(j:Nat) (f:Fr) (L:nT),H.c.fr[j]?=some f->H.sX[j]?=some L->f.Bl L=true):H.idle=decide (H.c.line.length=0):=by
 unfold kG.idle
 have:((H.c.fr.zip H.sX).all λx=>x.1.Bl x.2)=true:=by
  rw[mq];rintro⟨f,L⟩ k;obtain⟨j,i⟩:=Gk.1 k;rw[Zf]at i;exact h j f L i.1 i.2
 rw[this];rfl
section
attribute [local irreducible] kE lM AW mU lL mG mC lj lT ly kN AS lF kP.mm kP.waits kP.free BA kP.u9 mK mo kG.read lh kP.me kG.write
def Ny(X:kY)(h:Nat)(p:rR)(H:kG)(lb:nz)(d:¬uZ h lb)(D:qR X h p H)(w:H.Wf)(g:∀L∈H.sX,L.Sm):mZ prog 33 [lQ (1,h) p.b] X (.hv 4998) (λC v=>∃A cap,v=sv 13 A H.c.fr.length cap/\C=X.put lb (.my 85 13 A cap H.M7)):=by
 have W:=kS func66 (NC X h p.c H.c lb (λe=>d (.inr (.inl e))) D.c w.c);have a:=D.o;have q:=w.c.len;have V:(og h p.lb).length=H.sX.length:=gm;have x:=D.ln;unfold kG.M7;refine kz func33 O ntmps33 O ki [_] O λE S N k=>?_;refine wV ?_;rintro _ _ ⟨A,cap,rfl,rfl⟩;have u:∀j,qR (X.put lb (.my 85 13 A cap (Ch H.c.fr H.sX j))) h p H:=λj=>D.put w d;have a:=(u 0).o;have c:=(u 0).l;rw[ad4]at a c;refine l7 (lL.Cs 10 lb [] O) ?_;refine wV ?_;refine kU (λj:Nat=>⟨[(0,lQ (1,h) p.b),(3,.raw lb [] (sv 13 A H.c.fr.length cap)),(14,.raw (2,h) [] (sv 1 (some (p.bl,p.ol)) (og h p.lb).length p.cl)),(15,kq (((og h p.lb).length:Nat))),(16,kq (j:Nat))],[(4999,.ext (Sg (X.put lb (.my 85 13 A cap (Ch H.c.fr H.sX j)))))]⟩) (λj=>j<=H.sX.length) (λj=>H.sX.length- j) 0 (kO _) (by rw[ad4];(refine lL.sub ⟨?_,?_,?_⟩<;>repeat' (first|exact True.intro|rfl|apply And.intro))) (λj i=>?_);have a:=(u j).o;have c:=(u j).l;by_cases Z:j<H.sX.length
 .have n:j<(og h p.lb).length:=by rw[V];exact Z
  have hL:H.sX[j]?=some H.sX[j]:=kQ Z;have G:j<p.lb.length:=by rw[D.lp];exact Z
  have r:p.lb[j]?=some p.lb[j]:=kQ G;have s:=(u j).lt j _ _ hL r;have T:H.sX[j]∈H.sX:=ng Z;generalize H.sX[j]=L at hL s T;generalize p.lb[j]=b at r s;have t:=C8 (h:=h) r;unfold LA at t;have z:H.c.fr[j]?=some H.c.fr[j]:=kQ kh;generalize H.c.fr[j]=f at z;have U:=ahY (ls:=H.sX) z;have o:=ad3 z hL;have K:j<H.c.fr.length:=eY;have y:(X.put lb (.my 85 13 A cap (Ch H.c.fr H.sX j))) lb=some (.my 85 13 A cap (Ch H.c.fr H.sX j)):=kC _ _ _;have B:=lH func67 (Nx _ (64*h+j) b L s);have l:=lH func68 (KE _ (64*h+j) b L s);have Y:=lH func69 (XL _ (64*h+j) b L s);refine pB O y λF m b3=>?_;cases A with
  |none=>
   have:=py List.length (b3 O).1;rw[SH]at this;simp only[List.length_nil]at this;omega
  |some ab=>
  obtain⟨ab,ao⟩:=ab;refine wV ?_;refine⟨j+1,Z,by omega,?_⟩;rw[w8,w8,w8,Gl,Gl];rw[<-o];exact ed
 .have n:¬j<(og h p.lb).length:=by rw[V];exact Z
  obtain rfl:j=H.c.fr.length:=eY;refine wV ?_;exact uq (v:=_) iJ O (⟨A,cap,rfl,rfl⟩) λ_=>⟨vl O,trivial⟩
def ahh(X:kY)(h:Nat)(p:rR)(H:kG)(D:qR X h p H)(w:H.Wf):mZ prog 46 [lQ (1,h) p.b] X (kA H.idle) (λC _=>∀l,l≠(17,h)->C l=X l):=by
 have W:=kS func66 (NC X h p.c H.c (17,h) (WU (.inr ki)) D.c w.c);have a:=D.o;have u:=w.c.len;have V:(og h p.lb).length=H.sX.length:=gm;have v:=D.ln;refine kz func46 O ntmps46 O ki [_] O λE S N o=>?_;refine wV ?_;rintro _ _ ⟨A,cap,rfl,rfl⟩;have R:qR (X.put (17,h) (.my 85 13 A cap (H.c.fr.map Fr.out))) h p H:=D.put w (anA h h);have n:∀l,l≠(17,h)->(X.put (17,h) (.my 85 13 A cap (H.c.fr.map Fr.out))) l=X l:=λl e=>ky _ _ e;have hxl:(X.put (17,h) (.my 85 13 A cap (H.c.fr.map Fr.out))) (17,h)=some (.my 85 13 A cap (H.c.fr.map Fr.out)):=kC _ _ _;generalize X.put (17,h) (.my 85 13 A cap (H.c.fr.map Fr.out))=Y at R n hxl;have a:=R.o;have c:=R.l;have d:=lH func92 (XO Y h p.c H.c R.c w.c);refine l7 (lL.Cs 9 (17,h) [] O) ?_;refine wV ?_;refine kU (λj:Nat=>⟨[(0,lQ (1,h) p.b),(9,.raw (17,h) [] (sv 13 A H.c.fr.length cap)),(10,kq (H.c.fr.length:Nat)),(11,kq (j:Nat))],[(4999,.ext (Sg Y))]⟩) (λj=>j<=H.c.fr.length/\ ∀i f L,H.c.fr[i]?=some f->H.sX[i]?=some L->i<j->f.Bl L=true) (λj=>H.c.fr.length- j) 0 ⟨kO _,λi f L _ _ h=>by omega⟩ ed (λj k=>?_);obtain⟨k,y⟩:=k;by_cases Z:j<H.c.fr.length
 .have hltl:j<H.sX.length:=by omega
  have s:j<(og h p.lb).length:=by rw[V];exact hltl
  have hL:H.sX[j]?=some H.sX[j]:=kQ hltl;have hlb:j<p.lb.length:=by rw[D.lp];exact hltl
  have x:p.lb[j]?=some p.lb[j]:=kQ hlb;have K:=R.lt j _ _ hL x;have T:H.sX[j]∈H.sX:=ng hltl;generalize H.sX[j]=L at hL K T;generalize p.lb[j]=b at x K;have P:=C8 (h:=h) x;unfold LA at P;have z:H.c.fr[j]?=some H.c.fr[j]:=kQ Z;generalize H.c.fr[j]=f at z;have U:(H.c.fr.map Fr.out)[j]?=some (.agg 13 [kq f.st,kq f.oj,kq f.pins,kA f.ref,kA f.uO,f.nd.av,mF,kq (-1),mF]):=f9;have B:=lH func91 (akt Y (64*h+j) b L K);refine pB O hxl λF r b3=>?_;cases A with
  |none=>
   have:=py List.length (b3 O).1;rw[kX]at this;simp only[List.length_nil]at this;omega
  |some ab=>
  obtain⟨ab,ao⟩:=ab;by_cases k1:f.st=0∨f.st=2
  .by_cases k2:0<f.pins
   .rw[P9 z hL (by simp[Fr.Bl];omega)];exact ci
   .cases k3:(L.SK true&&decide (L.qu.length=0))
    .rw[k3]at B;rw[P9 z hL (by unfold Fr.Bl;rw[k3,JZ])];exact ci
    .rw[k3]at B
     have I:f.Bl L=true:=by
      unfold Fr.Bl;rw[k3,Bool.and_true,l5,wu,nO,nO,nO];exact⟨k1,by omega⟩
     have hJ':∀i f L,H.c.fr[i]?=some f->H.sX[i]?=some L->i<j+1->f.Bl L=true:=λi g M a c m=>by
      by_cases e:i=j
      .subst e;rw[z]at a;injection a with a;subst a
       rw[hL]at c;injection c with c;subst c
       exact I
      .exact y i g M a c kh
     rcases k1 with k1|k1
     .refine wV ?_;refine⟨j+1,⟨Z,hJ'⟩,by omega,ed⟩
     .refine wV ?_;refine⟨j+1,⟨Z,hJ'⟩,by omega,ed⟩
  .have q:f.st≠0:=λe=>k1 (.inl e);have G:f.st≠2:=λe=>k1 (.inr e);rw[P9 z hL (by simp[Fr.Bl,q,G])];refine wV ?_;exact ek
 .obtain rfl:j=H.c.fr.length:=by omega
  rw[afi λi f L a c=>y i f L a c (mS.1 a).1];have J:(H.c.line.map (·.task)).length=H.c.line.length:=kX _;have t:decide (H.c.line.length=0)=decide ((((H.c.line.map (·.task)).length:Nat):Int)=0):=by rw[J];exact A4.2 kh
  rw[t];refine wV ?_;exact ns O (n) λ_=>⟨gx,trivial⟩
end
