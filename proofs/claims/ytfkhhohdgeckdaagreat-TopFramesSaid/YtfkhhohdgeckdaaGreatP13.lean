/- Part of the proof, without conditions. -/
import Derived.Test.YtfkhhohdgeckdaaGreatP12
namespace Go.Proofs.YtfkhhohdgeckdaaGreat
open Go RowKit Proofs.Tryz
set_option linter.all false
set_option maxRecDepth 100000
set_option maxHeartbeats 16000000
def M9(p:qq)(h:Nat)(i:Nat):AV:=.raw (5,h) [i] (.pointer (some ⟨p.bf,p.off*11+i*11,none⟩))
def kP.put(c:kP)(k:Int)(i:Nat):kP:={c with at_:=λj=>if j=k then some i else c.at_ j}
def kP.ma(c:kP)(t:Int):List Nat:=(List.range c.fr.length).filter λi=>match c.fr[i]? with
 |some f=>decide (f.st=3/\f.own=t)
 |none=>false
def afq:∃j,prog.info? 219=some j/\j.size≠0:=by
 have h:(prog.info? 219).map (·.size)=some 11:=by kernel_rfl
 cases hi:prog.info? 219 with
 |none=>rw[hi]at h;cases h
 |some j=>
  rw[hi]at h;simp only[Option.map_some,mr]at h;exact⟨j,rfl,by omega⟩
variable {E:su}{nt b o':Nat}{ops:Array Oper}{T:Nat->Option AV}{H:Hp}{d:Option Nat}{ty:TypeId}{pos:String}{af:Array Edge}{gd:Option (Nat×Bool)}{x y:Operand}{l l':nz}{p p':List Nat}
def Wa{tx:TypeId}{o:Nat}(k:kv T x=some (.raw l p (.pointer (some ⟨b,o,none⟩))))(F:kv T y=some (.raw l' p' (.pointer (some ⟨b,o',none⟩))))(n:lK nt d=true):
 kE prog E nt ops ⟨d,.binOp .eql 294 x y tx,ty,pos,af,gd⟩ T H [] ⟨kA (decide (o=o')),[]⟩:=by
 obtain⟨j,a,c⟩:=afq;exact ak6 qg a c k F n
variable {X C:kY}{h:Nat}{c:kP}
def om.setAt{p:qq}(u:om X h p c)(k:Int)(i:Nat)(P:C (6,h)=some (.ob p.ra (ua (u7 p.ka k (.int .i64 (i:Nat)) p.ea) (Cp p.ka k p.ea))))(U:∀j,j≠(6,h)->C j=X j):mV h p (c.put k i) X C:=by
 refine⟨λj m=>U j (λe=>m iE),{p with ea:=u7 p.ka k (.int .i64 (i:Nat)) p.ea,ka:=Cp p.ka k p.ea},rfl,rfl,rfl,?_⟩;refine⟨(U _ ki).trans u.s,(U _ ki).trans u.o,(U _ ki).trans u.f,P,(U _ ki).trans u.l,(U _ ki).trans u.n,u.aw.put _ _,λj=>?_,u.lw,λj=>?_⟩
 .rw[FH];simp only[kP.put];split
  .rfl
  .exact u.ag j
 .have:=u.lg j;simp only[kP.put];cases d:c.oE j with
  |none=>rw[d]at this;exact this
  |some l=>
   rw[d]at this;obtain⟨f,k2,A,cap,k3,n⟩:=this;exact⟨f,k2,A,cap,k3,(U _ ki).trans n⟩
def aci:lB prog 294 (.v (.pointer none)):=lR (v:=.pointer none) (n:=1) j6 λU w=>(qV O).2 O
def ajF(a b c d:Int)(e f:Bool)(H:Hp):Wk H (.agg 11 [kq a,kq b,kq c,kq d,kA e,kA f,pb false mF mF mF mF]) (⟨a,b,c,d,e,f,⟨false,[],[],[],[]⟩⟩:Fr).av:=Wk.agg (.cons (Wk.data O) (.cons (Wk.data O) (.cons (Wk.data O) (.cons (Wk.data O) (.cons (Wk.data O) (.cons (Wk.data O) (.cons (E6 _) .nil)))))))
def BA(c:kP)(t:Int)(i:Nat):Bool:=match c.fr[i]? with
 |some f=>decide (f.st=3/\f.own=t)
 |none=>false
theorem WT(c:kP)(t:Int):c.ma t=(List.range c.fr.length).filter (BA c t):=rfl
def uD(p:Nat->Bool)(j:Nat):(List.range (j+1)).filter p=(List.range j).filter p++if p j then[j]else[]:=by
 rw[EO,List.filter_append];by_cases h:p j=true
 .simp[h]
 .simp[JT.2 h]
def kP.tf(c:kP)(l:List Nat)(f:Fr):kP:=l.foldl (λc i=>c.mJ i λ_=>f) c
def kP.nS(c:kP)(t:Int):kP:=c.tf (c.ma t) Fr.empty
def kP.Ql(c:kP)(t:Int):Bool:=c.may ⟨t,-1,true⟩&&(c.vw t).isSome
def kP.claim(c:kP)(t:Int):kP:=if c.may ⟨t,-1,true⟩then(match c.vw t with
 |none=>c.ask ⟨t,-1,true⟩
 |some i=>(c.leave t).mJ i λ_=>⟨3,-1,t,1,false,false,⟨false,[],[],[],[]⟩⟩)else c
variable {i:Nat}
def LW{t:Int}(h:i∈c.ma t):∃f,c.fr[i]?=some f/\f.st=3/\f.own=t:=by
 unfold kP.ma at h;rw[tr]at h;obtain⟨_,h⟩:=h;split at h
 .rename_i f z;exact⟨f,z,of_decide_eq_true h⟩
 .cases h
variable {j:Nat}
def BY{g:Fr->Fr}:(c.mJ i g).fr[j]?=if i=j then(c.fr[j]?).map g else c.fr[j]? :=by
 unfold kP.mJ;dsimp only;rw[Gw];by_cases h:i=j
 .simp[h]
 .simp[h]
def Sf(c:kP)(l:List Nat)(i:Nat)(f:Fr):c.tf (l++[i]) f=(c.tf l f).mJ i λ_=>f:=by
 unfold kP.tf;rw[GD];rfl
def VD(c:kP)(f:Fr)(l:List Nat):∀(i:Nat),(∃g,c.fr[i]?=some g)-> ∃g,(c.tf l f).fr[i]?=some g:=by
 unfold kP.tf
 induction l generalizing c with
 |nil=>exact λi h=>h
 |cons a l y=>
  intro i h;rw[GS];refine y _ i ?_;obtain⟨g,t⟩:=h;rw[BY,t];split
  .exact⟨f,rfl⟩
  .exact⟨g,rfl⟩
def kP.names(c:kP)(t k:Int):Bool:=decide (0<=k/\k<256)&& !(c.ma t).isEmpty&&decide (c.place k<0)
def kP.name(c:kP)(t k:Int)(n:Nd):kP:=if c.names t k then(match(c.ma t).head? with
 |some i=>(c.mJ i λ_=>⟨2,k,-1,0,true,true,n⟩).put k i
 |none=>c)else c
def kP.fill(c:kP)(k:Int)(n:Nd):kP:=match c.fp k 1 with
 |some i=>{c.mJ i λf=>{f with st:=2,nd:=n}with oE:=λj=>if j=k then none else c.oE j}
 |none=>c
def kP.Wf.mJ(w:c.Wf)(i:Nat)(g:Fr->Fr)(t:∀f,(f.nd.es.length<=100000/\f.nd.ks.length<=100000/\f.nd.ps.length<=100000/\f.nd.ms.length<=100000)->((g f).nd.es.length<=100000/\(g f).nd.ks.length<=100000/\(g f).nd.ps.length<=100000/\(g f).nd.ms.length<=100000)):(c.mJ i g).Wf:=by
 refine⟨by unfold kP.mJ;simpa using w.len,λf z=>?_,λk j h=>by unfold kP.mJ;simpa using w.at_ k j h,w.line,w.oE⟩;obtain⟨j,l⟩:=Gk.1 z;rw[BY]at l;split at l
 .cases d:c.fr[j]? with
  |none=>rw[d]at l;cases l
  |some B=>
   rw[d]at l;simp only[Option.map_some,mr]at l;subst l;exact t B (w.nd B (nF d))
 .exact w.nd f (nF l)
section
attribute [local irreducible] kE lM AW mU lL mG mC lj lT ly kN AS lF kP.mm kP.waits kP.free
def acT(X:kY)(h:Nat)(p:qq)(c:kP)(i:Nat)(f:Fr)(z:c.fr[i]?=some f)(u:om X h p c)(w:c.Wf):mZ prog 224 [lQ (4,h) p.b,M9 p h i] X (.mz []) (λC _=>mV h p (c.put f.oj i) X C):=by
 have g:=u;obtain⟨m,b,d,l,A,D,_,ag,T,B⟩:=u;have s:=w.len;have q:i<c.fr.length:=(mS.1 z).1;unfold M9;refine kz func224 O ntmps224 O ki [] O λE S N n=>?_;refine wV ?_;refine kU (λj:Nat=>⟨[(0,lQ (4,h) p.b),(1,M9 p h i),(9,kq (((c.fr.map Fr.av).length:Nat))),(10,kq (j:Nat))],[(4999,.ext (Sg (if i<j then X.put (6,h) (.ob p.ra (ua (u7 p.ka f.oj (.int .i64 (i:Nat)) p.ea) (Cp p.ka f.oj p.ea)))else X)))]⟩) (λj=>j<=c.fr.length) (λj=>c.fr.length- j) 0 (kO _) ed (λj k=>?_);by_cases Z:j<c.fr.length
 .have o:j<(c.fr.map Fr.av).length:=by simpa using Z
  have r:=vZ z;by_cases P:j=i
  .subst P;rw[ku (J9 j)];have e:p.off*11+j*11=p.off*11+j*11:=rfl
   repeat (first|refine Vv (Wa O O O) hP ?_|refine tT ?_)
   refine⟨j+1,Z,by omega,?_⟩;rw[kx (GB j)];exact ed
  .have e:¬(p.off*11+j*11=p.off*11+i*11):=by omega
   by_cases R:i<j
   .rw[kx R];have x:=(ky X (.ob p.ra (ua (u7 p.ka f.oj (.int .i64 (i:Nat)) p.ea) (Cp p.ka f.oj p.ea))) (show((4,h):nz)≠(6,h) by simp)).trans b
    repeat (first|refine Vv (Wa O O O) hP ?_|refine tT ?_)
    refine⟨j+1,Z,by omega,?_⟩;rw[kx (show i<j+1 by omega)];exact ed
   .rw[ku R]
    repeat (first|refine Vv (Wa O O O) hP ?_|refine tT ?_)
    refine⟨j+1,Z,by omega,?_⟩;rw[ku (show¬i<j+1 by omega)];exact ed
 .have o:¬j<(c.fr.map Fr.av).length:=by simpa using Z
  rw[kx (show i<j by omega)];refine wV ?_;exact ns O (om.setAt g f.oj i (kC _ _ _) (λj a=>ky _ _ a)) λ_=>trivial
section
attribute [local irreducible] BA
def Eo(X:kY)(h:Nat)(p:qq)(c:kP)(t:Int)(u:om X h p c)(w:c.Wf):mZ prog 278 [lQ (4,h) p.b,kq t] X (.sl none 1 ((c.ma t).map (M9 p h))) (λC _=>C=X):=by
 have d:=u;obtain⟨l,a,b,k,A,D,_,ag,U,B⟩:=u;have q:=w.len;rw[WT];refine kz JN O ntmps278 O ki [_] O λE S N m=>?_;refine wV ?_;refine lU (lL.token 5 5 0 294 O O) ?_;refine kU (λj:Nat=>⟨[(0,lQ (4,h) p.b),(1,kq t),(5,.sl (some 5) 1 (((List.range j).filter (BA c t)).map (M9 p h))),(12,kq (((c.fr.map Fr.av).length:Nat))),(13,kq (j:Nat))],[(4999,.ext (Sg X)),(5,.tail 294 1 ((List.range j).filter (BA c t)).length)]⟩) (λj=>j<=c.fr.length) (λj=>c.fr.length- j) 0 (kO _) ed (λj i=>?_);have T:((List.range j).filter (BA c t)).length<=64:=oG (vL _ _) jY;by_cases Z:j<c.fr.length
 .have n:j<(c.fr.map Fr.av).length:=by simpa using Z
  have z:c.fr[j]?=some c.fr[j]:=kQ Z;have s:=uD (BA c t) j;have x:BA c t j=decide ((c.fr[j]).st=3/\(c.fr[j]).own=t):=by unfold BA;rw[z]
  generalize c.fr[j]=f at z x;have o:=vZ z;by_cases g:f.st=3
  .by_cases k2:f.own=t
   .rw[x,kW ⟨g,k2⟩,kx O]at s;refine wV ?_;refine l7 (lL.as 36 (M9 p h j) O) ?_;refine Vb (qo aci O O O O O O O O) hP ?_;exact cM
   .rw[x,la (λe=>k2 e.2),ku ki,oT]at s;exact cM
  .rw[x,la (λe=>g e.1),ku ki,oT]at s;exact cM
 .have n:¬j<(c.fr.map Fr.av).length:=by simpa using Z
  have F:j=c.fr.length:=eY;subst F;exact dQ
def aak(X:kY)(h:Nat)(p:qq)(c:kP)(t:Int)(u:om X h p c)(w:c.Wf):mZ prog 248 [lQ (4,h) p.b,kq t] X (kq ((c.ma t).length:Nat)) (λC _=>C=X):=by have W:=lH JN (Eo X h p c t u w);refine kz func248 O ntmps248 O ki [_] O λE S N i=>?_;exact dJ
def acX(X:kY)(h:Nat)(p:qq)(c:kP)(t:Int)(u:om X h p c)(w:c.Wf):mZ prog 199 [lQ (4,h) p.b,kq t] X (kA (c.Ql t)) (λC _=>mV h p (c.claim t) X C):=by
 have W:=lH func220 (acV X h p c ⟨t,-1,true⟩ u w);have A:=kS JP (NB X h p c t u w);have Z:=kS func223 (acY X h p c ⟨t,-1,true⟩ u w);have d:=kS JQ (KJ X h p c t u w);unfold Bw at W Z;unfold kP.Ql kP.claim;refine kz func199 O ntmps199 O ki [_] O λE S N k=>?_;cases e:c.may ⟨t,-1,true⟩
 .rw[e]at W;exact dF
 .rw[e]at W;refine wV ?_;rintro _ _ ⟨rfl,rfl⟩;cases k2:c.vw t with
  |none=>
   rw[show Bu p none= .pointer none from rfl];refine wV ?_;intro Y v s;refine wV ?_;exact ns O (s) λ_=>⟨gx,trivial⟩
  |some i=>
   refine l7 (lL.Cs 15 (5,h) [i] (l0:=(0,0)) (p:= []) (v:=.pointer (some ⟨p.bf,p.off*11+i*11,none⟩)) O) ?_;refine wV ?_;intro Y v s;obtain⟨x,⟨J,I,K,o,D,B,y,F,H,q,G,r⟩,P,b,R,l⟩:=s;dsimp only at P b R;subst P b R
   have L:∃f,c.fr[i]?=some f:=by
    unfold kP.vw at k2;split at k2
    .have g:=(Dm.1 k2).1;exact⟨_,kQ g⟩
    .cases k2
   obtain⟨f,z⟩:=L;have n:=vZ z;have m:Y (5,h)=some (.my 219 11 (some (p.bf,p.off)) o (c.fr.map Fr.av)):=l.f
   repeat (first|(refine l7 (lL.wk 26 (⟨3,-1,t,1,false,false,⟨false,[],[],[],[]⟩⟩:Fr).av O O O (ajF 3 (-1) t 1 false false)) ?_)|refine tT ?_)
   exact ns O (mV.trans x O O O (mV.mJ l z (λ_=>⟨3,-1,t,1,false,false,⟨false,[],[],[],[]⟩⟩) (kC _ _ _) O (λj a=>ky _ _ a))) λ_=>⟨gx,trivial⟩
def ahl(X:kY)(h:Nat)(p:qq)(c:kP)(t:Int)(u:om X h p c)(w:c.Wf):mZ prog 250 [lQ (4,h) p.b,kq t] X (kq ((c.ma t).length:Nat)) (λC _=>mV h p (c.nS t) X C):=by
 have W:=lH JN (Eo X h p c t u w);have A:=kD JS (Mv);have T:(c.ma t).length<=64:=oG (vL _ _) (by have:=w.len;simp;omega);unfold kP.nS;refine kz func250 O ntmps250 O ki [_] O λE S N k=>?_;refine wV ?_;refine kU (λj:Nat×kY=>⟨[(0,lQ (4,h) p.b),(5,.sl none 1 ((c.ma t).map (M9 p h))),(11,.sl none 1 ((c.ma t).map (M9 p h))),(12,kq ((c.ma t).length:Nat)),(13,kq (j.1:Nat))],[(4999,.ext (Sg j.2))]⟩) (λj=>j.1<=(c.ma t).length/\mV h p (c.tf ((c.ma t).take j.1) Fr.empty) X j.2) (λj=>(c.ma t).length- j.1) (0,X) ⟨kO _,mV.refl u⟩ ed (λj i=>?_);obtain⟨j,Y⟩:=j;obtain⟨i,s⟩:=i;dsimp only at i s⊢;by_cases Z:j<(c.ma t).length
 .obtain⟨v,⟨G,g,H,e,y,r,x,B,F,q,D,n⟩,P,b,R,l⟩:=s;dsimp only at P b R;subst P b R;obtain⟨f,z⟩:=VD c Fr.empty ((c.ma t).take j) (c.ma t)[j] (by obtain⟨f,z,_⟩:=LW (ng Z);exact⟨f,z⟩);have m:=vZ z;have o:(c.ma t).take (j+1)=(c.ma t).take j++[(c.ma t)[j]]:=by rw[JR,kQ Z];rfl
  have d:=l.f;dsimp only at d;refine wV ?_;refine⟨(j+1,Y.put (5,h) (.my 219 11 (some (p.bf,p.off)) e (((c.tf ((c.ma t).take j) Fr.empty).fr.map Fr.av).set (c.ma t)[j] Fr.empty.av))),⟨Z,?_⟩,by dsimp only;omega,?_⟩
  .rw[o,Sf];exact mV.trans v O O O (mV.mJ l z (λ_=>Fr.empty) (kC _ _ _) O (λj a=>ky _ _ a))
  .exact ed
 .rw[pO kh]at s;refine wV ?_;exact ns O (s) λ_=>⟨gx,trivial⟩
def ahj(X:kY)(h:Nat)(p:qq)(c:kP)(t k:Int)(n:Nd)(B:n.es.length<=100000/\n.ks.length<=100000/\n.ps.length<=100000/\n.ms.length<=100000)(u:om X h p c)(w:c.Wf):mZ prog 255 [lQ (4,h) p.b,kq t,kq k,n.av] X (kA (c.names t k)) (λC _=>mV h p (c.name t k n) X C):=by
 have W:=lH JN (Eo X h p c t u w);have Z:=lH AQ (BQ X h p c k u);have A:=kD Dn (Mu n B);have o:=kD func219 (Uk k);unfold kP.name kP.names;refine kz func255 O ntmps255 O ki [_] O λE S N i=>?_;by_cases e:0<=k/\k<256
 .rw[kW e]at o⊢;by_cases k2:(c.ma t).length=0
  .have k3:c.ma t= []:=pE k2;rw[k3];have l:(((c.ma t).length:Nat):Int)=0:=eY;exact dF
  .have l:¬(((c.ma t).length:Nat):Int)=0:=by omega
   have F:0<(c.ma t).length:=eY;have y:(c.ma t).isEmpty=false:=ga;rw[y];by_cases q:c.place k<0
   .rw[kW q];have U:¬0<=c.place k:=eY;have D:(c.ma t).head? =some (c.ma t)[0]:=by rw[List.head?_eq_getElem?,kQ F]
    rw[D];obtain⟨f,z,_⟩:=LW (ng F);have r:=vZ z;have b:=u.o;have d:=u.f;have G:=mV.mJ u z (λ_=>⟨2,k,-1,0,true,true,n⟩) (C:=X.put (5,h) (.my 219 11 (some (p.bf,p.off)) p.cf ((c.fr.map Fr.av).set (c.ma t)[0] (.agg 11 [kq 2,kq k,kq (-1),kq 0,kA true,kA true,n.av])))) (kC _ _ _) O (λj a=>ky _ _ a);obtain⟨x,⟨qb,qbf,qoff,I,T,M,L,qrl,qkl,J,qL,K⟩,P,g,R,m⟩:=G;dsimp only at P g R;subst P g R;have hf2:(c.mJ (c.ma t)[0] λ_=>⟨2,k,-1,0,true,true,n⟩).fr[(c.ma t)[0]]?=some ⟨2,k,-1,0,true,true,n⟩:=by rw[BY,kx O,z];rfl
    have H:=w.mJ (c.ma t)[0] (λ_=>⟨2,k,-1,0,true,true,n⟩) λ_ _=>B;have V:=kS func224 (acT _ h _ _ (c.ma t)[0] _ hf2 m H);unfold M9 at V;refine wV ?_;intro Y v s;refine wV ?_;exact ns O (mV.trans x O O O s) λ_=>⟨gx,trivial⟩
   .have U:0<=c.place k:=by omega
    rw[la q];exact dF
 .rw[la e]at o⊢;exact dF
end
end
