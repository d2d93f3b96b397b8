/- Part of the proof, without conditions. -/
import Derived.Test.YtfkhhohdgeckdaaGreatP13
namespace Go.Proofs.YtfkhhohdgeckdaaGreat
open Go RowKit Proofs.Tryz
set_option linter.all false
set_option maxRecDepth 100000
set_option maxHeartbeats 16000000
variable {X:kY}{h:Nat}{c:kP}
def om.mJ{p:qq}(u:om X h p c){i:Nat}{f:Fr}(z:c.fr[i]?=some f)(g:Fr->Fr){C:kY}{y:AV}(l:C (5,h)=some (.my 219 11 (some (p.bf,p.off)) p.cf ((c.fr.map Fr.av).set i y)))(F:y=(g f).av)(U:∀j,j≠(5,h)->C j=X j):om C h p (c.mJ i g):=
 u.same ((U _ ki).trans u.s) ((U _ ki).trans (u.o.trans (by simp only[wW,kX,kP.mJ,List.length_modify]))) (by rw[l,F,IE c.fr i f (g f) g z rfl];rfl) (U _ ki) (U _ ki) ((U _ ki).trans u.n) O O O O O O O O λk=>U _ ki
def Cx{a b:XB}:oy h X ((X.put (5,h) a).put (5,h) b):=(oy.M4 kh).trans (oy.M4 kh)
variable {C:kY}
def om.Y4{p:qq}(u:om X h p c)(k:Int)(R:C (7,h)=some (.ob p.rl (ua (y9 k p.el) p.kl)))(U:∀j,j≠(7,h)->C j=X j):mV h p {c with oE:=λj=>if j=k then none else c.oE j} X C:=by
 refine⟨λj i=>U j (λe=>i iE),{p with el:=y9 k p.el},rfl,rfl,rfl,?_⟩;refine⟨(U _ ki).trans u.s,(U _ ki).trans u.o,(U _ ki).trans u.f,(U _ ki).trans u.a,R,(U _ ki).trans u.n,u.aw,u.ag,u.lw.del _,λj=>?_⟩;dsimp only;have n:=FJ k j p.el u.lw.keys;by_cases e:j=k
 .rw[kx e]at n⊢;exact n
 .rw[ku e]at n⊢;have:=u.lg j;cases d:c.oE j with
  |none=>rw[d]at this;exact n.trans this
  |some l=>
   rw[d]at this;obtain⟨f,k2,A,cap,k3,m⟩:=this;exact⟨f,k2,A,cap,n.trans k3,(U _ ki).trans m⟩
variable {E:su}{nt:Nat}{ops:Array Oper}{T:Nat->Option AV}{H:Hp}{d:Option Nat}{ty:TypeId}{pos:String}{af:Array Edge}{gd:Option (Nat×Bool)}{kk:Operand}{l:nz}{p:List Nat}
def aeH{m:Operand}{r c:Nat}{es:List oW}{k:Int}(j:kv T m=some (.raw l p (.map (some r))))(hi:kv T kk=some (.v (.int .i64 k)))(f:H 4999=some (.ext (Sg X)))(g:X l=some (.ob r (ua es c)))(n:lK nt d=true):
 kE prog E nt ops ⟨d,.call {callee:=.builtin .delete,args:= #[m,kk],argTypes:= #[214,3]},ty,pos,af,gd⟩ T H [4999] ⟨.mz [],[(4999,.ext (Sg (X.put l (.ob r (ua (y9 k es) c)))))]⟩:=Ll yL mc j hi f g n
def Fr.out(f:Fr):AV:=.agg 13 [kq f.st,kq f.oj,kq f.pins,kA f.ref,kA f.uO,f.nd.av,mF,kq (-1),mF]
def om.off{p:qq}(u:om X h p c)(U:∀l,EZ h l->C l=X l):om C h p c:=by
 have q:∀i,3<=i->i<=8->C (i,h)=X (i,h):=λi a b=>U _ (.inl ⟨a,b,rfl⟩);refine⟨(q 3 kh kh).trans u.s,(q 4 kh kh).trans u.o,(q 5 kh kh).trans u.f,(q 6 kh kh).trans u.a,(q 7 kh kh).trans u.l,(q 8 kh kh).trans u.n,u.aw,u.ag,u.lw,λk=>?_⟩;have:=u.lg k;cases V:c.oE k with
 |none=>rw[V]at this;exact this
 |some l=>
  rw[V]at this;obtain⟨e,k2,A,cap,k3,m⟩:=this;exact⟨e,k2,A,cap,k3,(U _ (.inr ⟨O,by dsimp only;omega⟩)).trans m⟩
variable {t kt et:TypeId}{x ix:Operand}
variable {vv:Operand}{g n i cap:Nat}{e:TypeId}{A:Option (Nat×Nat)}{G J:List AV}
section
variable {lm:nz}{r c:Nat}{es:List oW}{k:Int}{z:Value}
def ah7(m:nz)(U:nY k es=none)(A:z.oneCell'=true)(b:prog.underlying t=some (.map kt et))(y:prog.underlying kt=some (.int .i64))(e:∀w,(zeroValue et).run prog w= .ok z w)(j:kv T x=some (.raw l p (.map (some r))))(hi:kv T ix=some (.v (.int .i64 k)))(f:H 4999=some (.ext (Sg X)))(g:X l=some (.ob r (ua es c)))(n:lK nt d=true):
 kE prog E nt ops ⟨d,.lookup t x ix false,ty,pos,af,gd⟩ T H [4999] ⟨.raw m [] z,[]⟩:=aeE b y e j hi f g (.inr (by simp[U,A])) n
def Od{m:Operand}(L:prog.underlying t=some (.map kt et))(z:prog.underlying kt=some (.int .i64))(s:kv T m=some (.raw lm p (.map (some r))))(hi:kv T kk=some (.v (.int .i64 k)))(D:kv T vv=some (.hv g))
 (y:H 4999=some (.ext (λC D=>∃W V,C=X.put l (.my e n W V (G.take i++J))/\D g=sv n W (i+J.length) V/\(i+J.length<=cap->W=A/\V=cap)))) (hlm:X lm=some (.ob r (ua es c))) (Z:lm≠l):
 kE prog E nt ops ⟨none,.mapUpdate t m kk vv,ty,pos,af,gd⟩ T H [4999] ⟨.mz [],[(4999,.ext (λC _=>∃W V,C=(X.put l (.my e n W V (G.take i++J))).put lm (.ob r (ua (u7 c k (sv n W (i+J.length) V) es) (Cp c k es)))))]⟩:=by
 intro T' H' v F M B a w r' K Q hK;have hX':=(F 4999 ki).trans y;have h:=r'.pe ((mv v js).trans s);have q:=r'.od ((mv v js).trans hi);have hvv:=r'.eval ((mv v (x:=vv) js).trans D);rw[kJ ki]at hvv;obtain⟨c',hc1,hc2⟩:=hvv;simp only[Rd]at hc1;obtain⟨_,N,rfl⟩:=hc1;obtain⟨_,U,Y,b,d,u⟩:=r'.nB hX';obtain⟨W,V,R,P,_⟩:=b;have hvv:a.eval vv=B.hv g:=hc2;have S:=r'.DS (M':=Sg Y) hX' ⟨Y,rfl,d,u⟩;have o:Y lm=some (.ob r (ua es c)):=by rw[R,ky _ _ Z];exact hlm
 have hb:w.heap[r]?=some (ua es c):=u _ _ o
 have I:(execOp a.eval ⟨none,.mapUpdate t m kk vv,ty,pos,af,gd⟩).run prog w= .ok .skip {w with heap:=w.heap.setIfInBounds r (ua (u7 c k (B.hv g) es) (Cp c k es))}:=by simp[execOp,h,q,hvv,Sh L z hb (B.hv g),Sem.run_bind]
 have r2:=S.aik (o':=ua (u7 c k (B.hv g) es) (Cp c k es)) (kB _ _ _) o O;obtain⟨_,_,X2,f,n2,n3⟩:=r2.nB (kB _ _ _);subst f;have r3:=r2.DS (M':=λC _=>∃W V,C=(X.put l (.my e n W V (G.take i++J))).put lm (.ob r (ua (u7 c k (sv n W (i+J.length) V) es) (Cp c k es)))) (kB _ _ _) ⟨_,⟨W,V,by rw[P,R]⟩,n2,n3⟩;unfold Oper.wp;rw[I]
 have e:∀M1 M2 M3:kY->(Nat->Value)->Prop,l9 (l9 (l9 H' 4999 (.ext M1)) 4999 (.ext M2)) 4999 (.ext M3)=nA H' [(4999,.ext M3)]:=λM1 M2 M3=>by
  funext j;simp only[nA,l9];by_cases c1:j=4999
  .simp[c1]
  .simp[c1]
 rw[e]at r3;exact hK B _ _ r3
end
variable {xb:XB}
def ajR{T:List (Nat×AV)}{H:List (Nat×Bx)}(h:X l=some xb):Kn l xb (St.h ⟨T,(4999,.ext (Sg X))::H⟩):=⟨Sg X,rfl,λC y e=>by rw[show C=X from e];exact h⟩
variable {xb':XB}
def kn9{k:Nat}{T:List (Nat×AV)}{H:List (Nat×Bx)}(e:X (4,h)=some xb):Kn (4,h) xb (St.h ⟨T,(4999,.ext (Sg (X.put (9,k) xb')))::H⟩):=ajR ((ky _ _ ki).trans e)
def kP.wait(c:kP)(k t:Int):kP:={c with oE:=λj=>if j=k then some ((c.oE k).getD []++[t])else c.oE j}
theorem om.ZC{p:qq}(u:om X h p c)(k t:Int)(w:0<=k/\k<256)(A:Option (Nat×Nat))(cap:Nat)
 (R:C (7,h)=some (.ob p.rl (ua (u7 p.kl k (sv 1 A ((((c.oE k).getD [])++[t]).map kq).length cap) p.el) (Cp p.kl k p.el)))) (Z:C (9,256*h+k.toNat)=some (.my 3 1 A cap ((((c.oE k).getD [])++[t]).map kq))) (U:∀j,j≠(7,h)->j≠(9,256*h+k.toNat)->C j=X j):mV h p (c.wait k t) X C:=by
 refine⟨λj i=>U j (λe=>i iE) (λe=>i (by subst e;exact .inr ⟨O,by dsimp only;omega⟩)),{p with el:=u7 p.kl k (sv 1 A ((((c.oE k).getD [])++[t]).map kq).length cap) p.el,kl:=Cp p.kl k p.el},rfl,rfl,rfl,?_⟩;refine⟨(U _ ki ki).trans u.s,(U _ ki ki).trans u.o,(U _ ki ki).trans u.f,(U _ ki ki).trans u.a,R,(U _ ki ki).trans u.n,u.aw,u.ag,u.lw.put _ _,λj=>?_⟩;have n:=FH p.kl k j (sv 1 A ((((c.oE k).getD [])++[t]).map kq).length cap) p.el;unfold kP.wait;dsimp only;by_cases e:j=k
 .subst e;rw[kx O]at n⊢;exact⟨w.1,w.2,A,cap,n,Z⟩
 .rw[ku e]at n⊢;have:=u.lg j;cases d:c.oE j with
  |none=>rw[d]at this;exact n.trans this
  |some l=>
   rw[d]at this;obtain⟨f,k2,A,cap,k3,m⟩:=this;exact⟨f,k2,A,cap,n.trans k3,(U _ ki jY).trans m⟩
def Tx{t:Int}(h:c.vw t=some i):∃f,c.fr[i]?=some f/\f.st=0:=by
 unfold kP.vw at h;split at h
 .obtain⟨a,b,_⟩:=Dm.1 h;exact eK
 .cases h
def kP.Wf.leave(w:c.Wf)(t:Int):(c.leave t).Wf:=by
 refine⟨w.len,w.nd,w.at_,?_,w.oE⟩;have:=LO c.line (c.mm t);have:=w.line;unfold kP.leave;dsimp only;omega
def alp:(([]:List mL).length<=100000/\([]:List Int).length<=100000/\([]:List kH).length<=100000/\([]:List lq).length<=100000):=by simp
def kP.Bp(c:kP)(t:Int)(i:Nat):kP:=(c.mJ i λf=>{f with pins:=f.pins+1,ref:=true}).leave t
def kP.load(c:kP)(t b:Int)(i:Nat):kP:=((c.leave t).mJ i λ_=>⟨1,b,-1,1,true,false,⟨false,[],[],[],[]⟩⟩).put b i
def kP.pin(c:kP)(t b:Int):kP×Int:=
 if(0<=b/\b<256)/\c.may ⟨t,b,false⟩=true then
  match c.at_ b with
  |some i=>match c.fr[i]? with
   |some f=>if f.st=2 then(c.Bp t i,1)else((c.Bp t i).wait b t,2)
   |none=>(c,0)
  |none=>match c.vw t with
   |none=>(c.ask ⟨t,b,false⟩,4)
   |some i=>(c.load t b i,3)
 else(c,0)
section
attribute [local irreducible] kE lM AW mU lL mG mC lj lT ly kN AS lF kP.mm kP.waits kP.free BA
def ahm(X:kY)(h:Nat)(p:qq)(c:kP)(k:Int)(n:Nd)(D:n.es.length<=100000/\n.ks.length<=100000/\n.ps.length<=100000/\n.ms.length<=100000)(u:om X h p c)(w:c.Wf):mZ prog 126 [lQ (4,h) p.b,kq k,n.av] X (.mz [.hv 4998,kA (c.fp k 1).isSome]) (λC _=>mV h p (c.fill k n) X C):=by
 have W:=kS Dp (BR X h p c k 1 u w);have F:=kD Dn (Mu n D);have x:=u;obtain⟨r,b,d,m,B,G,_,ag,T,H⟩:=u;unfold kP.fill;refine kz func126 O ntmps126 O ki [_,_] O λE S N s=>?_
 repeat (first|(refine l7 (lL.HD 6 (0,0) O) ?_)|refine tT ?_)
 intro C v y;obtain⟨rfl,rfl⟩:=y;cases q:c.fp k 1 with
 |none=>
  rw[show Bu p none= .pointer none from rfl]
  repeat (first|(refine l7 (lL.HD 6 (0,0) O) ?_)|refine tT ?_)
  exact uq (v:=_) iJ O (mV.refl x) λ_=>⟨vl O,gx,trivial⟩
 |some i=>
  obtain⟨_,f,z,o⟩:=C9 q;have I:=vZ z;refine l7 (lL.Cs 12 (5,h) [i] (l0:=(0,0)) (p:= []) (v:=.pointer (some ⟨p.bf,p.off*11+i*11,none⟩)) O) ?_;have J:=H k;cases g:c.oE k with
  |none=>
   rw[g]at J;have J:nY k p.el=none:=J
   repeat (first|(refine l7 (lL.HD 6 (0,0) O) ?_)|refine Vv (V9 yL mc Jl O O O gF J O O) hP ?_|refine Vs (aeH O O O gF O) hP ?_|refine tT ?_)
   exact uq (v:=_) (.inr O) O (mV.trans (Cx (h:=h)) O O O (om.Y4 (om.mJ x z (λf=>{f with st:=2,nd:=n}) Fs O (λj a=>by rw[ky _ _ a,ky _ _ a])) k (kC _ _ _) (λj a=>ky _ _ a))) λ_=>⟨vl O,gx,trivial⟩
  |some l=>
   rw[g]at J;obtain⟨e,k2,A,cap,k3,t⟩:=J
   repeat (first|(refine l7 (lL.HD 6 (0,0) O) ?_)|refine Vv (aeC (9,256*h+k.toNat) k3 O yL mc Jl O O O gF O) hP ?_|refine Vs (aeH O O O gF O) hP ?_|refine tT ?_)
   exact uq (v:=_) (.inr O) O (mV.trans (Cx (h:=h)) O O O (om.Y4 (om.mJ x z (λf=>{f with st:=2,nd:=n}) Fs O (λj a=>by rw[ky _ _ a,ky _ _ a])) k (kC _ _ _) (λj a=>ky _ _ a))) λ_=>⟨vl O,gx,trivial⟩
def NC(X:kY)(h:Nat)(p:qq)(c:kP)(lb:nz)(d:¬EZ h lb)(u:om X h p c)(w:c.Wf):mZ prog 66 [lQ (4,h) p.b] X (.hv 4998) (λC v=>∃A cap,v=sv 13 A c.fr.length cap/\C=X.put lb (.my 85 13 A cap (c.fr.map Fr.out))):=by
 have H:((4,h):nz)≠lb:=λe=>d (e▸ .inl ⟨by simp,by simp,rfl⟩);have J:((5,h):nz)≠lb:=λe=>d (e▸ .inl ⟨by simp,by simp,rfl⟩);have g:=u;obtain⟨l,a,b,k,B,F,_,ag,U,G⟩:=u;have q:=w.len;refine kz func66 O ntmps66 O ki [_] O λE S N m=>?_;refine wV ?_;refine lU (lL.MR lb 85 13 O kg) ?_;refine lU (lL.HD 3 lb O) ?_;refine kU (λj:Nat×(Option (Nat×Nat)×Nat)=>⟨[(0,lQ (4,h) p.b),(3,.raw lb [] (sv 13 j.2.1 ((c.fr.take j.1).map Fr.out).length j.2.2)),(9,.raw (5,h) [] (sv 11 (some (p.bf,p.off)) (c.fr.map Fr.av).length p.cf)),(10,kq (((c.fr.map Fr.av).length:Nat))),(11,kq (j.1:Nat))],[(4999,.ext (Sg (X.put lb (.my 85 13 j.2.1 j.2.2 ((c.fr.take j.1).map Fr.out)))))]⟩) (λj=>j.1<=c.fr.length) (λj=>c.fr.length- j.1) (0,none,0) (kO _) ed (λj i=>?_);obtain⟨j,A,cap⟩:=j;dsimp only at i⊢;have x:=(ky X (.my 85 13 A cap ((c.fr.take j).map Fr.out)) H).trans a;have I:=(ky X (.my 85 13 A cap ((c.fr.take j).map Fr.out)) J).trans b;by_cases Z:j<c.fr.length
 .have n:j<(c.fr.map Fr.av).length:=by simpa using Z
  have z:c.fr[j]?=some c.fr[j]:=kQ Z;have s:(c.fr.take (j+1)).map Fr.out=(c.fr.take j).map Fr.out++[(c.fr[j]).out]:=gg;generalize c.fr[j]=f at z s;have o:=vZ z;have K:=w.nd f (nF z);have D:=kD Dn (Mu f.nd K);have T:((c.fr.take j).map Fr.out).length<=64:=fy
  repeat (first|(refine ML 3 31 lb O O λY y t=>?_;obtain⟨R,L,rfl,e,_⟩:=t;rw[e,w8,nQ])|refine tT ?_)
  refine⟨(j+1,R,L),Z,by dsimp only;omega,?_⟩;dsimp only;rw[s,lA];exact ed
 .have n:¬j<(c.fr.map Fr.av).length:=by simpa using Z
  rw[pO (show c.fr.length<=j by omega)];refine wV ?_;exact uq (v:=sv 13 A (c.fr.map Fr.out).length cap) (.inr O) O ⟨A,cap,by rw[kX],rfl⟩ λ_=>⟨vl O,trivial⟩
def akw(X:kY)(h:Nat)(p:qq)(c:kP)(t b:Int)(x:om X h p c)(w:c.Wf)(o:∀f∈c.fr,-1000000000<=f.pins/\f.pins<=1000000000):mZ prog 164 [lQ (4,h) p.b,kq t,kq b] X (kq (c.pin t b).2) (λC _=>mV h p (c.pin t b).1 X C):=by
 have W:=kD func219 (Uk b);have J:=lH func220 (acV X h p c ⟨t,b,false⟩ x w);have M:=lH AQ (BQ X h p c b x);unfold Bw at J;have hc':=x;obtain⟨s,d,g,n,B,K,_,ag,lw,lg⟩:=x;unfold kP.pin;by_cases k:0<=b/\b<256
 .rw[kW k]at W;cases k2:c.may ⟨t,b,false⟩
  .rw[k2]at J;rw[ku ki];exact ck
  .rw[k2]at J;rw[kx ⟨k,rfl⟩];cases k3:c.at_ b with
   |none=>
    have T:c.place b= -1:=by unfold kP.place;rw[k3]
    rw[T]at M;have d4:=kS JP (NB X h p c t hc' w);have d5:=kS func223 (acY X h p c ⟨t,b,false⟩ hc' w);have d6:=kS JQ (KJ X h p c t hc' w);unfold Bw at d5;refine kz JM O ntmps164 O ki [_] O λE S N D=>?_;refine wV ?_;intro X1 v y;obtain⟨rfl,rfl⟩:=y;cases G:c.vw t with
    |none=>
     rw[show Bu p none= .pointer none from rfl];refine wV ?_;intro Y v I;refine wV ?_;exact ns O (I) λ_=>⟨gx,trivial⟩
    |some i=>
     refine l7 (lL.Cs 68 (5,h) [i] (l0:=(0,0)) (p:= []) (v:=.pointer (some ⟨p.bf,p.off*11+i*11,none⟩)) O) ?_;refine wV ?_;intro Y v I;obtain⟨g1,⟨qb,qbf,qoff,qcf,qra,qka,qea,qrl,qkl,qel,qL,qcl⟩,P,r,T,g2⟩:=I;dsimp only at P r T;subst P r T;obtain⟨f,z,_⟩:=Tx G;have hfa:=vZ z;have g5:Y (5,h)=some (.my 219 11 (some (p.bf,p.off)) qcf (c.fr.map Fr.av)):=g2.f;have g3:=om.mJ (C:=Y.put (5,h) (.my 219 11 (some (p.bf,p.off)) qcf ((c.fr.map Fr.av).set i (⟨1,b,-1,1,true,false,⟨false,[],[],[],[]⟩⟩:Fr).av))) g2 z (λ_=>⟨1,b,-1,1,true,false,⟨false,[],[],[],[]⟩⟩) (kC _ _ _) O (λj a=>ky _ _ a);have hf3:((c.leave t).mJ i λ_=>⟨1,b,-1,1,true,false,⟨false,[],[],[],[]⟩⟩).fr[i]?=some ⟨1,b,-1,1,true,false,⟨false,[],[],[],[]⟩⟩:=by rw[BY,kx O,show(c.leave t).fr=c.fr from rfl,z];rfl
     have d7:=kS func224 (acT _ h _ _ i _ hf3 g3 ((w.leave t).mJ i _ λ_ _=>alp));unfold M9 at d7
     repeat (first|(refine l7 (lL.wk 79 (⟨1,b,-1,1,true,false,⟨false,[],[],[],[]⟩⟩:Fr).av O O O (ajF 1 b (-1) 1 true false)) ?_)|refine tT ?_)
     intro Z u V;refine wV ?_;exact ns O (mV.trans (g1.trans (oy.M4 kh)) O O O V) λ_=>⟨gx,trivial⟩
   |some i=>
    have T:c.place b=(i:Nat):=by unfold kP.place;rw[k3]
    rw[T]at M;have hil:=w.at_ b i k3;have hil2:i<(c.fr.map Fr.av).length:=by simpa using hil
    have z:c.fr[i]?=some c.fr[i]:=kQ hil;generalize c.fr[i]=f at z;have hpf:=o f (nF z);have hfa:=vZ z;simp only[z];have g2:=om.mJ (C:=(X.put (5,h) (.my 219 11 (some (p.bf,p.off)) p.cf ((c.fr.map Fr.av).set i (.agg 11 [kq f.st,kq f.oj,kq f.own,kq (f.pins+1),kA f.ref,kA f.uO,f.nd.av])))).put (5,h) (.my 219 11 (some (p.bf,p.off)) p.cf (((c.fr.map Fr.av).set i (.agg 11 [kq f.st,kq f.oj,kq f.own,kq (f.pins+1),kA f.ref,kA f.uO,f.nd.av])).set i (.agg 11 [kq f.st,kq f.oj,kq f.own,kq (f.pins+1),kA true,kA f.uO,f.nd.av])))) hc' z (λf=>{f with pins:=f.pins+1,ref:=true}) Fs O (λj a=>by rw[ky _ _ a,ky _ _ a]);have d6:=kS JQ (KJ _ h p _ t g2 (w.mJ i _ λ_ e=>e));refine kz JM O ntmps164 O ki [_] O λE S N D=>?_;refine wV ?_;intro Y v I;have I:mV h p (c.Bp t i) _ Y:=I
    have hf3:(c.Bp t i).fr[i]?=some {f with pins:=f.pins+1,ref:=true}:=by
     show((c.mJ i λf=>{f with pins:=f.pins+1,ref:=true}).fr[i]?)=_
     rw[BY,kx O,z];rfl
    have hlo:(c.Bp t i).oE=c.oE:=rfl;generalize c.Bp t i=c3 at I hf3 hlo⊢;obtain⟨g1,⟨qb,qbf,qoff,qcf,qra,qka,qea,qrl,qkl,qel,qL,qcl⟩,P,r,T,g3⟩:=I;dsimp only at P r T;subst P r T;have hfa3:=vZ hf3;have hF:=g3.f;have hO:=g3.o;have hL:=g3.l;have hlk:=g3.lg b;by_cases k5:f.st=2
    .simp only[kx k5];refine wV ?_;exact ns O (mV.trans (q:=⟨p.b,p.bf,p.off,qcf,qra,qka,qea,qrl,qkl,qel,qL,qcl⟩) ((Cx (h:=h)).trans g1) O O O (mV.refl g3)) λ_=>⟨gx,trivial⟩
    .simp only[ku k5];cases m:c3.oE b with
     |none=>
      rw[m]at hlk;have hlk:nY b qel=none:=hlk
      repeat (first|(refine lU (c:=.region 12 _ _) (lL.MR (9,256*h+b.toNat) 3 1 O kg) ?_;refine G8 (Kn (4,h) (.var p.b (wW h ⟨p.b,p.bf,p.off,qcf,qra,qka,qea,qrl,qkl,qel,qL,qcl⟩ c3))) (kn9 hO) zD ?_)|refine tT ?_)
      repeat (first|(apply Uv;(focus (exact kE.i (ah7 (9,256*h+b.toNat) hlk O yL mc Jl O O O gF O)));(focus exact ig))|(apply Uc2;(focus (exact kE.i (C1 O O O O gF O (kK _) (KY (uz kM O)) ki ki O)));(focus exact ig);(focus (exact anu λC y e=>by obtain⟨R,L,rfl,_⟩:=e;rw[ky _ _ ki,ky _ _ ki];exact hO)))|(apply Us;(focus (exact kE.i (Od yL mc O O O O gF gW)));(focus exact ig);(focus (exact aff λC y e=>by obtain⟨R,L,rfl⟩:=e;rw[ky _ _ ki,ky _ _ ki,ky _ _ ki];exact hO)))|(first|refine And.intro jC ?_|(first|(apply Uv;(focus exact gI);(focus exact ig))|(apply Ub;(focus exact gU);(focus exact ig);(focus (exact afg kg))))))
      refine wV ?_;refine Kv iJ O λZ y V=>?_;obtain⟨R,L,rfl⟩:=V;exact⟨undef,mV.trans ((Cx (h:=h)).trans g1) O O O (om.ZC g3 b t k R L (by rw[kC,m];rfl) (by rw[ky _ _ ki,kC,m];rfl) (λj a e=>by rw[ky _ _ a,ky _ _ e,ky _ _ e])),⟨gx,trivial⟩⟩
     |some l=>
      rw[m]at hlk;obtain⟨H,F,A,cap,U,q4⟩:=hlk;have hll:=w.oE b l (by rw[<-hlo];exact m)
      repeat (first|(refine G8 (id:=12) (Kn (4,h) (.var p.b (wW h ⟨p.b,p.bf,p.off,qcf,qra,qka,qea,qrl,qkl,qel,qL,qcl⟩ c3))) (ajR hO) zD ?_)|refine tT ?_)
      repeat (first|(apply Uv;(focus (exact kE.i (aeC (9,256*h+b.toNat) U O yL mc Jl O O O gF O)));(focus exact ig))|(apply Uc2;(focus (exact kE.i (C1 O O O O gF O (kK _) (KY (uz kM O)) jY jY O)));(focus exact ig);(focus (exact anu λC y e=>by obtain⟨R,L,rfl,_⟩:=e;rw[ky _ _ ki];exact hO)))|(apply Us;(focus (exact kE.i (Od yL mc O O O O gF gW)));(focus exact ig);(focus (exact aff λC y e=>by obtain⟨R,L,rfl⟩:=e;rw[ky _ _ ki,ky _ _ ki];exact hO)))|(first|refine And.intro jC ?_|(first|(apply Uv;(focus exact gI);(focus exact ig))|(apply Ub;(focus exact gU);(focus exact ig);(focus (exact afg kg))))))
      refine wV ?_;refine Kv iJ O λZ y V=>?_;obtain⟨R,L,rfl⟩:=V;exact⟨undef,mV.trans ((Cx (h:=h)).trans g1) O O O (om.ZC g3 b t k R L (by rw[kC,m];simp) (by rw[ky _ _ ki,kC,m,nQ];simp) (λj a e=>by rw[ky _ _ a,ky _ _ e])),⟨gx,trivial⟩⟩
 .rw[la k]at W;rw[ku (λe=>k e.1)];exact ck
end
