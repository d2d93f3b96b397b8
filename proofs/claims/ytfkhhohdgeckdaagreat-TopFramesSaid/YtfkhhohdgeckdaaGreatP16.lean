/- Part of the proof, without conditions. -/
import Derived.Test.YtfkhhohdgeckdaaGreatP15
namespace Go.Proofs.YtfkhhohdgeckdaaGreat
open Go RowKit Proofs.Tryz
set_option linter.all false
set_option maxRecDepth 100000
set_option maxHeartbeats 16000000
variable {X:kY}{h:Nat}
def aeh{p:Ib}{s:sO}(o:zS X h p s){i:Int}(a:s.ok i=true):∃n:Nat,i=n/\n<s.oj.length/\ ∃l,s.oj[n]?=some l/\l.length=256:=by
 unfold sO.ok at a;split at a
 .rename_i k;obtain⟨n,rfl⟩:=AR k;rw[pP,nI]at a
  have hn:n<s.used.length:=by
   rcases Ba n s.used.length with h|h
   .exact h
   .rw[pN h]at a;cases a
  have hb:n<s.oj.length:=by have:=o.len;omega
  exact⟨n,rfl,hb,s.oj[n],kQ hb,o.by_ _ (ng hb)⟩
 .cases a
variable {n:Nat}
def W5{s:sO}{l:List (BitVec 8)}(h:s.oj[n]?=some l):(s.oj.map H3)[n]?=some (.arr 256 1 (l.map lN)):=by rw[oI,h];rfl
def sO.E8(s:sO)(i:Nat):Bool:=s.used.getD i false
def sO.Hj(s:sO):List Nat:=(List.range s.used.length).filter s.E8
def sO.left(s:sO):Nat:=s.used.length- s.Hj.length
def aar(s:sO)(j:Nat):(List.range (j+1)).filter s.E8=(List.range j).filter s.E8++if s.E8 j then[j]else[]:=uD _ j
def wj(i:Nat):AV:=kq (i:Nat)
structure kG where
 c:kP
 s:sO
 sX:List nT
 reads:Int->Option Int
structure rR where
 b:Nat
 c:qq
 s:Ib
 bl:Nat
 ol:Nat
 cl:Nat
 lb:List Nat
 rr:Nat
 kr:Nat
 er:List oW
def LA(h:Nat)(i b:Nat):AV:=.raw (10,64*h+i) [] (.pointer (some ⟨b,0,none⟩))
def og(h:Nat)(lb:List Nat):List AV:=lb.mapIdx (LA h)
abbrev ajV(h:Nat)(p:rR):AV:=.agg 4 [lQ (4,h) p.c.b,lQ (13,h) p.s.b,.raw (2,h) [] (sv 1 (some (p.bl,p.ol)) (og h p.lb).length p.cl),.raw (16,h) [] (.map (some p.rr))]
structure qR(X:kY)(h:Nat)(p:rR)(H:kG):Prop where
 o:X (1,h)=some (.var p.b (ajV h p))
 l:X (2,h)=some (.my 154 1 (some (p.bl,p.ol)) p.cl (og h p.lb))
 r:X (16,h)=some (.ob p.rr (ua p.er p.kr))
 rw:Xx p.er p.kr
 rg:∀k,nY k p.er=(H.reads k).map λt=>.int .i64 t
 c:om X h p.c H.c
 s:zS X h p.s H.s
 ln:H.sX.length=H.c.fr.length
 lp:p.lb.length=H.sX.length
 lt:∀i L b,H.sX[i]?=some L->p.lb[i]?=some b->sx X (64*h+i) b L
def uZ(h:Nat)(l:nz):Prop:=((l.1=1∨l.1=2∨l.1=16)/\l.2=h)∨EZ h l∨MB h l∨(10<=l.1/\l.1<=12/\l.2/64=h)
def rA(h:Nat)(X C:kY):Prop:=∀l,¬uZ h l->C l=X l
def rA.refl(h:Nat)(X:kY):rA h X X:=λ_ _=>rfl
variable {Y Z:kY}
def rA.trans(k:rA h X Y)(k':rA h Y Z):rA h X Z:=λl g=>(k' l g).trans (k l g)
def oy.Hb(k:oy h X Y):rA h X Y:=λl g=>k l λe=>g (.inr (.inl e))
def ry.Hb(k:ry h X Y):rA h X Y:=λl g=>k l λe=>g (.inr (.inr (.inl e)))
variable {i:Nat}
def mP.Hb(hi:i<64)(k:mP (64*h+i) X Y):rA h X Y:=λl g=>k l (λe=>g hp) (λe=>g hp) (λe=>g hp)
def nw(h:Nat)(p:rR)(H':kG)(X C:kY):Prop:=rA h X C/\ ∃p':rR,p'.b=p.b/\qR C h p' H'
def nw.refl{p:rR}{H:kG}(k:qR X h p H):nw h p H X X:=⟨rA.refl h X,p,rfl,k⟩
variable {C:kY}
def zS.off{p:Ib}{s:sO}(k:zS X h p s)(U:∀l,MB h l->C l=X l):zS C h p s:=
 ⟨(U _ ⟨by simp,by simp,rfl⟩).trans k.o,(U _ ⟨by simp,by simp,rfl⟩).trans k.bl,(U _ ⟨by simp,by simp,rfl⟩).trans k.us,k.len,k.n,k.by_⟩
variable {b:Nat}
def sx.off{s:nT}(k:sx X i b s)(j:C (10,i)=X (10,i))(a:C (11,i)=X (11,i))(c:C (12,i)=X (12,i)):sx C i b s:=by
 obtain⟨A,g,Q,q,e,k2,k3⟩:=k.ex;exact⟨⟨A,g,Q,q,j.trans e,a.trans k2,c.trans k3⟩,k.rl,k.ql⟩
variable {l:nz}
def WU(c:l.1<3∨9<l.1):¬EZ h l:=by rintro(⟨a,b,_⟩|⟨a,_⟩)<;>omega
def uy(c:l.1<13∨15<l.1):¬MB h l:=by
 rintro⟨a,b,_⟩;omega
def x8(k:EZ h l):3<=l.1/\l.1<=9:=by
 rcases k with⟨a,b,_⟩|⟨a,_⟩<;>omega
variable {c':kP}
def qR.toC{p:rR}{H:kG}(k:qR X h p H)(u:mV h p.c c' X C)(g:c'.fr.length=H.c.fr.length):nw h p {H with c:=c'} X C:=by
 obtain⟨f,q,P,_,_,k2⟩:=u;have o:∀l:nz,(l.1<3∨9<l.1)->C l=X l:=λl g=>f l (WU g);refine⟨f.Hb,{p with c:=q},rfl,?_⟩;exact⟨(o _ (.inl ki)).trans (k.o.trans (by simp only[ajV,P])),(o _ (.inl ki)).trans k.l,(o _ (.inr ki)).trans k.r,k.rw,k.rg,k2,k.s.off λl ⟨a,b,_⟩=>o l (.inr kh),by rw[g];exact k.ln,k.lp,λi L b d e=>(k.lt i L b d e).off (o _ (.inr ki)) (o _ (.inr ki)) (o _ (.inr ki))⟩
def qR.toS{p:rR}{H:kG}{j:sO}(k:qR X h p H)(k1:ry h X C)(q:zS C h p.s j):nw h p {H with s:=j} X C:=by have o:∀l:nz,(l.1<13∨15<l.1)->C l=X l:=λl g=>k1 l (uy g);refine⟨k1.Hb,p,rfl,?_⟩;exact⟨(o _ (.inl ki)).trans k.o,(o _ (.inl ki)).trans k.l,(o _ (.inr ki)).trans k.r,k.rw,k.rg,k.c.off λl g=>o l (.inl jj),q,k.ln,k.lp,λi L b a c=>(k.lt i L b a c).off (o _ (.inl ki)) (o _ (.inl ki)) (o _ (.inl ki))⟩
def qR.toL{p:rR}{H:kG}{L r:nT}(k:qR X h p H)(hi:H.sX[i]?=some L)(g:p.lb[i]?=some b)(F:i<64)(k1:mP (64*h+i) X C)(q:sx C (64*h+i) b r):nw h p {H with sX:=H.sX.set i r} X C:=by
 have o:∀l:nz,(l.1<10∨12<l.1)->C l=X l:=λl m=>k1 l (λe=>by subst e;simp at m) (λe=>by subst e;simp at m) (λe=>by subst e;simp at m);refine⟨k1.Hb F,p,rfl,?_⟩;refine⟨(o _ (.inl ki)).trans k.o,(o _ (.inl ki)).trans k.l,(o _ (.inr ki)).trans k.r,k.rw,k.rg,k.c.off λl m=>o l (.inl (by have:=x8 m;omega)),k.s.off λl ⟨a,b,_⟩=>o l (.inr kh),by simpa using k.ln,by simpa using k.lp,λj M c d f=>?_⟩;rw[AO]at d;by_cases e:i=j
 .subst e;rw[g]at f;injection f with f;subst f
  have m:i<H.sX.length:=(mS.1 hi).1;rw[kx O,kx m]at d;injection d with d;subst d
  exact q
 .rw[ku e]at d
  have t:∀a:Nat,((a,64*h+j):nz)≠(10,64*h+i)/\((a,64*h+j):nz)≠(11,64*h+i)/\((a,64*h+j):nz)≠(12,64*h+i):=λa=>by
   refine⟨?_,?_,?_⟩<;>(intro n;injection n with _ R;omega)
  exact(k.lt j M c d f).off (k1 _ (t 10).1 (t 10).2.1 (t 10).2.2) (k1 _ (t 11).1 (t 11).2.1 (t 11).2.2) (k1 _ (t 12).1 (t 12).2.1 (t 12).2.2)
def qR.toR{p:rR}{H:kG}{n:List oW}{G:Nat}{f:Int->Option Int}(k:qR X h p H)(q:C (16,h)=some (.ob p.rr (ua n G)))(U:∀l,l≠(16,h)->C l=X l)(m:Xx n G)(u:∀j,nY j n=(f j).map λt=>.int .i64 t):nw h p {H with reads:=f} X C:=by have o:∀l:nz,l.1≠16->C l=X l:=λl g=>U l (λe=>by subst e;exact g O);refine⟨λl g=>U l (λe=>g (by subst e;exact .inl ⟨.inr (.inr O),rfl⟩)),{p with er:=n,kr:=G},rfl,?_⟩;exact⟨(o _ ki).trans k.o,(o _ ki).trans k.l,q,m,u,k.c.off λl g=>o l jj,k.s.off λl ⟨a,b,_⟩=>o l kh,k.ln,k.lp,λi L b c d=>(k.lt i L b c d).off (o _ ki) (o _ ki) (o _ ki)⟩
variable {H':kG}
def nw.trans{p q:rR}(k:rA h X Y)(e:q.b=p.b)(k':nw h q H' Y Z):nw h p H' X Z:=by
 obtain⟨f,p',U,f2⟩:=k';exact⟨k.trans f,p',U.trans e,f2⟩
structure kG.Wf(H:kG):Prop where
 c:H.c.Wf
def kG.lt(H:kG)(t k:Int):Option Nat:=if 0<=t/\t<8 then H.c.fp k 2 else none
def EE(p:rR):Option Nat->Value
 |none=>.pointer none
 |some i=>.pointer ((p.lb[i]?).map λb=>⟨b,0,none⟩)
def C8{lb:List Nat}(c:lb[i]?=some b):(og h lb)[i]?=some (LA h i b):=by
 unfold og;rw[sn,c];rfl
def Lz(h:Nat)(lb:List Nat):(og h lb).length=lb.length:=by unfold og;simp
variable {E:su}{nt:Nat}{ops:Array Oper}{T:Nat->Option AV}{H:Hp}{d:Option Nat}{ty:TypeId}{pos:String}{af:Array Edge}{gd:Option (Nat×Bool)}
variable {j:Nat}
section
attribute [local irreducible] kE lM AW mU lL mG mC lj lT ly kN AS
def XJ(X:kY)(h:Nat)(p:Ib)(s:sO)(i:Int)(o:zS X h p s):mZ prog 184 [lQ (13,h) p.b,kq i] X (.mz [.sl none 1 (((s.read i).getD []).map lN),kq (if s.ok i then 0 else 6)]) (λC _=>C=X):=by
 have W:=lH func211 (ajC X h p s i o);unfold sO.read;refine kz func184 O ntmps184 O ki [_,_] O λE S N j=>?_;cases e:s.ok i
 .rw[e]at W;rw[ku ki,ku ki];refine wV ?_;exact ns O (O) λ_=>⟨aaM O,gx,trivial⟩
 .rw[e]at W;obtain⟨n,rfl,hn,l,g,m⟩:=aeh o e;obtain⟨a,b,k,A,D,P⟩:=o;rw[kx O,kx O,pP,g];have q:=W5 g;have y:n<(s.oj.map H3).length:=fz;have Y:(l.map lN).length=256:=by simpa using m
  repeat (first|refine Vb (PR (f:=lN) (x0:=0#8) (n:=256) O O O O O O kg kg) hP ?_|refine Vv (Oc O O O O) hP ?_|refine Vb (abj (G:=(List.replicate 256 0#8).map lN) O O O O (adq b q O Y.symm) O ki Y O) hP ?_|(refine lU (c:=.seq (.region 5 _ _) _) (lL.froz S 11 O) ?_;refine lU (lL.seg 6 11 O O O O (yd Y.symm)) ?_;rw[pO (yd Y)])|refine tT ?_)
  exact ns O (O) λ_=>⟨gx,gx,trivial⟩
def acD(X:kY)(h:Nat)(p:Ib)(s:sO)(i:Int)(b:List (BitVec 8))(d:b.length<=100000)(o:zS X h p s):mZ prog 140 [lQ (13,h) p.b,kq i,tp b] X (kq (if s.ok i then(if b.length=256 then 0 else 1)else 6)) (λC _=>ry h X C/\zS C h p (s.write i b)):=by
 have W:=lH func211 (ajC X h p s i o);have x:=o;unfold sO.write tp;refine kz func140 O ntmps140 O ki [_] O λE S N j=>?_;cases f:s.ok i
 .rw[f]at W;rw[ku ki,ku ki];refine wV ?_;exact ns O (⟨ry.refl h X,x⟩) λ_=>⟨gx,trivial⟩
 .rw[f]at W;obtain⟨n,rfl,hn,l,g,r⟩:=aeh o f;obtain⟨a,c,k,A,D,P⟩:=o;rw[kx O,pP];by_cases k2:b.length=256
  .rw[kx k2,kx ⟨O,k2⟩];have t:=W5 g;have y:n<(s.oj.map H3).length:=fz;have k3:(b.map lN).length=256:=ga;have m:¬(((b.length:Nat):Int)≠256):=eY;have F:¬((((b.map lN).length:Nat):Int)≠256):=by rw[k3];simp
   repeat (first|refine Vv (Oc O O O O) hP ?_|refine Vb (aez O O O O c t O (ajI Aa) O k3 O) hP ?_|refine tT ?_)
   have q:zS (X.put (14,h) (.my 278 256 (some (p.bb,p.ob)) p.cb ((s.oj.map H3).set n (.arr 256 1 (b.map lN))))) h p {s with oj:=s.oj.set n b}:=⟨(ky _ _ ki).trans (a.trans (by simp only[X6,kX,q7])),by rw[kC,uT];rfl,(ky _ _ ki).trans k,by simpa using A,D,λl g=>(xg g).elim (P l) (λe=>e▸k2)⟩;exact ns O (⟨ry.put kh,q⟩) λ_=>⟨gx,trivial⟩
  .rw[ku k2,ku (λe=>k2 e.2)];have m:((b.length:Nat):Int)≠256:=eY;have F:(((b.map lN).length:Nat):Int)≠256:=fX;refine wV ?_;exact ns O (⟨ry.refl h X,x⟩) λ_=>⟨gx,trivial⟩
def Ry:lB prog 278 (H3 (List.replicate 256 0#8)):=by
 refine lR (v:=.agg (List.replicate 256 (.int .u8 0)).toArray) (n:=256) j6 λU w=>?_
 have:∀k,ov U w 1 ((List.replicate k 0#8).map lN) B0 H0 (List.replicate k (.int .u8 0)):=λk=>by
  induction k with
  |zero=>rfl
  |succ k y=>
   rw[GM,nc,GM];simp only[ov];exact⟨[.int .u8 0],_,rfl,rfl,by rw[lN,DR];simp[Rd,sB],y⟩
 simp only[H3,Rd,Value.cells];exact⟨by simp,by simpa using this 256⟩
def alg(n:lK nt d=true):kE prog E nt ops ⟨d,.build 278 #[],ty,pos,af,gd⟩ T H [] ⟨H3 (List.replicate 256 0#8),[]⟩:=
 PV (l:= []) (vs:= []) (out:=(List.replicate 256 0#8).map lN) Ry O n O O O O O O O
def abn{s:sO}(h:∀i (hi:i<s.used.length),s.used[i]=true):s.next=none:=by
 unfold sO.next;rw[Zg];intro x j;obtain⟨i,hi,rfl⟩:=vN.1 j;simp[h i hi]
def abm{s:sO}(k:j<s.used.length)(h:∀i (hi:i<s.used.length),i<j->s.used[i]=true)(L:s.used[j]=false):s.next=some j:=by
 unfold sO.next;rw[Dm];exact⟨k,by simp[L],λi hi=>by simp[h i kh hi]⟩
def RI(X:kY)(h:Nat)(p:Ib)(s:sO)(o:zS X h p s):mZ prog 108 [lQ (13,h) p.b] X (.mz [kq ((s.next.getD 0:Nat)),kq (if s.next.isSome then 0 else 3)]) (λC _=>ry h X C/\zS C h p (match s.next with|some i=>s.alloc i|none=>s)):=by
 have x:=o;obtain⟨a,b,m,A,D,P⟩:=o;refine kz func108 O ntmps108 O ki [_,_] O λE S N n=>?_;refine wV ?_;refine kU (λj:Nat=>⟨[(0,lQ (13,h) p.b),(9,.raw (15,h) [] (sv 1 (some (p.bu,p.ou)) (s.used.map kA).length p.cu)),(10,kq (((s.used.map kA).length:Nat))),(11,kq (j:Nat))],[(4999,.ext (Sg X))]⟩) (λj=>j<=s.used.length/\ ∀i (hi:i<s.used.length),i<j->s.used[i]=true) (λj=>s.used.length- j) 0 ⟨kO _,λi hi h=>by omega⟩ ed (λj k=>?_);obtain⟨k,y⟩:=k;by_cases Z:j<s.used.length
 .have q:j<(s.used.map kA).length:=by simpa using Z
  have c:j<(s.oj.map H3).length:=fX;have z:s.used[j]?=some s.used[j]:=kQ Z;have f:(s.used.map kA)[j]?=some (kA s.used[j]):=f9;have t:s.oj[j]?=some (s.oj[j]'kh):=kQ kh;have u:=W5 t;cases hu:s.used[j]
  .rw[hu]at f;rw[abm Z y hu]
   repeat (first|refine Wv (alg O) hP ?_|refine tT ?_)
   have r:zS ((X.put (15,h) (.my 4 1 (some (p.bu,p.ou)) p.cu ((s.used.map kA).set j (kA true)))).put (14,h) (.my 278 256 (some (p.bb,p.ob)) p.cb ((s.oj.map H3).set j (H3 (List.replicate 256 0#8))))) h p (s.alloc j):=⟨by rw[ky _ _ ki,ky _ _ ki,a];simp only[X6,sO.alloc,kX,q7],by rw[kC];simp only[sO.alloc,uT],by rw[ky _ _ ki,kC];simp only[sO.alloc,uT],by simpa[sO.alloc]using A,by simpa[sO.alloc]using D,λl g=>(xg g).elim (P l) (λe=>by rw[e];simp)⟩;exact ns O (⟨(ry.put kh).trans (ry.put kh),r⟩) λ_=>⟨gx,gx,trivial⟩
  .rw[hu]at f;refine wV ?_;refine⟨j+1,⟨Z,λi hi h=>?_⟩,by omega,ed⟩;by_cases e:i=j
   .subst e;exact hu
   .exact y i hi kh
 .have q:¬j<(s.used.map kA).length:=by simpa using Z
  rw[abn λi hi=>y i hi kh];refine wV ?_;exact ns O (⟨ry.refl h X,x⟩) λ_=>⟨gx,gx,trivial⟩
def ahb(X:kY)(h:Nat)(p:Ib)(s:sO)(o:zS X h p s):mZ prog 279 [lQ (13,h) p.b] X (.sl none 1 (s.Hj.map wj)) (λC _=>C=X):=by
 obtain⟨a,b,k,A,D,P⟩:=o;unfold sO.Hj;refine kz func279 O ntmps279 O ki [_] O λE S N l=>?_;refine wV ?_;refine lU (lL.token 3 3 0 3 O O) ?_;refine kU (λj:Nat=>⟨[(0,lQ (13,h) p.b),(3,.sl (some 3) 1 (((List.range j).filter s.E8).map wj)),(9,.raw (15,h) [] (sv 1 (some (p.bu,p.ou)) (s.used.map kA).length p.cu)),(10,kq (((s.used.map kA).length:Nat))),(11,kq (j:Nat))],[(4999,.ext (Sg X)),(3,.tail 3 1 ((List.range j).filter s.E8).length)]⟩) (λj=>j<=s.used.length) (λj=>s.used.length- j) 0 (kO _) ed (λj i=>?_);have T:((List.range j).filter s.E8).length<=256:=oG (vL _ _) jY;by_cases Z:j<s.used.length
 .have m:j<(s.used.map kA).length:=by simpa using Z
  have z:s.used[j]?=some s.used[j]:=kQ Z;have f:(s.used.map kA)[j]?=some (kA s.used[j]):=f9;have t:=aar s j;have u:s.E8 j=s.used[j]:=by unfold sO.E8;rw[nI,z,Option.getD_some]
  rw[u]at t;cases hu:s.used[j]
  .rw[hu]at f t;rw[ku ki,oT]at t;refine wV ?_;exact cS
  .rw[hu]at f t;rw[kx O]at t
   repeat (first|(refine l7 (lL.as 18 (wj j) O) ?_;refine tT ?_)|refine tT ?_)
   exact cS
 .have m:¬j<(s.used.map kA).length:=by simpa using Z
  have B:j=s.used.length:=eY;subst B;exact dQ
def ahc(X:kY)(h:Nat)(p:Ib)(s:sO)(o:zS X h p s):mZ prog 249 [lQ (13,h) p.b] X (kq (s.left:Nat)) (λC _=>C=X):=by have W:=lH func279 (ahb X h p s o);have q:s.Hj.length<=s.used.length:=oG (vL _ _) ki;obtain⟨a,b,k,A,D,R⟩:=o;have P:(s.used.map kA).length=s.used.length:=kX _;have c:(s.Hj.map wj).length=s.Hj.length:=kX _;refine kz func249 O ntmps249 O ki [_] O λE S N i=>?_;refine wV ?_;exact uq (v:=undef) (.inr O) O O λ_=>⟨B4 O O O (by simp only[SJ,sO.left,kX,kq];congr 2;omega),trivial⟩
section
attribute [local irreducible] lF kP.mm kP.waits kP.free BA
def ZF(t:Int):mG prog 187 [kq t] (kA (decide (0<=t/\t<8))):=by
 refine kL func187 O ntmps187 O ki [_] O λE S N i=>?_;exact aY
def ajE(X:kY)(h:Nat)(p:rR)(H:kG)(k:Int)(D:qR X h p H):mZ prog 163 [lQ (1,h) p.b,kq k] X (kA (H.s.ok k)) (λC _=>C=X):=by
 have W:=lH func184 (XJ X h p.s H.s k D.s);have a:=D.o;refine kz func163 O ntmps163 O ki [_] O λE S N i=>?_;cases e:H.s.ok k
 .rw[e,ku ki]at W;exact dJ
 .rw[e,kx O]at W;exact dJ
def ahi(X:kY)(h:Nat)(p:rR)(H:kG)(D:qR X h p H)(w:H.Wf):mZ prog 143 [lQ (1,h) p.b] X (kq (H.c.free:Nat)) (λC _=>C=X):=by have W:=lH func182 (XP X h p.c H.c D.c w.c);have a:=D.o;refine kz func143 O ntmps143 O ki [_] O λE S N i=>?_;exact dJ
def KI(X:kY)(h:Nat)(p:rR)(H:kG)(t k:Int)(D:qR X h p H)(w:H.Wf):mZ prog 127 [lQ (1,h) p.b,kq t,kq k] X (.hv 4998) (λC v=>C=X/\v=EE p (H.lt t k)):=by
 have K:=kD func187 (ZF t);have W:=lH func188 (acS X h p.c H.c k D.c w.c);have A:=lH AQ (BQ X h p.c H.c k D.c);have a:=D.o;have c:=D.l;unfold kG.lt;refine kz JL O ntmps127 O ki [_] O λE S N j=>?_;by_cases e:0<=t/\t<8
 .rw[kW e]at K;rw[kx e];cases k2:H.c.fp k 2 with
  |none=>
   rw[k2]at W;have W:Un 188 [lQ (4,h) p.c.b,kq k] X (kA false):=W;exact bQ
  |some i=>
   rw[k2]at W;have W:Un 188 [lQ (4,h) p.c.b,kq k] X (kA true):=W;obtain⟨P,f,z,_⟩:=C9 k2;have Y:H.c.place k=(i:Nat):=by unfold kP.place;rw[P]
   rw[Y]at A;have m:i<p.lb.length:=by rw[D.lp,D.ln];exact(mS.1 z).1
   have hb:p.lb[i]?=some p.lb[i]:=kQ m;generalize p.lb[i]=b at hb;have g:=C8 (h:=h) hb;unfold LA at g;have F:i<(og h p.lb).length:=by rw[Lz];exact m
   have u:EE p (some i)= .pointer (some ⟨b,0,none⟩):=by simp[EE,hb]
   rw[u]
   repeat (first|(refine l7 (lL.HD 6 (0,0) O) ?_)|refine tT ?_)
   exact uq (v:=.pointer (some ⟨b,0,none⟩)) iJ O (⟨O,rfl⟩) λ_=>⟨vl O,trivial⟩
 .rw[la e]at K;rw[ku e];exact bQ
def P0{p:rR}{H:kG}(D:qR X h p H){t k:Int}{i:Nat}(e:H.lt t k=some i):∃L b,H.sX[i]?=some L/\p.lb[i]?=some b/\sx X (64*h+i) b L/\EE p (some i)= .pointer (some ⟨b,0,none⟩)/\i<H.c.fr.length:=by
 unfold kG.lt at e;split at e
 .obtain⟨_,f,z,_⟩:=C9 e;have hi:=(mS.1 z).1;have a:i<H.sX.length:=by rw[D.ln];exact hi
  have c:i<p.lb.length:=by rw[D.lp];exact a
  exact⟨_,_,kQ a,kQ c,D.lt i _ _ (kQ a) (kQ c),by simp[EE,kQ c],hi⟩
 .cases e
def kG.pin(H:kG)(t k:Int):kG×Int:=if H.s.ok k then
 ({H with c:=(H.c.pin t k).1,reads:=if(H.c.pin t k).2=3 then(λj=>if j=k then some t else H.reads j)else H.reads},(H.c.pin t k).2)else(H,0)
def nT.Sm(L:nT):Prop:=L.rd.length+L.qu.length<=90000
def kG.adf(H:kG)(t k:Int)(w:Bool):Bool:=match H.lt t k with
 |some i=>match H.sX[i]? with
  |some L=>L.can t w
  |none=>false
 |none=>false
def kG.take(H:kG)(t k:Int)(w:Bool):kG:=match H.lt t k with
 |some i=>match H.sX[i]? with
  |some L=>{H with sX:=H.sX.set i (L.take t w)}
  |none=>H
 |none=>H
def ahS(c:kP)(t k:Int):(c.pin t k).1.fr.length=c.fr.length:=by
 unfold kP.pin;split
 .split
  .split
   .split
    .simp[kP.Bp,kP.mJ,kP.leave]
    .simp[kP.wait,kP.Bp,kP.mJ,kP.leave]
   .rfl
  .split
   .unfold kP.ask;split<;>rfl
   .simp[kP.load,kP.put,kP.mJ,kP.leave]
 .rfl
def Pa(X:kY)(h:Nat)(p:rR)(H:kG)(t k:Int)(f:Bool)(D:qR X h p H)(w:H.Wf)(g:∀L∈H.sX,L.Sm):mZ prog 80 [lQ (1,h) p.b,kq t,kq k,kA f] X (kA (H.adf t k f)) (λC _=>nw h p (H.take t k f) X C):=by
 have W:=kS JL (KI X h p H t k D w);unfold kG.adf kG.take;refine kz func80 O ntmps80 O ki [_] O λE S N j=>?_;refine wV ?_;rintro _ _ ⟨rfl,rfl⟩;cases e:H.lt t k with
 |none=>
  exact cT
 |some i=>
  obtain⟨L,b,x,n,F,M,Z⟩:=P0 D e;have o:=g L (nF x);unfold nT.Sm at o;have P:i<64:=by have:=w.c.len;omega
  simp only[x];rw[M];have z:=kS func128 (aks _ (64*h+i) b L t f F kh kh);refine l7 (lL.Cs 13 (10,64*h+i) [] O) ?_;refine wV ?_;intro Y v s;obtain⟨m,l⟩:=s;refine wV ?_;exact ns O (D.toL x n P m l) λ_=>⟨gx,trivial⟩
def U6(X:kY)(h:Nat)(p:rR)(H:kG)(t k:Int)(D:qR X h p H)(w:H.Wf)(Z:∀f∈H.c.fr,-1000000000<=f.pins/\f.pins<=1000000000):mZ prog 114 [lQ (1,h) p.b,kq t,kq k] X (kq (H.pin t k).2) (λC _=>nw h p (H.pin t k).1 X C):=by
 have W:=lH func163 (ajE X h p H k D);have z:=kS JM (akw X h p.c H.c t k D.c w.c Z);have b:=D.o;unfold kG.pin;refine kz JK O ntmps114 O ki [_] O λE S N i=>?_;cases e:H.s.ok k
 .rw[e]at W;exact dx
 .rw[e]at W;rw[kx O];refine wV ?_;intro Y v s;have F:=D.toC s (ahS H.c t k);obtain⟨x,q,P,m⟩:=F;have o1:=m.o;have o2:=m.r;rw[P]at o1;by_cases c:(H.c.pin t k).2=3
  .simp only[kx c];refine wV ?_
   have u:∀j,nY j (u7 q.kr k (.int .i64 t) q.er)=(if j=k then some t else H.reads j).map λt=>.int .i64 t:=λj=>by
    rw[FH,m.rg j];split<;>rfl
   exact ns O (nw.trans x P (m.toR (f:=λj=>if j=k then some t else H.reads j) (kC _ _ _) (λl a=>ky _ _ a) (m.rw.put k (.int .i64 t)) u)) λ_=>⟨gx,trivial⟩
  .simp only[ku c];refine wV ?_;exact ns O (nw.trans x P (nw.refl m)) λ_=>⟨gx,trivial⟩
end
end
variable {x:Operand}{t:TypeId}{G:List AV}
variable {e:TypeId}{tn len es:Nat}{ea:Bool}{hi:Operand}{p:List Nat}
variable {t':TypeId}
section
variable {o f k m:Nat}{fs:List AV}{y:AV}
def aey(j:kv T x=some (.raw l [f,i] (.pointer (some ⟨b,o+i*k,none⟩))))(u:H 4999=some (.ext (Sg X)))(g:X l=some (.var b (.agg n fs)))(z:fs[f]?=some (.arr m k G))(L:G[i]?=some y)(U:te (fs.take f)=o)(q:kM.sa t=some (na y,lE y))(p:lK nt d=true):
 kE prog E nt ops ⟨d,.load t x,ty,pos,af,gd⟩ T H [4999] ⟨y,[]⟩:=
 Ob j u g O (by simp[sU,z,L]) (by simp[tj,z,nI,U]) q p
def aew{q:Operand}{v:AV}(j:kv T x=some (.raw l [f,i] (.pointer (some ⟨b,o+i*k,none⟩))))(F:kv T q=some v)(z:mO v=true)(N:lS v=true)(u:H 4999=some (.ext (Sg X)))(g:X l=some (.var b (.agg n fs)))(A:fs[f]?=some (.arr m k G))(L:G[i]?=some y)(U:te (fs.take f)=o)(r:kM.sa t=some (na v,lE v))(B:lE v=lE y)(p:d=none):
 kE prog E nt ops ⟨d,.store t x q,ty,pos,af,gd⟩ T H [4999] ⟨.mz [],[(4999,.ext (Sg (X.put l (.var b (.agg n (fs.set f (.arr m k (G.set i v))))))))]⟩:=by
 subst p;exact ID j F z N u g O (u':=.agg n (fs.set f (.arr m k (G.set i v)))) (by simp[sU,A,L]) (by simp[tj,A,nI,U]) (by simp[xM,A,L,z]) rfl r B
def Lk{off:Nat}(o:kM.ti t=some (.arr tn (len+1) es ea e))(j:kv T x=some (.raw l p (.pointer (some ⟨b,off,none⟩))))(C:se T (some hi) (len+1) h)(c:h<=len+1)(g:Nat.blt len 9223372036854775807=true)(n:lK nt d=true):
 kE prog E nt ops ⟨d,.slice t x none (some hi) none,ty,pos,af,gd⟩ T H [] ⟨.raw l p (.slice (some ⟨b,off,none⟩) h (len+1)),[]⟩:=
 lO n λB T' H' a w r s D=>by have f:=r.pe ((s x js).trans j);have g:len<9223372036854775807:=fU;obtain⟨_,hu,L⟩:=kM.ok t _ o;have i:=lC L w;have u:=qs C (T':=T') (λy F=>s y im);have M:=rH (P:=prog) (isS:=false) (len:=len+1) (cap:=len+1) r (show se T' none 0 0 from rfl) u (show se T' none (len+1) (len+1)from rfl) ki (kO _) c (kK _);refine⟨.slice (some ⟨b,off,none⟩) h (len+1),?_,Bn O⟩;simp at M;simp[execOp,f,Instr.sliceAt,lu hu,Instr.sureAddr,M,i,Addr.add]
def aeG{y:Operand}{k:IntKind}{p q:Int}(n:lK nt d=true)(j:kv T x=some (.v (.int k p)))(F:kv T y=some (.v (.int k q))):
 kE prog E nt ops ⟨d,.call {callee:=.builtin .max,args:= #[x,y],argTypes:= #[t,t']},ty,pos,af,gd⟩ T H [] ⟨.v (.int k (if p<q then q else p)),[]⟩:=
 lO n λB T' H' a w r s D=>⟨.int k (if p<q then q else p),by have b:=r.od ((s x iV).trans j);have c:=r.od ((s y iV).trans F);simp[execOp,resolve,invoke,builtin,b,c,Builtin.max_,Builtin.max2],by rw[nM];exact⟨O,rfl⟩⟩
end
variable {R:Prop}
def wTs{Q:Prop}(k:R)(h:zT R->Q:=by intro kHid;((first|((first|apply Vv|apply Wv);(focus (first|exact aey O O gF j7 gL j7 j7 O|exact Cj O O O O jd O|exact Lk O O (sk O) jd O O|exact aeG O O O|exact t6 O O O kh O));(focus exact ig))|((first|apply Vs|apply Ws);(focus (exact aew O O O O O gF j7 gL j7 O j7 O));(focus exact ig))|refine tT ?_));exact kHid.out):Q:=h ⟨k⟩
def wT{Q:Prop}(k:R)(h:zT R->Q:=by intro kHid;(repeat (first|((first|apply Vv|apply Wv);(focus (first|exact aey O O gF j7 gL j7 j7 O|exact Cj O O O O jd O|exact Lk O O (sk O) jd O O|exact aeG O O O|exact t6 O O O kh O));(focus exact ig))|((first|apply Vs|apply Ws);(focus (exact aew O O O O O gF j7 gL j7 O j7 O));(focus exact ig))|refine tT ?_));exact kHid.out):Q:=h ⟨k⟩
structure ox where
 n:Nat
 st:List Int
 wt:List Int
 pk:List Int
 pW:Int
def ox.av(s:ox):AV:=.agg 26 [kq (s.n:Nat),.arr 8 1 (s.st.map kq),.arr 8 1 (s.wt.map kq),.arr 8 1 (s.pk.map kq),kq s.pW]
structure CM(X:kY)(h b:Nat)(s:ox):Prop where
 o:X (18,h)=some (.var b s.av)
structure ox.Wf(s:ox):Prop where
 n:1<=s.n/\s.n<=8
 st:s.st.length=8
 wt:s.wt.length=8
 pk:s.pk.length=8
def ox.is(s:ox)(i:Int):Bool:=decide (0<=i)&&decide (i<s.n)
def ox.u6(s:ox)(i st:Int):ox:=
 if s.is i=true/\s.st.getD i.toNat 0≠2 then
  {s with st:=s.st.set i.toNat st,wt:=if st≠0 then s.wt.set i.toNat 0 else s.wt}
 else s
def ox.rb(s:ox)(i:Nat):Bool:=decide (s.st.getD i 0=0)
def ox.run(s:ox):List Nat:=(List.range s.n).filter s.rb
section
attribute [local irreducible] kE lM AW mU lL mG mC lj lT ly kN AS
def ajB(X:kY)(h b:Nat)(s:ox)(i:Int)(o:CM X h b s):mZ prog 162 [lQ (18,h) b,kq i] X (kA (s.is i)) (λC _=>C=X):=by
 have a:=o.o;unfold ox.av at a;unfold ox.is;refine kz func162 O ntmps162 O ki [_] O λE S N j=>?_;by_cases e:0<=i
 .rw[kW e,xl];exact dK
 .rw[la e,yM];exact dK
def aog(X:kY)(h b:Nat)(s:ox)(i:Int)(o:CM X h b s)(w:s.Wf):mZ prog 113 [lQ (18,h) b,kq i] X (kq (if s.is i=true then s.wt.getD i.toNat 0 else 0)) (λC _=>C=X):=by
 have W:=lH func162 (ajB X h b s i o);have a:=o.o;have hn:=w.n;have g:=w.wt;unfold ox.av at a;refine kz func113 O ntmps113 O ki [_] O λE S N m=>?_;cases k:s.is i
 .rw[k]at W;rw[ku ki];exact dK
 .rw[k]at W;rw[kx O];unfold ox.is at k;rw[l5,nO,nO]at k;obtain⟨j,rfl⟩:∃j:Nat,i=(j:Nat):=⟨i.toNat,by omega⟩;have l:j<8:=eY;rw[pP];have L:s.wt[j]?=some (s.wt.getD j 0):=gh;generalize s.wt.getD j 0=y at L;have V:(s.wt.map kq)[j]?=some (kq y):=gi;exact dK
def O9(X:kY)(h b:Nat)(s:ox)(i d:Int)(o:CM X h b s)(w:s.Wf):mZ prog 144 [lQ (18,h) b,kq i,kq d] X (.mz []) (λC _=>(∀l,l≠(18,h)->C l=X l)/\CM C h b (s.u6 i d)):=by
 have W:=lH func162 (ajB X h b s i o);have c:=o.o;have hn:=w.n;have I:=w.wt;have p:=w.st;unfold ox.av at c;unfold ox.u6;refine kz JJ O ntmps144 O ki [] O λE S N n=>?_;cases k:s.is i
 .rw[k]at W;rw[ku ki];refine wT ?_;exact eL
 .rw[k]at W;unfold ox.is at k;rw[l5,nO,nO]at k;obtain⟨j,rfl⟩:∃j:Nat,i=(j:Nat):=⟨i.toNat,by omega⟩;have m:j<8:=eY;rw[pP];have H:s.wt[j]?=some (s.wt.getD j 0):=gh;have G:s.st[j]?=some (s.st.getD j 0):=gh;generalize s.wt.getD j 0=y at H;generalize s.st.getD j 0=z at G⊢;have v:(s.wt.map kq)[j]?=some (kq y):=gj;have x:(s.st.map kq)[j]?=some (kq z):=gk;by_cases k2:z=2
  .rw[ku (by simp[k2])];refine wT ?_;exact eL
  .rw[kx ⟨O,k2⟩];by_cases k3:d≠0
   .refine wT ?_;refine ns O ?_ (λ_=>(by exact trivial));refine⟨λl a=>by rw[ky _ _ a,ky _ _ a],⟨?_⟩⟩;rw[kC];simp only[ox.av,kx k3,uT];rfl
   .refine wT ?_;refine ns O ?_ (λ_=>(by exact trivial));refine⟨λl a=>by rw[ky _ _ a],⟨?_⟩⟩;rw[kC];simp only[ox.av,ku k3,uT];rfl
end
