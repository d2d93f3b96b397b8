/- Part of the proof, without conditions. -/
import Derived.Test.YtfkhhohdgeckdaaGreatP16
namespace Go.Proofs.YtfkhhohdgeckdaaGreat
open Go RowKit Proofs.Tryz
set_option linter.all false
set_option maxRecDepth 100000
set_option maxHeartbeats 16000000
def kG.leave(H:kG)(t k:Int):kG×List Int:=match H.lt t k with
 |some i=>match H.sX[i]? with
  |some L=>if L.has t then({H with sX:=H.sX.set i (L.drop t).1,c:=H.c.BU k},(L.drop t).2)else(H,[])
  |none=>(H,[])
 |none=>(H,[])
def kG.may(H:kG)(t:Int):Bool:=(!H.sX.any λL=>decide (0<=lF (L.qu.map (·.1)) t))&&H.c.u9 t
noncomputable def kG.read(H:kG)(k:Int):Nd×Bool:=match H.s.read k with
 |some b=>((mK b).1,decide ((mK b).2=0))
 |none=>(⟨false,[],[],[],[]⟩,false)
noncomputable def kG.write(H:kG)(k:Int)(n:Nd):kG:=if(mo n).2=0 then {H with s:=H.s.write k (mo n).1}else H
noncomputable def kG.look(H:kG)(k:Int):Nd×Bool:=match H.c.node k with
 |some n=>(n,true)
 |none=>H.read k
noncomputable def kG.load(H:kG)(t k:Int):kG×Bool:=if H.reads k=some t then({H with reads:=λj=>if j=k then none else H.reads j,c:=H.c.fill k (H.read k).1},(H.c.fp k 1).isSome)else(H,false)
def aau(c:kP)(k:Int):(c.BU k).fr.length=c.fr.length:=by
 unfold kP.BU;split
 .split
  .split
   .rfl
   .simp[kP.mJ]
  .rfl
 .rfl
def Nd.NO{n:Nd}(h:n.es.length<=100000/\n.ks.length<=100000/\n.ps.length<=100000/\n.ms.length<=100000):n.Sm:=⟨by omega,by omega,by omega,by omega⟩
def aiM(n:Nd):(mo n).1.length<=100000:=by
 unfold mo;split
 .rename_i h;rw[F5 h];omega
 .simp
def aa0(b:List (BitVec 8)):(pZ b).1.es.length<=100000/\(pZ b).1.ks.length<=100000/\(pZ b).1.ps.length<=100000/\(pZ b).1.ms.length<=100000:=by exact aF
variable {X:kY}{h:Nat}
def adL{p:Ib}{s:sO}(o:zS X h p s){k:Int}{b:List (BitVec 8)}(e:s.read k=some b):b.length=256/\s.ok k=true:=by
 unfold sO.read at e;split at e
 .rename_i a;exact⟨o.by_ _ (nF e),a⟩
 .cases e
def aaY{p:Ib}{s:sO}(o:zS X h p s){k:Int}(e:s.read k=none):s.ok k=false:=by
 unfold sO.read at e;split at e
 .rename_i a;obtain⟨n,rfl,_,l,g,_⟩:=aeh o a;rw[pP,g]at e;cases e
 .rename_i a;exact JT.2 a
def aft(c:kP)(k:Int)(n:Nd):(c.fill k n).fr.length=c.fr.length:=by
 unfold kP.fill;split
 .simp[kP.mJ]
 .rfl
def afE(c:kP)(k:Int)(n:Nd):(c.set k n).fr.length=c.fr.length:=by
 unfold kP.set;split
 .simp[kP.mJ]
 .rfl
def aeQ(c:kP)(t k:Int)(n:Nd):(c.name t k n).fr.length=c.fr.length:=by
 unfold kP.name;split
 .split
  .simp[kP.mJ,kP.put]
  .rfl
 .rfl
noncomputable def kG.fits(H:kG)(t k:Int)(n:Nd):Bool:=(match H.lt t k with
 |some i=>match H.sX[i]? with
  |some L=>decide (L.wr=t)
  |none=>false
 |none=>false)&&lh n
noncomputable def kG.set(H:kG)(t k:Int)(n:Nd):kG:=if H.fits t k n=true then {H with c:=H.c.set k n}else H
noncomputable def kG.bears(H:kG)(t k:Int)(n:Nd):Bool:=H.s.ok k&&lh n&&H.c.names t k
noncomputable def kG.born(H:kG)(t k:Int)(n:Nd):kG:=if H.s.ok k=true/\lh n=true then {H with c:=H.c.name t k n}else H
def alJ(b:List (BitVec 8)):(mK b).1.es.length<=100000/\(mK b).1.ks.length<=100000/\(mK b).1.ps.length<=100000/\(mK b).1.ms.length<=100000:=by
 have h:=aa0 b;have d:Nd.zero.es.length<=100000/\Nd.zero.ks.length<=100000/\Nd.zero.ps.length<=100000/\Nd.zero.ms.length<=100000:=by simp[Nd.zero]
 unfold mK;split
 .split
  .split
   .exact h
   .exact d
  .exact d
 .exact d
def ahO(H:kG)(k:Int):(H.read k).1.es.length<=100000/\(H.read k).1.ks.length<=100000/\(H.read k).1.ps.length<=100000/\(H.read k).1.ms.length<=100000:=by
 unfold kG.read;split
 .exact alJ _
 .simp
section
attribute [local irreducible] kE lM AW mU lL mG mC lj lT ly kN AS lF kP.mm kP.waits kP.free BA kP.u9 mK mo
def BP(X:kY)(h:Nat)(p:rR)(H:kG)(t k:Int)(D:qR X h p H)(w:H.Wf)(g:∀L∈H.sX,L.Sm)(a:∀f∈H.c.fr,-1000000000<=f.pins/\f.pins<=1000000000):mZ prog 115 [lQ (1,h) p.b,kq t,kq k] X (lJ (H.leave t k).2) (λC _=>nw h p (H.leave t k).1 X C):=by
 have W:=kS JL (KI X h p H t k D w);unfold kG.leave;refine kz Dk O ntmps115 O ki [_] O λE S N j=>?_;refine wV ?_;rintro _ _ ⟨rfl,rfl⟩;cases e:H.lt t k with
 |none=>
  rw[show EE p none= .pointer none from rfl];refine wV ?_;exact eM
 |some i=>
  obtain⟨L,b,x,r,F,M,A⟩:=P0 D e;have o:=g L (nF x);unfold nT.Sm at o;have R:i<64:=by have:=w.c.len;omega
  simp only[x];rw[M];have z:=lH func165 (amY _ (64*h+i) b L t F);have d:=kS func166 (aku _ (64*h+i) b L t F o);refine l7 (lL.Cs 12 (10,64*h+i) [] O) ?_;cases c:L.has t
  .rw[c]at z;rw[ku ki];refine wV ?_;exact eM
  .rw[c]at z;rw[kx O];refine wV ?_;intro Y v s;obtain⟨m,l⟩:=s;obtain⟨G,q,P,I⟩:=D.toL x r R m l;have B:∀f∈({H with sX:=H.sX.set i (L.drop t).1}:kG).c.fr,-1000000000<=f.pins/\f.pins<=1000000000:=a;have y:=kS func167 (acR Y h q.c H.c k I.c w.c B);have o1:=I.o;rw[P]at o1;refine wV ?_;intro Z u n;refine wV ?_;exact ns O (nw.trans G P (I.toC n (aau _ _))) λ_=>⟨gx,trivial⟩
def KH(X:kY)(h:Nat)(p:rR)(H:kG)(t:Int)(D:qR X h p H)(w:H.Wf)(g:∀L∈H.sX,L.Sm):mZ prog 76 [lQ (1,h) p.b,kq t] X (kA (H.may t)) (λC _=>C=X):=by
 have W:=lH func124 (ahk X h p.c H.c t D.c w.c);have a:=D.o;have c:=D.l;have U:(og h p.lb).length=H.sX.length:=gm;have F:H.sX.length<=64:=by rw[D.ln];exact w.c.len
 unfold kG.may;refine kz Dj O ntmps76 O ki [_] O λE S N l=>?_
 repeat (first|(refine l7 (lL.froz S 3 O) ?_;refine l7 (lL.ref 3 3 O O O) ?_)|refine tT ?_)
 refine kU (λj:Nat=>⟨[(0,lQ (1,h) p.b),(3,.ref (kq t)),(10,.raw (2,h) [] (sv 1 (some (p.bl,p.ol)) (og h p.lb).length p.cl)),(11,kq (((og h p.lb).length:Nat))),(12,kq (j:Nat))],[(4999,.ext (Sg X)),(3,.froz (kq t))]⟩) (λj=>j<=H.sX.length/\ ∀i L,H.sX[i]?=some L->i<j-> ¬0<=lF (L.qu.map (·.1)) t) (λj=>H.sX.length- j) 0 ⟨kO _,λi L _ h=>by omega⟩ ed (λj k=>?_);obtain⟨k,y⟩:=k;by_cases Z:j<H.sX.length
 .have m:j<(og h p.lb).length:=by rw[U];exact Z
  have hL:H.sX[j]?=some H.sX[j]:=kQ Z;have q:j<p.lb.length:=by rw[D.lp];exact Z
  have hb:p.lb[j]?=some p.lb[j]:=kQ q;have n:=D.lt j _ _ hL hb;have T:H.sX[j]∈H.sX:=ng Z;generalize H.sX[j]=L at hL n T;generalize p.lb[j]=b at hb n;have f:=C8 (h:=h) hb;unfold LA at f;have o:=g L T;unfold nT.Sm at o;have z:=lH func69 (XL X (64*h+j) b L n);have d:=kD func122 (Ui 123 L.qu t (λw=>kD func123 (amk w t) jC jC) kh);by_cases R:0<=lF (L.qu.map (·.1)) t
  .have:(H.sX.any λL=>decide (0<=lF (L.qu.map (·.1)) t))=true:=Xe.2 ⟨L,T,by simpa using R⟩;rw[this];exact dJ
  .refine wV ?_;refine⟨j+1,⟨Z,λi M P h=>?_⟩,by omega,ed⟩;by_cases e:i=j
   .subst e;rw[hL]at P;injection P with P;subst P
    exact R
   .exact y i M P kh
 .have m:¬j<(og h p.lb).length:=by rw[U];exact Z
  have:(H.sX.any λL=>decide (0<=lF (L.qu.map (·.1)) t))=false:=by
   rw[Xf];intro L hL;obtain⟨i,hi⟩:=Gk.1 hL;have:=y i L hi (by have:=(mS.1 hi).1;omega);simpa using this
  rw[this];exact dJ
def XM(X:kY)(h:Nat)(p:rR)(H:kG)(k:Int)(D:qR X h p H):mZ prog 125 [lQ (1,h) p.b,kq k] X (.mz [(H.read k).1.av,kA (H.read k).2]) (λC _=>C=X):=by
 have W:=lH func184 (XJ X h p.s H.s k D.s);have a:=D.o;unfold kG.read;refine kz func125 O ntmps125 O ki [_,_] O λE S N i=>?_;cases e:H.s.read k with
 |none=>
  rw[e,aaY D.s e,ku ki]at W;exact dc
 |some b=>
  obtain⟨hb,U⟩:=adL D.s e;rw[e,U,kx O]at W;have z:=kD Gr (abX b kh);unfold tp at z;dsimp only[Option.getD_some]at W;exact cZ
def KG(X:kY)(h:Nat)(p:rR)(H:kG)(k:Int)(n:Nd)(B:n.Sm)(D:qR X h p H):mZ prog 84 [lQ (1,h) p.b,kq k,n.av] X (.mz []) (λC _=>nw h p (H.write k n) X C):=by
 have W:=kD Ds (OP n B);have a:=D.o;unfold kG.write;refine kz func84 O ntmps84 O ki [] O λE S N i=>?_;by_cases e:(mo n).2=0
 .rw[kx e];have g:(mo n).1.length<=100000:=aiM n;have z:=kS func140 (acD X h p.s H.s k (mo n).1 g D.s);refine wV ?_;intro Y v s;refine wV ?_;exact ns O (D.toS s.1 s.2) λ_=>trivial
 .rw[ku e];refine wV ?_;exact ns O (nw.refl D) λ_=>trivial
def XN(X:kY)(h:Nat)(p:rR)(H:kG)(k:Int)(D:qR X h p H)(w:H.Wf):mZ prog 93 [lQ (1,h) p.b,kq k] X (.mz [(H.look k).1.av,kA (H.look k).2]) (λC _=>C=X):=by
 have W:=lH yJ (zX X h p.c H.c k D.c w.c);have z:=lH func125 (XM X h p H k D);have a:=D.o;unfold kG.look;refine kz func93 O ntmps93 O ki [_,_] O λE S N i=>?_;cases e:H.c.node k with
 |none=>
  rw[e]at W;dsimp only[Option.getD_none,Option.isSome_none]at W;exact cZ
 |some n=>
  rw[e]at W;dsimp only[Option.getD_some,Option.isSome_some]at W;exact cZ
section
attribute [local irreducible] kG.read lh
def Pe(X:kY)(h:Nat)(p:rR)(H:kG)(t k:Int)(D:qR X h p H)(w:H.Wf):mZ prog 79 [lQ (1,h) p.b,kq t,kq k] X (.mz [.hv 4998,kA (H.load t k).2]) (λC _=>nw h p (H.load t k).1 X C):=by
 have b:=D.o;have c:=D.r;have m:=D.rg k;unfold kG.load;refine kz func79 O ntmps79 O ki [_,_] O λE S N i=>?_;cases e:H.reads k with
 |none=>
  rw[e]at m;have m:nY k p.er=none:=m;rw[ku ki];exact bI
 |some u=>
  rw[e]at m;have m:nY k p.er=some (.int .i64 u):=m;by_cases d:u=t
  .subst d;rw[kx O]
   have x:nw h p {H with reads:=λj=>if j=k then none else H.reads j} X (X.put (16,h) (.ob p.rr (ua (y9 k p.er) p.kr))):=D.toR (f:=λj=>if j=k then none else H.reads j) (kC _ _ _) (λl a=>ky _ _ a) (D.rw.del k) (λj=>by
    rw[FJ k j p.er D.rw.keys,D.rg j];split<;>rfl)
   obtain⟨x,q,P,n⟩:=x;have o1:=n.o;rw[P]at o1;have W:=lH func125 (XM _ h q _ k n);rw[P]at W;have z:=kS func126 (ahm _ h q.c H.c k (H.read k).1 (ahO H k) n.c w.c);have g:({H with reads:=λj=>if j=k then none else H.reads j}:kG).read k=H.read k:=by unfold kG.read;rfl
   rw[g]at W
   repeat (first|(refine l7 (lL.HD 6 (0,0) O) ?_)|refine tT ?_)
   refine Kv iJ O λY y s=>?_;exact⟨_,nw.trans x P (n.toC s (aft _ _ _)),⟨vl O,gx,trivial⟩⟩
  .rw[ku jO];exact bI
def Hg(X:kY)(h:Nat)(p:rR)(H:kG)(t k:Int)(n:Nd)(B:n.es.length<=100000/\n.ks.length<=100000/\n.ps.length<=100000/\n.ms.length<=100000)(D:qR X h p H)(w:H.Wf):mZ prog 196 [lQ (1,h) p.b,kq t,kq k,n.av] X (kA (H.fits t k n)) (λC _=>nw h p (H.set t k n) X C):=by
 have W:=kS JL (KI X h p H t k D w);have z:=kD xi (yi n (Nd.NO B));have a:=D.o;unfold kG.set kG.fits;refine kz AM O ntmps196 O ki [_] O λE S N j=>?_;refine wV ?_;rintro _ _ ⟨rfl,rfl⟩;cases e:H.lt t k with
 |none=>
  exact cT
 |some i=>
  obtain⟨L,b,v,l,F,M,f⟩:=P0 D e
  have q:(H.c.fp k 2).isSome=true:=by
   unfold kG.lt at e;split at e
   .rw[e];rfl
   .cases e
  simp only[v];rw[M];have Z:=lH func68 (KE _ (64*h+i) b L F);refine l7 (lL.Cs 13 (10,64*h+i) [] O) ?_;by_cases c:L.wr=t
  .cases R:lh n
   .rw[R]at z;rw[kW c];simp only[JZ,tu,rL];refine wV ?_;exact ns O (nw.refl D) λ_=>⟨gx,trivial⟩
   .rw[R]at z;rw[kW c];simp only[Bool.and_true,oQ];have d:=kS func247 (akv _ h p.c H.c k n D.c w.c B);rw[q]at d;refine wV ?_;refine Kv iJ O λY y s=>?_;exact⟨undef,D.toC s (afE _ _ _),⟨gx,trivial⟩⟩
  .rw[la c];simp only[yM,tu,rL];refine wV ?_;exact ns O (nw.refl D) λ_=>⟨gx,trivial⟩
def Pf(X:kY)(h:Nat)(p:rR)(H:kG)(t k:Int)(n:Nd)(B:n.es.length<=100000/\n.ks.length<=100000/\n.ps.length<=100000/\n.ms.length<=100000)(D:qR X h p H)(w:H.Wf):mZ prog 203 [lQ (1,h) p.b,kq t,kq k,n.av] X (kA (H.bears t k n)) (λC _=>nw h p (H.born t k n) X C):=by
 have W:=lH func163 (ajE X h p H k D);have z:=kD xi (yi n (Nd.NO B));have Z:=kS func255 (ahj X h p.c H.c t k n B D.c w.c);have a:=D.o;unfold kG.born kG.bears;refine kz JI O ntmps203 O ki [_] O λE S N i=>?_;cases e:H.s.ok k
 .rw[e]at W;exact dx
 .rw[e]at W;cases b:lh n
  .rw[b]at z;exact dx
  .rw[b]at z;rw[kx ⟨O,rfl⟩];refine wV ?_;refine Kv iJ O λY y s=>?_;exact⟨undef,D.toC s (aeQ _ _ _ _),⟨gx,trivial⟩⟩
end
end
