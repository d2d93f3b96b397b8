/- Part of the proof, without conditions. -/
import Derived.Test.YtfkhhohdgeckdaaGreatP7
namespace Go.Proofs.YtfkhhohdgeckdaaGreat
open Go RowKit Proofs.Tryz
set_option linter.all false
set_option maxRecDepth 100000
set_option maxHeartbeats 16000000
def ahw{n:Nd}(h:n.Gd){l:List lq}(g:∀m∈l,m.ok=true)(a:n.es.length+l.length<=100000)(b:n.ms.length+l.length<=100000):(oA n l).Gd:=by
 have D:=DM l n.es;have P:=CG l n.ms;unfold oA;split
 .exact⟨ae2 h.lf g,h.bf,h.rs,by show(tH n.es l).length<=_;omega,h.ks,h.ps,h.ms⟩
 .exact⟨h.lf,afX h.bf g,h.rs,h.es,h.ks,h.ps,by show(ya n.ms l).length<=_;omega⟩
def NM{p c:Nd}{i id:Int}(h:¬(pK p i id/\c.leaf=true)):rU p c i id=(p,c,vq,false):=by unfold rU;rw[ku h]
def Vy{p c:Nd}{i id:Int}(h:pK p i id/\c.leaf=true):rU p c i id=if(tJ (oA c (nC p i)).es).2.2.2=true then(zY (zF p (nC p i)) i (tJ (oA c (nC p i)).es).2.2.1 id,(tJ (oA c (nC p i)).es).1,(tJ (oA c (nC p i)).es).2.1,true)else(p,c,vq,false):=by unfold rU;rw[kx h]
def NN{p c:Nd}{i id:Int}(h:¬(pK p i id/\c.leaf=false)):rV p c i id=(p,c,vq,false):=by unfold rV;rw[ku h]
def Vz{p c:Nd}{i id:Int}(h:pK p i id/\c.leaf=false):rV p c i id=if(vi c).2.2.2=true then(zY p i (vi c).2.2.1 id,(vi c).1,(vi c).2.1,true)else(p,c,vq,false):=by unfold rV;rw[kx h]
def Hu{r:Nd}{a b:Int}(h:¬(a≠b/\BH a/\BH b)):rD r a b=(r,vq,vq,false):=by unfold rD;rw[ku h]
def Vx{r:Nd}{a b:Int}(h:a≠b/\BH a/\BH b):rD r a b=if(uL r).2.2.2=true then(⟨false,[],[a,b],[(uL r).2.2.1],[]⟩,(uL r).1,(uL r).2.1,true)else(r,vq,vq,false):=by unfold rD;rw[kx h]
def Ts{es:List mL}(h:(tJ es).2.2.2=false):tJ es=(vq,vq,kH.zero,false):=by
 unfold tJ at h⊢;split
 .rename_i c;rw[kx c]at h;cases h
 .rfl
def Tu{n:Nd}(h:(vi n).2.2.2=false):vi n=(vq,vq,kH.zero,false):=by
 have N:vi n=if(o5 n.ks n.ps).2.2.2.2.2=true then(⟨false,[],(o5 n.ks n.ps).1,(o5 n.ks n.ps).2.1,oh n.ms [(o5 n.ks n.ps).2.2.1] 0⟩,⟨false,[],(o5 n.ks n.ps).2.2.2.1,(o5 n.ks n.ps).2.2.2.2.1,oh n.ms [(o5 n.ks n.ps).2.2.1] 1⟩,(o5 n.ks n.ps).2.2.1,true)else(vq,vq,kH.zero,false):=rfl;rw[N]at h⊢;split
 .rename_i c;rw[kx c]at h;cases h
 .rfl
def Tq{n:Nd}(h:(uL n).2.2.2=false):uL n=(vq,vq,kH.zero,false):=by
 unfold uL at h⊢;split
 .rename_i c;rw[kx c]at h;exact Ts h
 .rename_i c;rw[ku c]at h;exact Tu h
theorem Jm:Po (vq,vq,kH.zero,false)= .mz [vq.av,vq.av,kH.zero.av,kA false]:=rfl
def Fa{h:Nd×Nd×kH×Bool}(q:h.2.2.2=true):Po h= .mz [h.1.av,h.2.1.av,h.2.2.1.av,kA true]:=by unfold Po;rw[q]
section
attribute [local irreducible] kE lM AW mU lL mG mC lj lT ly kN
def IX(n:Nd)(h:n.Gd):mG prog 254 [n.av] (Po (tJ n.es)):=by
 have a:=h.es;by_cases c:2<=n.es.length
 .have c1:=Uc n.es h.lf.ok.bd c kh;rw[show tJ n.es=(x4 (n.es.take (yD n.es)),x4 (n.es.drop (yD n.es)),Ot n.es (yD n.es),true)from by unfold tJ;rw[kx c]];unfold Po x4;dsimp only[Nd.av];generalize n.es.take (yD n.es)=A at*;generalize n.es.drop (yD n.es)=B at*;generalize Ot n.es (yD n.es)=X at*;exact aD
 .have c1:=Mr n.es kh;rw[show tJ n.es=(vq,vq,kH.zero,false)from by unfold tJ;rw[ku c]];unfold Po vq;dsimp only[Nd.av];exact aD
def GY(n:Nd)(h:n.Gd):mG prog 252 [n.av] (Po (vi n)):=by
 have a:=h.ms;have b:=h.ks;have k:=h.ps;have c1:=agk n.ks n.ps kh kh;have P:vi n=if(o5 n.ks n.ps).2.2.2.2.2=true then(⟨false,[],(o5 n.ks n.ps).1,(o5 n.ks n.ps).2.1,oh n.ms [(o5 n.ks n.ps).2.2.1] 0⟩,⟨false,[],(o5 n.ks n.ps).2.2.2.1,(o5 n.ks n.ps).2.2.2.2.1,oh n.ms [(o5 n.ks n.ps).2.2.1] 1⟩,(o5 n.ks n.ps).2.2.1,true)else(vq,vq,kH.zero,false):=rfl;rw[P];unfold Y2 at c1;by_cases c:n.ks.length=4/\n.ps.length=3
 .have e:o5 n.ks n.ps=(n.ks.take 2,n.ps.take 1,n.ps.getD 1 kH.zero,n.ks.drop 2,n.ps.drop 2,true):=by unfold o5;rw[kx c]
  rw[e]at c1⊢;dsimp only at c1⊢;rw[kx O];have g:True:=trivial;have F:mG prog 52 [nk n.ms,rp [n.ps.getD 1 kH.zero],kq 0] (nk (oh n.ms [n.ps.getD 1 kH.zero] 0)):=zR n.ms [n.ps.getD 1 kH.zero] 0 h.bf.DV ki kh ki;have D:mG prog 52 [nk n.ms,rp [n.ps.getD 1 kH.zero],kq 1] (nk (oh n.ms [n.ps.getD 1 kH.zero] 1)):=zR n.ms [n.ps.getD 1 kH.zero] 1 h.bf.DV ki kh ki;unfold Po;dsimp only[Nd.av];clear g;generalize n.ps.getD 1 kH.zero=X at*;generalize oh n.ms [X] 0=p at*;generalize oh n.ms [X] 1=l at*;generalize n.ks.take 2=m at*;generalize n.ks.drop 2=o at*;generalize n.ps.take 1=r at*;generalize n.ps.drop 2=q at*;refine kL Dl O ntmps252 O ki [_,_,_,_] O λE S N i=>?_;have W:=kD func280 (c1);have z:=kD yN (F);have Z:=kD yN (D);exact a5
 .have e:o5 n.ks n.ps=([],[],kH.zero,[],[],false):=by unfold o5;rw[ku c]
  rw[e]at c1⊢;dsimp only at c1⊢;rw[ku ki];unfold Po vq;dsimp only[Nd.av];refine kL Dl O ntmps252 O ki [_,_,_,_] O λE S N i=>?_;have W:=kD func280 (c1);exact a5
def amp(n:Int):mG prog 256 [kq n] (kA (decide (BH n))):=by
 by_cases c1:1<=n
 .by_cases c2:n<256
  .rw[kW (show BH n from⟨c1,c2⟩)];refine kL qC O ntmps256 O ki [_] O λE S N i=>?_;refine wI ?_;exact oY ⟨Ah O c2,trivial⟩
  .rw[la (show¬BH n from λh=>c2 h.2)];refine kL qC O ntmps256 O ki [_] O λE S N i=>?_;refine wI ?_;exact oY ⟨Ew O c2,trivial⟩
 .rw[la (show¬BH n from λh=>c1 h.1)];refine kL qC O ntmps256 O ki [_] O λE S N i=>?_;exact dY
def ZD(p:Nd)(h:p.Gd)(i id:Int):mG prog 251 [p.av,kq i,kq id] (kA (decide (pK p i id))):=by
 have w:=h.ks;have x:=Kr p.ks id kh;have d:=amp id;cases g:p.leaf with
 |true=>
  rw[la (show¬pK p i id from λh=>by have j:=h.1;rw[g]at j;cases j)];have X:(!p.leaf)=false:=gc;exact cO
 |false=>
  have X:(!p.leaf)=true:=gc;by_cases c1:p.ks.length<4
  .by_cases c2:0<=i
   .by_cases c3:i<(p.ks.length:Int)
    .by_cases l:1<=id
     .by_cases Y:id<256
      .rw[kW (show BH id from⟨l,Y⟩)]at d;by_cases u:lF p.ks id<0
       .rw[kW (show pK p i id from⟨g,c1,c2,c3,⟨l,Y⟩,u⟩)];refine kL vK O JO O ki [_] O λE S N k=>?_;have W:=kD Dx (x);have z:=kD qC (d);refine wI ?_;exact oY ⟨Ah O u,trivial⟩
       .rw[la (show¬pK p i id from λh=>u h.2.2.2.2.2)];refine kL vK O JO O ki [_] O λE S N k=>?_;have W:=kD Dx (x);have z:=kD qC (d);refine wI ?_;exact oY ⟨Ew O u,trivial⟩
      .rw[la (show¬pK p i id from λh=>Y h.2.2.2.2.1.2)];rw[la (show¬BH id from λh=>Y h.2)]at d;exact ch
     .rw[la (show¬pK p i id from λh=>l h.2.2.2.2.1.1)];rw[la (show¬BH id from λh=>l h.1)]at d;exact ch
    .rw[la (show¬pK p i id from λh=>c3 h.2.2.2.1)];exact cO
   .rw[la (show¬pK p i id from λh=>c2 h.2.2.1)];exact cO
  .rw[la (show¬pK p i id from λh=>c1 h.2.1)];exact cO
def T9(p c:Nd)(X:p.Gd)(u:c.Gd)(w:p.ks.length<=p.ps.length+1)(a:c.es.length+p.ms.length<=100000)(b:c.ms.length+p.ms.length<=100000)(i id:Int):mG prog 202 [p.av,c.av,kq i,kq id] (zm (rU p c i id)):=by
 have s:=ZD p X i id;by_cases F:pK p i id
 .rw[kW F]at s;cases g:c.leaf with
  |false=>
   have d:(!c.leaf)=true:=gc;rw[NM (λh=>by rw[g]at h;cases h.2)];exact aP
  |true=>
   have d:(!c.leaf)=false:=gc;have R:=FY p i;have j:=ahw u (YU X i).ok kh kh;have f:=OQ p c X u i;have l:=X.ks;have M:=X.ps;rw[Vy ⟨F,g⟩];have P:=IX (oA c (nC p i)) j;cases q:(tJ (oA c (nC p i)).es).2.2.2 with
   |false=>
    rw[Ts q,Jm]at P;rw[ku ki];generalize oA c (nC p i)=x at*;generalize zF p (nC p i)=y at*;unfold zm vq;dsimp only;refine kL Gp O ntmps202 O ki [_,_,_,_] O λE S N k=>?_;have W:=kD vK (s);have A:=kD Dr (f);have Z:=kD Gn (P);exact bE
   |true=>
    rw[Fa q]at P;rw[kx O];have e:=Ug (zF p (nC p i)).ks (zF p (nC p i)).ps i (tJ (oA c (nC p i)).es).2.2.1 id (by show p.ks.length<=_;omega) (by show p.ps.length<=_;omega);unfold zm zY;dsimp only;generalize tJ (oA c (nC p i)).es=z at*;generalize oA c (nC p i)=x at*;generalize zF p (nC p i)=y at*;generalize vx y.ks y.ps i z.2.2.1 id=V at*;refine kL Gp O ntmps202 O ki [_,_,_,_] O λE S N k=>?_;have W:=kD vK (s);have A:=kD Dr (f);have Z:=kD Gn (P);have Y:=kD func253 (e);exact cY
 .rw[la F]at s;rw[NM (λh=>F h.1)];exact aP
def Q9(p c:Nd)(X:p.Gd)(u:c.Gd)(w:p.ks.length<=p.ps.length+1)(i id:Int):mG prog 201 [p.av,c.av,kq i,kq id] (zm (rV p c i id)):=by
 have s:=ZD p X i id;by_cases F:pK p i id
 .rw[kW F]at s;cases g:c.leaf with
  |true=>
   rw[NN (λh=>by rw[g]at h;cases h.2)];exact aQ
  |false=>
   have k:=X.ks;have M:=X.ps;have P:=GY c u;rw[Vz ⟨F,g⟩];cases q:(vi c).2.2.2 with
   |false=>
    rw[Tu q,Jm]at P;rw[ku ki];unfold zm vq;dsimp only;refine kL Gm O ntmps201 O ki [_,_,_,_] O λE S N j=>?_;have W:=kD vK (s);have Z:=kD Dl (P);exact bE
   |true=>
    rw[Fa q]at P;rw[kx O];have d:=Ug p.ks p.ps i (vi c).2.2.1 id kh kh;unfold zm zY;dsimp only;generalize vi c=y at*;generalize vx p.ks p.ps i y.2.2.1 id=V at*;refine kL Gm O ntmps201 O ki [_,_,_,_] O λE S N j=>?_;have W:=kD vK (s);have Z:=kD Dl (P);have Y:=kD func253 (d);exact cY
 .rw[la F]at s;rw[NN (λh=>F h.1)];exact aQ
def T8(r:Nd)(H:r.Gd)(a b:Int):mG prog 204 [r.av,kq a,kq b] (zm (rD r a b)):=by
 have k:=amp a;have cb:=amp b;by_cases i:a=b
 .rw[Hu (λh=>h.1 i)];unfold zm vq;dsimp only;refine kL yK O AP O ki [_,_,_,_] O λE S N j=>?_;exact a6
 .by_cases c:BH a
  .rw[kW c]at k;by_cases d:BH b
   .rw[kW d]at cb;rw[Vx ⟨i,c,d⟩];cases g:r.leaf with
    |true=>
     have e:=Ia r g;have P:=IX r H;rw[show tJ r.es=uL r from by unfold uL;rw[kx g]]at P;cases q:(uL r).2.2.2 with
     |false=>
      rw[Tq q,Jm]at P;rw[ku ki];unfold zm vq;dsimp only;refine kL yK O AP O ki [_,_,_,_] O λE S N j=>?_;have W:=kD qC (k);have z:=kD qC (cb);have Z:=kD xh (e);have Y:=kD Gn (P);exact a6
     |true=>
      rw[Fa q]at P;rw[kx O];generalize uL r=y at*;unfold zm;dsimp only;refine kL yK O AP O ki [_,_,_,_] O λE S N j=>?_;have W:=kD qC (k);have z:=kD qC (cb);have Z:=kD xh (e);have Y:=kD Gn (P);exact bF
    |false=>
     have e:=ER r g;have P:=GY r H;rw[show vi r=uL r from by unfold uL;rw[ku (by rw[g];simp)]]at P;cases q:(uL r).2.2.2 with
     |false=>
      rw[Tq q,Jm]at P;rw[ku ki];unfold zm vq;dsimp only;refine kL yK O AP O ki [_,_,_,_] O λE S N j=>?_;have W:=kD qC (k);have z:=kD qC (cb);have Z:=kD xh (e);have Y:=kD Dl (P);exact a6
     |true=>
      rw[Fa q]at P;rw[kx O];generalize uL r=y at*;unfold zm;dsimp only;refine kL yK O AP O ki [_,_,_,_] O λE S N j=>?_;have W:=kD qC (k);have z:=kD qC (cb);have Z:=kD xh (e);have Y:=kD Dl (P);exact bF
   .rw[la d]at cb;rw[Hu (λh=>d h.2.2)];unfold zm vq;dsimp only;refine kL yK O AP O ki [_,_,_,_] O λE S N j=>?_;have W:=kD qC (k);have z:=kD qC (cb);exact a6
  .rw[la c]at k;rw[Hu (λh=>c h.2.1)];unfold zm vq;dsimp only;refine kL yK O AP O ki [_,_,_,_] O λE S N j=>?_;have W:=kD qC (k);exact a6
end
