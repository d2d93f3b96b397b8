/- Part of the proof, without conditions. -/
import Derived.Test.YtfkhhohdgeckdaaGreatP2
namespace Go.Proofs.YtfkhhohdgeckdaaGreat
open Go RowKit Proofs.Tryz
set_option linter.all false
set_option maxRecDepth 100000
set_option maxHeartbeats 16000000
def opM(o:Option lq):lq×Bool:=match o with
 |some m=>(m,true)
 |none=>(lq.zero,false)
def CN(s:kH->kH->Int)(l:List lq):Prop:=∀j (h:j<l.length),l[j].ok=true/\ ∀i (hi:i+1=j),s (l[i]'kh).key l[j].key<0
noncomputable def As(s:kH->kH->Int)(l:List lq):Bool:= @decide (CN s l) (Classical.propDecidable _)
variable {cmp:kH->kH->Int}
def PW{l:List lq}(h:CN cmp l):As cmp l=true:=by unfold As;exact@kW _ (Classical.propDecidable _) h
def y8{l:List lq}(h:¬CN cmp l):As cmp l=false:=by unfold As;exact@la _ (Classical.propDecidable _) h
variable {j:Nat}
def Wi{l:List lq}(h:j<l.length)(e:l[j].ok=false):¬CN cmp l:=λk=>by have:=(k j h).1;rw[e]at this;cases this
variable {i:Nat}
def Wj{l:List lq}(h:i+1<l.length)(e:0<=cmp l[i].key l[i+1].key):¬CN cmp l:=λk=>by have:=(k (i+1) h).2 i O;omega
def af3(s:BitVec 64)(k:kH)(v:Vl):(⟨1,s,k,v,0#64⟩:lq).av= .agg 29 [kq 1,qU s,k.av,v.av,.v (.int .u64 0)]:=by
 unfold lq.av qU;rw[qM]
variable {P:Program}{S:St}
def Ah{t:Nat}{p:Prop}[Decidable p](j:S.t t=some (.v (.bool (decide p))))(X:p):Rm P S (.tmp t) (kA true):=K8 (by rw[j,kW X];rfl) O O
def Ew{t:Nat}{p:Prop}[Decidable p](j:S.t t=some (.v (.bool (decide p))))(X:¬p):Rm P S (.tmp t) (kA false):=K8 (by rw[j,la X];rfl) O O
def Yo(r:List kH)(l:List lq):Nat->Nat
 |0=>0
 |m+1=>match r[m]? with
  |some k=>nN k l
  |none=>0
def pTo(r:List kH)(l:List lq)(n:Nat):Nat:=match r[n]? with
 |some k=>nN k l
 |none=>l.length
def oh(l:List lq)(r:List kH)(n:Nat):List lq:=(l.take (pTo r l n)).drop (Yo r l n)
def afc(r:List kH)(m:lq)(n:Nat):Bool:=match r[n]? with
 |some k=>decide (m.key.lV<k.lV)
 |none=>true
def TD{l:List lq}(f:lq->Bool)(j:Nat)(h:j<l.length):(l.take (j+1)).filter f=(l.take j).filter f++(if f l[j]then[l[j]]else[]):=by
 rw[<-vM h,List.filter_append];simp only[QP,List.filter_nil]
def AG(l:List lq):Nat->Nat->Nat
 |0,a=>a
 |f+1,a=>if a<l.length/\s5 (l.take (a+1))<=96 then AG l f (a+1)else a
def Qp(l:List lq):Nat:=AG l l.length 0
def abM{l:List lq}{f a:Nat}(h:a<l.length/\s5 (l.take (a+1))<=96):AG l (f+1) a=AG l f (a+1):=by rw[AG,kx h]
def W8{l:List lq}{f a:Nat}(h:¬(a<l.length/\s5 (l.take (a+1))<=96)):AG l (f+1) a=a:=by rw[AG,ku h]
def FX(V:List lq)(m:lq):Bool:= !(rO m.key V).isSome
def EJ(l V:List lq):List lq:=l.filter (FX V)
def afk{l:List lq}(h:uv l)(k:kH):OG k l=(rO k l).isSome:=by
 by_cases e:nN k l<l.length
 .rw[zM e];by_cases q:l[nN k l].key=k
  .rw[L6 h e q,kW q];rfl
  .rw[Gb h (λ_=>q),la q];rfl
 .rw[Db e,Gb h (λhi=>absurd hi e)];rfl
variable {E:su}{nt:Nat}{ops:Array Oper}{T:Nat->Option AV}{H:Hp}{d:Option Nat}{ty:TypeId}{pos:String}{af:Array Edge}{gd:Option (Nat×Bool)}
variable {α:Type}{t e:TypeId}{es b:Nat}{ea:Bool}{x lo hi:Operand}{k k' k'':IntKind}
section
def ald{f:α->AV}{bytes:Nat}{mx:Operand}{tok:Option Nat}{G:List α}{a:Nat}(n:lK nt d=true)(o:kM.ti t=some (.sl e es bytes ea))(j:kv T x=some (.sl tok es (G.map f)))(Y:kv T lo=some (.v (.int k (a:Nat))))(B:kv T hi=some (.v (.int k' (b:Nat))))(M:kv T mx=some (.v (.int k'' (b:Nat))))(c:a<=b)(g:b<=G.length):
 kE prog E nt ops ⟨d,.slice t x (some lo) (some hi) (some mx),ty,pos,af,gd⟩ T H [] ⟨.sl none es (((G.take b).drop a).map f),[]⟩:=by
 have:=V5 kM (E:=E) (ops:=ops) (H:=H) (ty:=ty) (pos:=pos) (af:=af) (gd:=gd) (m:=b) n o j (sk Y) (sk B) (.inr ⟨sk M,kK _,by simpa using g,rfl,rfl⟩) c jN;rwa[<-vP,<-DF]at this
def ah9{f:α->AV}{bytes:Nat}{mx:Operand}{tok:Option Nat}{G:List α}(n:lK nt d=true)(o:kM.ti t=some (.sl e es bytes ea))(j:kv T x=some (.sl tok es (G.map f)))(B:kv T hi=some (.v (.int k' (b:Nat))))(M:kv T mx=some (.v (.int k'' (b:Nat))))(c:b<=G.length):
 kE prog E nt ops ⟨d,.slice t x none (some hi) (some mx),ty,pos,af,gd⟩ T H [] ⟨.sl none es ((G.take b).map f),[]⟩:=by
 have:=V5 kM (E:=E) (ops:=ops) (H:=H) (ty:=ty) (pos:=pos) (af:=af) (gd:=gd) (m:=b) n o j (zL (d:=0)) (sk B) (.inr ⟨sk M,kK _,by simpa using c,rfl,rfl⟩) (kO _) jK;rwa[<-vP,A1]at this
end
def abz(l:List (List α))(j:Nat)(h:j<l.length):(l.take (j+1)).flatten=(l.take j).flatten++l[j]:=by
 rw[Ko h,Zl];simp
def aiH(l:List (List α))(j:Nat):(l.take j).flatten.length<=l.flatten.length:=by
 conv=>rhs;rw[<-QL j l,Zl,lA]
 omega
def FP(k:List Int)(i:Nat)(id:Int):List Int:=k.take (i+1)++([id]++k.drop (i+1))
def FQ(cs:List kH)(A:Nat)(x:kH):List kH:=cs.take A++([x]++cs.drop A)
def vx(k:List Int)(cs:List kH)(i:Int)(x:kH)(id:Int):List Int×List kH:=
 if 0<=i/\i<k.length then(FP k i.toNat id,FQ cs (min i.toNat cs.length) x)else(k,cs)
def ajn(l:List kH):Prop:=(∀k∈l,k.ok=true)/\l.Pairwise λa b=>a.lV<b.lV
variable {cuts:List kH}
def alB(m:lq){n:Nat}(h:¬n<cuts.length):afc cuts m n=true:=by simp only[afc,pN (by omega:cuts.length<=n)]
def VN(l:List lq){i:Nat}(h:i<cuts.length):Yo cuts l (i+1)=nN cuts[i] l:=by simp only[Yo,kQ h]
def adW(l:List lq){n:Nat}(h:n<cuts.length):pTo cuts l n=nN cuts[n] l:=by simp only[pTo,kQ h]
def Yn(l:List lq){n:Nat}(h:¬n<cuts.length):pTo cuts l n=l.length:=by simp only[pTo,pN (by omega:cuts.length<=n)]
def Fu{l:List lq}{a:Nat}(h:b<=a):(l.take b).drop a= []:=ub i6
section
attribute [local irreducible] kE lM AW mU lL mG mC lj lT ly kN
def Mp(m:lq):mG prog 301 [m.av] (kA m.ok):=by
 refine kR J7 O ntmps301 O ki [_] O λE S=>?_;have c1:=kD A6 (ES m.key);have c2:=kD GJ (ON m.val);by_cases p:m.kind=1
 .cases w:m.key.ok with
  |false=>
   exact dG
  |true=>
   rw[w]at c1;cases y:m.val.ok with
   |false=>
    rw[lq.nov p y];rw[y]at c2;exact dV
   |true=>
    rw[lq.ank p w y];rw[y]at c2;exact dV
 by_cases x:m.kind=2
 .cases w:m.key.ok with
  |false=>
   exact dG
  |true=>
   rw[w]at c1;by_cases z:m.val=Vl.zero
   .rw[lq.anl x w z];by_cases N:w5 m.add=0
    .rw[kW N];refine wC ?_;exact oY ⟨Ah O z,trivial⟩
    .rw[la N];exact dV
   .rw[lq.noz p z];by_cases N:w5 m.add=0
    .refine wC ?_;exact oY ⟨Ew O z,trivial⟩
    .refine wC ?_;exact oY ⟨gr,trivial⟩
 by_cases A:m.kind=3
 .cases w:m.key.ok with
  |false=>
   exact dG
  |true=>
   rw[w]at c1;by_cases z:m.val=Vl.zero
   .rw[lq.anm A w z];refine wC ?_;exact oY ⟨Ah O z,trivial⟩
   .rw[lq.noz p z];refine wC ?_;exact oY ⟨Ew O z,trivial⟩
 .have q:m.ok=false:=by
   by_cases a:m.kind<1
   .exact lq.no1 a
   .exact lq.no3 kh
  rw[q];exact dV
def Mq(m:lq):mG prog 294 [m.av] (kq m.size):=by
 refine kR func294 O ntmps294 O ki [_] O λE S=>?_;have c1:=kD J7 (Mp m);unfold lq.size;cases w:m.ok with
 |false=>
  rw[ku ki];rw[w]at c1;have k':(!false)=true:=rfl;exact dV
 |true=>
  rw[kx O];rw[w]at c1;have k':(!true)=false:=rfl;obtain⟨n,j,U,R,_⟩:=lq.spec w;have t:=kH.EA U;have H:=Vl.EA R;by_cases p:m.kind=1
  .rw[kx p,show 11+m.key.n+m.val.n=10+m.key.n+(1+m.val.n)from by omega];exact dV
  .rw[ku p];by_cases x:m.kind=3
   .rw[kx x,show 18+m.key.n=10+m.key.n+8 from by omega];exact dV
   .rw[ku x];exact dV
def GW(o n:lq)(U:o.ok=true)(B:n.ok=true):mG prog 170 [o.av,n.av] (nZ o n).av:=by
 have c1:=Ra Vl.zero n.add;rw[KN]at c1;have V:=lq.spec U;have f:=lq.spec B;unfold nZ;by_cases p:n.kind≠3
 .rw[kx (.inl p)];exact bB
 by_cases q:o.key≠n.key
 .rw[kx (.inr q)];exact bB
 rw[ku (by simp only[not_or];exact⟨p,q⟩)];by_cases D:o.kind=1
 .rw[kx D,af3];exact bB
 rw[ku D];by_cases w:o.kind=2
 .rw[kx w,af3];exact bB
 rw[ku w];have x:o.kind=3:=eY;have s:n.kind=3:=eY
 have e:(⟨3,n.seq,n.key,Vl.zero,o.add+n.add⟩:lq).av= .agg 29 [kq n.kind,qU n.seq,n.key.av,n.val.av,qU (n.add+o.add)]:=by
  unfold lq.av;rw[s,f.2.2.2.2.1 kh,BitVec.add_comm]
 rw[e];exact bB
def abZ(l:List lq)(k:kH)(h:uv l)(g:l.length<=1000000000):mG prog 169 [nk l,k.av] (.mz [(opM (rO k l)).1.av,kA (opM (rO k l)).2]):=by
 refine kR func169 O ntmps169 O ki [_,_] O λE S=>?_;have s:=vC l k h g;have N:(!true)=false:=rfl;have i:(!false)=true:=rfl;by_cases e:nN k l<l.length
 .by_cases q:l[nN k l].key=k
  .rw[zM e,kW q]at s;rw[L6 h e q];exact dr
  .rw[zM e,la q]at s;rw[Gb h (λ_=>q)];exact dr
 .rw[Db e]at s;rw[Gb h (λhi=>absurd hi e)];exact dr
def Mw(l:List lq)(g:l.length<=100000000):mG prog 275 [nk l] (kq (s5 l)):=by
 refine kR func275 O ntmps275 O ki [_] O λE S=>?_;refine wB ?_;refine kU (λj:Nat=>⟨[(6,nk l),(7,kq l.length),(8,kq j),(3,kq (s5 (l.take j)))],[]⟩) (λj=>j<=l.length) (λj=>l.length- j) 0 (kO _) ed (λj i=>?_);have hb:=JB (l.take j);rw[n5]at hb;by_cases c:j<l.length
 .have o:=OH l j c;have L:=l[j].size_le;have W:=kD func294 (Mq l[j]);exact cK
 .obtain rfl:j=l.length:=by omega
  rw[nQ];exact dW
def agm(l:List lq)(m:lq)(h:Bf l)(T:m.ok=true)(g:l.length<=1000000000):mG prog 302 [nk l,m.av] (nk (Ef l m)):=by
 refine kR func302 O ntmps302 O ki [_] O λE S=>?_;have w:=(lq.spec T).2.2.1;have s:=vC l m.key h.DV g;have k:=AF m.key l;by_cases e:∃hi:nN m.key l<l.length,l[nN m.key l].key=m.key
 .obtain⟨hi,e⟩:=e;rw[ai4 h.DV m hi e];rw[zM hi,kW e]at s;generalize nN m.key l=p at s k hi e⊢;have n:(l.drop (p+1)).length<=l.length:=fW;have X:(l.take p).length<=l.length:=fA;have j:=GW l[p] m (h.ok _ (ng hi)) T;generalize nZ l[p] m=M at j⊢;have W:=kD yO (s);have z:=kD func170 (j);rw[<-oH];refine wL ?_;exact oY ⟨pY O,trivial⟩
 .have hn:∀hi:nN m.key l<l.length,l[nN m.key l].key≠m.key:=λhi e'=>e ⟨hi,e'⟩;rw[amf h m w hn]
  have B:mG prog 98 [nk l,m.key.av] (.mz [kq (nN m.key l:Nat),kA false]):=by
   by_cases hi:nN m.key l<l.length
   .rwa[zM hi,la (hn hi)]at s
   .rwa[Db hi]at s
  clear s hn e;generalize nN m.key l=p at B k⊢;have n:(l.drop p).length<=l.length:=fW;have X:(l.take p).length<=l.length:=fA;have W:=kD yO (B);rw[<-oH];refine wL ?_;exact oY ⟨pY O,trivial⟩
def agl(l ms:List lq)(h:Bf l)(T:∀m∈ms,m.ok=true)(g:l.length<=100000000)(k:ms.length<=100000000):mG prog 297 [nk l,nk ms] (nk (ya l ms)):=by
 refine kR func297 O ntmps297 O ki [_] O λE S=>?_;refine wB ?_;refine kU (λj:Nat=>⟨[(0,nk (ya l (ms.take j))),(7,nk ms),(8,kq ms.length),(9,kq j)],[]⟩) (λj=>j<=ms.length) (λj=>ms.length- j) 0 (kO _) ed (λj i=>?_);have U:=CG (ms.take j) l;rw[n5]at U;have B:=afX (ms:=ms.take j) h (λm F=>T m (GC F));by_cases c:j<ms.length
 .have n:=T ms[j] (ng c);have o:=W6 l ms j c;have W:=kD func302 (agm (ya l (ms.take j)) ms[j] B n kh);exact cK
 .obtain rfl:j=ms.length:=by omega
  exact dR
def Xq(l:List lq)(g:l.length<=100000000):mG prog 276 [nk l] (nk (l.take (Qp l))):=by
 refine kR func276 O ntmps276 O ki [_] O λE S=>?_;refine wB ?_;refine kU (λj:Nat=>⟨[(0,nk l),(3,kq j),(4,kq (s5 (l.take j)))],[]⟩) (λj=>j<=l.length/\AG l (l.length- j) j=Qp l) (λj=>l.length- j) 0 ⟨kO _,rfl⟩ ed (λj i=>?_);obtain⟨b,z⟩:=i;have hb:=JB (l.take j);rw[n5]at hb;by_cases c:j<l.length
 .have o:=OH l j c;have L:=l[j].size_le;have W:=kD func294 (Mq l[j]);rw[show l.length- j=(l.length-(j+1))+1 by omega]at z;by_cases q:s5 (l.take j)+l[j].size<=96
  .rw[abM ⟨c,by omega⟩]at z;refine wB ?_;refine⟨j+1,⟨c,z⟩,by omega,?_⟩;exact dC
  .rw[W8 (λh=>q kh)]at z;exact bX
 .obtain rfl:j=l.length:=by omega
  rw[DG,AG]at z;exact bX
def abY(l V:List lq)(h:uv V)(g:l.length<=100000000)(m:V.length<=100000000):mG prog 277 [nk l,nk V] (nk (EJ l V)):=by
 refine kR func277 O ntmps277 O ki [_] O λE S=>?_;have N:(!true)=false:=rfl;have k:(!false)=true:=rfl;refine wB ?_;refine lU (lL.token 5 5 28 131 O O) ?_;refine kU (λj:Nat=>⟨[(1,nk V),(10,nk l),(11,kq l.length),(12,kq j),(5,.sl (some 5) 29 (((l.take j).filter (FX V)).map lq.av))],[(5,.tail 131 29 ((l.take j).filter (FX V)).length)]⟩) (λj=>j<=l.length) (λj=>l.length- j) 0 (kO _) ed (λj i=>?_);have L:=vL (FX V) (l.take j);rw[n5]at L;by_cases c:j<l.length
 .have o:=TD (FX V) j c;have s:=vC V l[j].key h kh;rw[afk h]at s;cases q:(rO l[j].key V).isSome with
  |true=>
   have t:FX V l[j]=false:=by unfold FX;rw[q];rfl
   rw[q]at s;rw[t]at o;simp only[tu,rL,oT]at o;exact cg
  |false=>
   have t:FX V l[j]=true:=by unfold FX;rw[q];rfl
   rw[q]at s;rw[t]at o;simp only[oQ]at o;exact cg
 .obtain rfl:j=l.length:=by omega
  exact dR
def EU(m:List (List Int))(g:m.length<=1000000)(c:m.flatten.length<=1000000000000):mG prog 281 [.sl none 1 (m.map lJ)] (lJ m.flatten):=by
 refine kR J6 O ntmps281 O ki [_] O λE S=>?_;refine wO ?_;refine lU (lL.token 3 3 0 3 O O) ?_;refine kU (λj:Nat=>⟨[(6,.sl none 1 (m.map lJ)),(7,kq m.length),(8,kq j),(3,.sl (some 3) 1 ((m.take j).flatten.map kq))],[(3,.tail 3 1 (m.take j).flatten.length)]⟩) (λj=>j<=m.length) (λj=>m.length- j) 0 (kO _) ed (λj i=>?_);exact aI
def ET(m:List (List kH))(g:m.length<=1000000)(c:m.flatten.length<=1000000000):mG prog 282 [.sl none 1 (m.map rp)] (rp m.flatten):=by
 refine kR J5 O ntmps282 O ki [_] O λE S=>?_;refine wO ?_;refine lU (lL.token 3 3 8 113 O O) ?_;refine kU (λj:Nat=>⟨[(6,.sl none 1 (m.map rp)),(7,kq m.length),(8,kq j),(3,.sl (some 3) 9 ((m.take j).flatten.map kH.av))],[(3,.tail 113 9 (m.take j).flatten.length)]⟩) (λj=>j<=m.length) (λj=>m.length- j) 0 (kO _) ed (λj i=>?_);exact aI
def aj7(cs:List kH)(k:kH)(g:cs.length<=1000000000):mG prog 168 [rp cs,k.av] (kq (qj lx k cs:Nat)):=by
 refine kR func168 O ntmps168 O ki [_] O λE S=>?_;refine wO ?_;refine kU (λj:Nat=>⟨[(8,rp cs),(9,kq cs.length),(3,.ptr 3 0 []),(10,kq j),(5,kq (qj lx k (cs.take j):Nat))],[(3,.var k.av)]⟩) (λj=>j<=cs.length) (λj=>cs.length- j) 0 (kO _) ed (λj i=>?_);have p:=ae9 lx k (cs.take j);rw[n5]at p;by_cases Z:j<cs.length
 .have l:=kD A5 (zQ cs[j] k);by_cases h:lx cs[j] k<=0
  .refine wO ?_;have o:=abv lx k cs j Z h;exact cH
  .refine wO ?_;have o:=ae8 lx k cs j Z h;exact cH
 .refine wO ?_;have:j=cs.length:=eY;subst this;exact oY ⟨K8 (by rw[nQ];rfl) O O,trivial⟩
def Ug(k:List Int)(cs:List kH)(i:Int)(x:kH)(id:Int)(a:k.length<=100000000)(b:cs.length<=100000000):mG prog 253 [lJ k,rp cs,kq i,x.av,kq id] (.mz [lJ (vx k cs i x id).1,rp (vx k cs i x id).2]):=by
 refine kR func253 O ntmps253 O ki [_,_] O λE S=>?_;by_cases hi:0<=i/\i<k.length
 .obtain⟨n,rfl⟩:∃n:Nat,i=(n:Int):=⟨i.toNat,by omega⟩
  have e:vx k cs n x id=(FP k n id,FQ cs (min n cs.length) x):=by
   unfold vx;rw[kx kh];simp
  rw[e];have R:=EU [k.take (n+1),[id],k.drop (n+1)] ki jY;have d:=ET [cs.take (min n cs.length),[x],cs.drop (min n cs.length)] ki jY;rw[show[k.take (n+1),[id],k.drop (n+1)].flatten=FP k n id from by simp[FP]]at R;rw[show[cs.take (min n cs.length),[x],cs.drop (min n cs.length)].flatten=FQ cs (min n cs.length) x from by simp[FQ]]at d;have c1:=kD J6 (R);have c2:=kD J5 (d);refine wO ?_;exact eC
 .rw[show vx k cs i x id=(k,cs)from ku hi];by_cases j:i<0
  .refine wO ?_;exact eC
  .refine wO ?_;exact oY ⟨pY O,pY O,trivial⟩
def o5(k:List Int)(cs:List kH):List Int×List kH×kH×List Int×List kH×Bool:=
 if k.length=4/\cs.length=3 then(k.take 2,cs.take 1,cs.getD 1 kH.zero,k.drop 2,cs.drop 2,true)else([],[],kH.zero,[],[],false)
def Y2(h:List Int×List kH×kH×List Int×List kH×Bool):AV:=.mz [lJ h.1,rp h.2.1,h.2.2.1.av,lJ h.2.2.2.1,rp h.2.2.2.2.1,kA h.2.2.2.2.2]
def agk(k:List Int)(cs:List kH)(a:k.length<=100000000)(b:cs.length<=100000000):mG prog 280 [lJ k,rp cs] (Y2 (o5 k cs)):=by
 refine kR func280 O ntmps280 O ki [_,_,_,_,_,_] O λE S=>?_;by_cases h:k.length=4/\cs.length=3
 .obtain⟨w,u⟩:=h;have c1:=EU [k.take 2] ki jY;have c2:=EU [k.drop 2] ki jY;have c3:=ET [cs.take 1] ki jY;have g:=ET [cs.drop 2] ki jY;rw[show[k.take 2].flatten=k.take 2 from by simp]at c1;rw[show[k.drop 2].flatten=k.drop 2 from by simp]at c2;rw[show[cs.take 1].flatten=cs.take 1 from by simp]at c3;rw[show[cs.drop 2].flatten=cs.drop 2 from by simp]at g;have W:=kD J6 (c1);have z:=kD J6 (c2);have Z:=kD J5 (c3);have Y:=kD J5 (g);refine wO ?_;rw[show o5 k cs=(k.take 2,cs.take 1,cs[1],k.drop 2,cs.drop 2,true)from by unfold o5;rw[kx ⟨w,u⟩];simp[List.getD,u]];exact oY ⟨pY O,pY O,gu,pY O,pY O,gr,trivial⟩
 .rw[show o5 k cs=([],[],kH.zero,[],[],false)from ku h];by_cases w:k.length=4
  .refine wO ?_;exact oY ⟨si O,si O,gu,si O,si O,gr,trivial⟩
  .refine wO ?_;exact oY ⟨si O,si O,gu,si O,si O,gr,trivial⟩
def Rj(l:List lq)(r:List kH)(i:Int)(h:i<0∨(r.length:Int)<i):mG prog 52 [nk l,rp r,kq i] (nk []):=by
 refine kR yN O ntmps52 O ki [_] O λE S=>?_;by_cases c:i<0
 .refine wB ?_;exact oY ⟨si O,trivial⟩
 .have c2:(r.length:Int)<i:=h.resolve_left c;exact d1
def zR(l:List lq)(r:List kH)(n:Nat)(h:uv l)(B:n<=r.length)(g:l.length<=100000000)(i:r.length<=100000000):mG prog 52 [nk l,rp r,kq n] (nk (oh l r n)):=by
 refine kR yN O ntmps52 O ki [_] O λE S=>?_;unfold oh;cases n with
 |zero=>
  rw[show Yo r l 0=0 from rfl];by_cases c:0<r.length
  .rw[adW l c];have W:=kD yO (vC l r[0] h kh);have o:=AF r[0] l;by_cases z:nN r[0] l<=0
   .rw[Fu z];exact d1
   .refine wB ?_;exact bG
  .rw[Yn l c];by_cases z:l.length<=0
   .rw[Fu z];exact d1
   .refine wB ?_;exact bG
 |succ m=>
  have T:m<r.length:=B;rw[VN l T];have p:=AF r[m] l;have K:=kD yO (vC l r[m] h kh);by_cases c:m+1<r.length
  .rw[adW l c];have W:=kD yO (vC l r[m+1] h kh);have o:=AF r[m+1] l;by_cases z:nN r[m+1] l<=nN r[m] l
   .rw[Fu z];exact d1
   .refine wB ?_;exact bG
  .rw[Yn l c];by_cases z:l.length<=nN r[m] l
   .rw[Fu z];exact d1
   .refine wB ?_;exact bG
def Xp(l:List lq)(g:l.length<=100000000):mG prog 333 [nk l] (kA (As lx l)):=by
 refine kR func333 O ntmps333 O ki [_] O λE S=>?_;have k':(!true)=false:=rfl;have k'':(!false)=true:=rfl;refine wB ?_;refine kU (λj:Nat=>⟨[(0,nk l),(5,nk l),(6,kq l.length),(7,kq j)],[]⟩) (λj=>j<=l.length/\ ∀i (hi:i<l.length),i<j->l[i].ok=true/\ ∀a (N:a+1=i),lx (l[a]'kh).key l[i].key<0) (λj=>l.length- j) 0 ⟨kO _,λi _ h=>by omega⟩ ed (λj k=>?_);obtain⟨b,z⟩:=k;by_cases c:j<l.length
 .have W:=Mp l[j];cases w:l[j].ok with
  |false=>
   rw[w]at W;rw[y8 (Wi c w)];have U:=kD J7 (W);exact dW
  |true=>
   rw[w]at W;have U:=kD J7 (W);cases j with
   |zero=>
    refine wB ?_;refine⟨1,⟨c,λi hi x=>?_⟩,by omega,?_⟩
    .obtain rfl:i=0:=by omega
     exact⟨w,λa N=>by omega⟩
    .exact ed
   |succ m=>
    have r:=kD A5 (zQ l[m].key l[m+1].key);by_cases q:0<=lx l[m].key l[m+1].key
    .rw[y8 (Wj c q)];exact dW
    .refine wB ?_;refine⟨m+1+1,⟨c,λi hi x=>?_⟩,by omega,?_⟩
     .by_cases e:i=m+1
      .subst e
       exact⟨w,λa N=>by
        have e:a=m:=eY;subst e;exact Int.not_le.1 q⟩
      .exact z i hi kh
     .exact ed
 .rw[PW (λi hi=>z i hi kh)];exact dW
end
