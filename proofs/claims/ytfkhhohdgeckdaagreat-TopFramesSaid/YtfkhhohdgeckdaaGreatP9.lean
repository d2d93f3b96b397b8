/- Part of the proof, without conditions. -/
import Derived.Test.YtfkhhohdgeckdaaGreatP7
namespace Go.Proofs.YtfkhhohdgeckdaaGreat
open Go RowKit Proofs.Tryz
set_option linter.all false
set_option maxRecDepth 100000
set_option maxHeartbeats 16000000
def Nd.zero:Nd:=⟨false,[],[],[],[]⟩
def nL(b:List (BitVec 8))(i:Nat):BitVec 8:=b.getD i 0#8
def pZ(b:List (BitVec 8)):Nd×uc:=
 if nL b 0=1#8 then
  (⟨true,(ll (sj b) (nL b 1).toNat ⟨8,false⟩).1,[],[],(ll (rN b) (nL b 2).toNat (ll (sj b) (nL b 1).toNat ⟨8,false⟩).2).1⟩,(ll (rN b) (nL b 2).toNat (ll (sj b) (nL b 1).toNat ⟨8,false⟩).2).2)
 else
  (⟨false,[],(ll (qT b) (nL b 1).toNat ⟨8,false⟩).1,(ll (pa b) ((nL b 1).toNat- 1) (ll (qT b) (nL b 1).toNat ⟨8,false⟩).2).1,(ll (rN b) (nL b 2).toNat (ll (pa b) ((nL b 1).toNat- 1) (ll (qT b) (nL b 1).toNat ⟨8,false⟩).2).2).1⟩,
   (ll (rN b) (nL b 2).toNat (ll (pa b) ((nL b 1).toNat- 1) (ll (qT b) (nL b 1).toNat ⟨8,false⟩).2).2).2)
def Eg(b:List (BitVec 8)):List (BitVec 8):=zA b 4 (List.replicate 4 0#8)
def Ir(b:List (BitVec 8)):List (BitVec 8):=(b.take 8).drop 4
noncomputable def mK(b:List (BitVec 8)):Nd×Int:=
 if b.length=256 then
  if Pr (Eg b)=Ir b then
   if(pZ b).2.bad=false/\(mo (pZ b).1).2=0/\(mo (pZ b).1).1=b then((pZ b).1,0)else(Nd.zero,4)
  else(Nd.zero,5)
 else(Nd.zero,4)
def aaZ(b:List (BitVec 8)):(pZ b).1.Sm:=by exact aF
variable {E:su}{nt:Nat}{ops:Array Oper}{T:Nat->Option AV}{H:Hp}{d:Option Nat}{ty:TypeId}{pos:String}{af:Array Edge}{gd:Option (Nat×Bool)}
variable {t t':TypeId}{x y:Operand}
section
def W7{a b:ByteArray}:(a==b)=true↔a=b:=by
 cases a with|mk x=>cases b with|mk y=>
 show((x==y)=true)↔_
 rw[H7,ByteArray.mk.injEq]
def afZ(a b:List (BitVec 8)):((lW a)==(lW b))=decide (a=b):=by rw[GI,W7,nO,TP]
def abJ(a b:List (BitVec 8)):((lW a).toList==(lW b).toList)=decide (a=b):=by rw[<-beq_toListBytes,afZ]
def aen{a b:List (BitVec 8)}(n:lK nt d=true)(j:kv T x=some (.v (.string (lW a))))(F:kv T y=some (.v (.string (lW b)))):kE prog E nt ops ⟨d,.binOp .eql t x y t',ty,pos,af,gd⟩ T H [] ⟨kA (decide (a=b)),[]⟩:=
 th n j F (λw=>by
  simp only[eqGuard,binOp,Op.stringOp,Sem.run_bind,beq_toListBytes,abJ];rfl) O
end
def Rx:lB prog 329 (.agg 3 [mF,kq ((0:Nat):Int),kA false]):=lR (v:=.agg #[.slice none 0 0,.int .i64 0,.bool false]) (n:=3) j6 λU w=>by
 simp only[mF,kq,kA,Rd,qQ,Value.cells];exact ee
variable {R:Prop}
def wX{Q:Prop}(k:R)(h:zT R->Q:=by intro kHid;(repeat (first|refine Ip ?_|(first|(apply Wv;(focus (first|exact oB O O|exact Yq O O|exact vW O O O O iP|exact wg O O O O iP|exact tl O O O|exact vV O O O|exact xV O O O|exact xU O O|exact aem O O O O h7|exact rW O O O kh|exact xZ O O O kh|exact uh O O O kh|exact sG O O O kh|exact vf O O O kh|exact qx O O O O j5|exact C4 ⟨_,mc⟩ pz O O|exact C2 ⟨_,mc⟩ vO O O|exact aeI ⟨_,underlying357⟩ vO O O|exact ajN ⟨_,vO⟩ mc O O|exact ajO ⟨_,pz⟩ mc O O|exact C3 s8 pz uU O O|exact SV O O O O O O O jd ki kg|exact Ez kM O O O zL (kK _) kg|exact PT O O O O O kh kh|exact wh O O O O kh|exact wi O O O O kh|exact uF O O O O kh|exact uG O O O O kh|exact sH O O O O O O O (by first|omega|decide) (by first|omega|exact oG (m:=256) kg kh)|exact Yt O O O O O O h7 h7|exact SU O O O O O O O O h7 h7 h7|exact aen O O O|exact sI Rx O O O O O O O|exact ah8 O O O|exact wQ O O O|exact zc O O|exact t5 O O O O O|exact vb O O O O O O O|exact Am O O O));(focus exact ig))|(apply Wb;(focus exact gz);(focus exact ig))|(apply Ws;(focus exact gH);(focus exact ig))|(refine sN gS O ?_)|refine Mx O O iK ?_|refine My O O iK ?_|(refine Mz O O jh ?_)|(refine tc _ j5 ?_))));exact kHid.out):Q:=h ⟨k⟩
variable {i:Nat}
def L1{b:List (BitVec 8)}(h:i<b.length):b[i]=nL b i:=by unfold nL;rw[nI,kQ h];rfl
def agG{x:BitVec 8}:(B8 x=1)↔x=1#8:=by
 rw[rB];constructor
 .intro h;apply Mj;have:x.toNat=1:=eY;simpa using this
 .intro h;subst h;rfl
variable {α:Type}
section
attribute [local irreducible] kE lM AW mU lL mG mC lj lT ly kN
theorem Sw(f:uc->α×uc)(j:Nat)(s:uc):ll f (j+1) s=((ll f j s).1++[(f (ll f j s).2).1],(f (ll f j s).2).2):=rfl
def WX(b:List (BitVec 8))(s:uc)(n:Int)(c:b.length<=1000000)(o:s.pos<=100000)(B:n<=1000):
 Ii prog 235 [kq n,.fn (.func 236) [.ptr 1000 0 []] []] (BI b s) (pI (ll (sj b) n.toNat s).1) (BI b (ll (sj b) n.toNat s).2):=by
 refine nh func235 O ntmps235 O ki [_] O λE S=>hTF λN k=>?_;refine wY ?_;refine lU (lL.token 5 40 25 115 O O) ?_;refine kU (λj:Nat=>⟨[(1,.fn (.func 236) [.ptr 1000 0 []] []),(5,.sl (some 40) 26 ((ll (sj b) j s).1.map mL.av)),(6,kq n),(7,.v (.int .i64 (j:Nat)))],[(1000,.var (rdA b (ll (sj b) j s).2)),(40,.tail 115 26 (ll (sj b) j s).1.length)]⟩) (λj=>j<=n.toNat) (λj=>n.toNat- j) 0 (kO _) ed (λj i=>?_);have X:=sA (sj b) (N2 b) s j;have g:=qN (sj b) s j;by_cases Z:j<n.toNat
 .have p:(j:Int)<n:=by omega
  have K:=alP b (ll (sj b) j s).2 c kh;have W:=nD func236 (K);exact au
 .obtain rfl:j=n.toNat:=by omega
  exact cr
def WV(b:List (BitVec 8))(s:uc)(n:Int)(c:b.length<=1000000)(o:s.pos<=100000)(B:n<=1000):
 Ii prog 237 [kq n,.fn (.func 238) [.ptr 1000 0 []] []] (BI b s) (lJ (ll (qT b) n.toNat s).1) (BI b (ll (qT b) n.toNat s).2):=by
 refine nh func237 O ntmps237 O ki [_] O λE S=>hTF λN k=>?_;refine wY ?_;refine lU (lL.token 5 40 0 3 O O) ?_;refine kU (λj:Nat=>⟨[(1,.fn (.func 238) [.ptr 1000 0 []] []),(5,.sl (some 40) 1 ((ll (qT b) j s).1.map kq)),(6,kq n),(7,.v (.int .i64 (j:Nat)))],[(1000,.var (rdA b (ll (qT b) j s).2)),(40,.tail 3 1 (ll (qT b) j s).1.length)]⟩) (λj=>j<=n.toNat) (λj=>n.toNat- j) 0 (kO _) ed (λj i=>?_);have X:=sA (qT b) (N1 b) s j;have g:=qN (qT b) s j;by_cases Z:j<n.toNat
 .have p:(j:Int)<n:=by omega
  have K:=alO b (ll (qT b) j s).2 c kh;have W:=nD func238 (K);exact au
 .obtain rfl:j=n.toNat:=by omega
  exact cr
def WW(b:List (BitVec 8))(s:uc)(n:Int)(c:b.length<=1000000)(o:s.pos<=100000)(B:n<=1000):
 Ii prog 239 [kq n,.fn (.func 240) [.ptr 1000 0 []] []] (BI b s) (rp (ll (pa b) n.toNat s).1) (BI b (ll (pa b) n.toNat s).2):=by
 refine nh func239 O ntmps239 O ki [_] O λE S=>hTF λN k=>?_;refine wY ?_;refine lU (lL.token 5 40 8 113 O O) ?_;refine kU (λj:Nat=>⟨[(1,.fn (.func 240) [.ptr 1000 0 []] []),(5,.sl (some 40) 9 ((ll (pa b) j s).1.map kH.av)),(6,kq n),(7,.v (.int .i64 (j:Nat)))],[(1000,.var (rdA b (ll (pa b) j s).2)),(40,.tail 113 9 (ll (pa b) j s).1.length)]⟩) (λj=>j<=n.toNat) (λj=>n.toNat- j) 0 (kO _) ed (λj i=>?_);have X:=sA (pa b) (λs=>by have:=xB b s;omega) s j;have g:=qN (pa b) s j;by_cases Z:j<n.toNat
 .have p:(j:Int)<n:=by omega
  have K:=WY b (ll (pa b) j s).2 c kh;have W:=nD Dt (K);exact au
 .obtain rfl:j=n.toNat:=by omega
  exact cr
def L0(b:List (BitVec 8))(s:uc)(n:Int)(c:b.length<=1000000)(o:s.pos<=100000)(B:n<=1000):
 Ii prog 241 [kq n,.fn (.func 242) [.ptr 1000 0 []] []] (BI b s) (nk (ll (rN b) n.toNat s).1) (BI b (ll (rN b) n.toNat s).2):=by
 refine nh func241 O ntmps241 O ki [_] O λE S=>hTF λN k=>?_;refine wY ?_;refine lU (lL.token 5 40 28 131 O O) ?_;refine kU (λj:Nat=>⟨[(1,.fn (.func 242) [.ptr 1000 0 []] []),(5,.sl (some 40) 29 ((ll (rN b) j s).1.map lq.av)),(6,kq n),(7,.v (.int .i64 (j:Nat)))],[(1000,.var (rdA b (ll (rN b) j s).2)),(40,.tail 131 29 (ll (rN b) j s).1.length)]⟩) (λj=>j<=n.toNat) (λj=>n.toNat- j) 0 (kO _) ed (λj i=>?_);have X:=sA (rN b) (aa1 b) s j;have g:=qN (rN b) s j;by_cases Z:j<n.toNat
 .have p:(j:Int)<n:=by omega
  have K:=alN b (ll (rN b) j s).2 c kh;have W:=nD JY (K);exact au
 .obtain rfl:j=n.toNat:=by omega
  exact cr
def Ul(x y:List (BitVec 8)):mG prog 234 [tp x,tp y] (kA (decide (x=y))):=by
 refine kL Dq O ntmps234 O ki [_] O λE S N i=>?_;refine wY ?_;refine Wv (aen O O O) hP ?_;refine wY ?_;exact oY ⟨gr,trivial⟩
def aiR(x:List (BitVec 8))(i:0<x.length)(g:x.length<=1000000):Ii prog 233 [tp x] [] (.own 5 1 x.length .row) [(5,.own 5 1 (x.map lN))]:=by
 refine nh JV O ntmps233 O ki [_] O λE S=>hTF λN j=>?_;refine wY ?_;refine Wv (aed O O O O i2) hP ?_;exact dh
def abX(b:List (BitVec 8))(c:b.length<=1000000):mG prog 185 [tp b] (.mz [(mK b).1.av,kq (mK b).2]):=by
 by_cases T:b.length=256
 .have h256':(b.length:Int)=256:=by omega
  have D:(Eg b).length=256:=by unfold Eg;rw[Lc _ _ _ jY];exact T
  have x:=aiR b kh c;have c1:=afQ (Eg b);have c2:=Ul (Pr (Eg b)) (Ir b);have B:b[0]'kh=nL b 0:=L1 kh;have U:b[1]'kh=nL b 1:=L1 kh;have f2:b[2]'kh=nL b 2:=L1 kh;have C:(Eg b).length=b.length:=eY;unfold rwO at c1;rw[C]at c1;by_cases o:Pr (Eg b)=Ir b
  .rw[kW o]at c2;unfold Pr Ir at c2;have R:=aaZ b;have a:=OP (pZ b).1 R;have q:=Ul (mo (pZ b).1).1 b
   have v:mK b=if(pZ b).2.bad=false/\(mo (pZ b).1).2=0/\(mo (pZ b).1).1=b then((pZ b).1,0)else(Nd.zero,4):=by
    unfold mK;rw[kx T,kx o]
   rw[v];clear v R;by_cases g:nL b 0=1#8
   .have F:B8 (b[0]'kh)=1:=by rw[B];exact agG.2 g
    have l:pZ b=(⟨true,(ll (sj b) (nL b 1).toNat ⟨8,false⟩).1,[],[],(ll (rN b) (nL b 2).toNat (ll (sj b) (nL b 1).toNat ⟨8,false⟩).2).1⟩,(ll (rN b) (nL b 2).toNat (ll (sj b) (nL b 1).toNat ⟨8,false⟩).2).2):=by unfold pZ;rw[kx g]
    have t:=sA (sj b) (N2 b) ⟨8,false⟩ (nL b 1).toNat;have I:=(nL b 1).isLt;have e:=(nL b 2).isLt;dsimp only at t;have j:=WX b ⟨8,false⟩ ((nL b 1).toNat:Nat) c jw kh;rw[pP]at j;have p:=L0 b (ll (sj b) (nL b 1).toNat ⟨8,false⟩).2 ((nL b 2).toNat:Nat) c kh kh;rw[pP]at p;rw[l]at a q⊢;generalize ll (sj b) (nL b 1).toNat ⟨8,false⟩=RE at*;obtain⟨es,V⟩:=RE;dsimp only at p j a q t⊢;generalize ll (rN b) (nL b 2).toNat V=RM at*;obtain⟨ms,⟨w,J⟩⟩:=RM;dsimp only at p j a q⊢;clear l;have a:=UC a (G:= [pb true (pI es) mF mF (nk ms)]) (λH=>.cons (Wk.agg (.cons (Wk.data O) (.cons (Wk.data O) (.cons Wk.nil (.cons Wk.nil (.cons (Wk.data O) .nil)))))) .nil);generalize mo ⟨true,es,[],[],ms⟩=A at*;obtain⟨enb,y⟩:=A;dsimp only at a q⊢;rw[<-U]at j;rw[<-f2]at p
    try unfold BI at p
    try dsimp only at p
    clear t I e;cases J with
    |true=>
     rw[ku ki];exact ae
    |false=>
     by_cases L:y=0
     .by_cases d:enb=b
      .rw[kx ⟨O,L,d⟩];rw[kW d]at q;exact ae
      .rw[ku (λh=>d h.2.2)];rw[la d]at q;exact ae
     .rw[ku (λh=>L h.2.1)];exact ae
   .have F:¬B8 (b[0]'kh)=1:=by rw[B];exact λh=>g (agG.1 h)
    have l:pZ b=(⟨false,[],(ll (qT b) (nL b 1).toNat ⟨8,false⟩).1,(ll (pa b) ((nL b 1).toNat- 1) (ll (qT b) (nL b 1).toNat ⟨8,false⟩).2).1,(ll (rN b) (nL b 2).toNat (ll (pa b) ((nL b 1).toNat- 1) (ll (qT b) (nL b 1).toNat ⟨8,false⟩).2).2).1⟩,
     (ll (rN b) (nL b 2).toNat (ll (pa b) ((nL b 1).toNat- 1) (ll (qT b) (nL b 1).toNat ⟨8,false⟩).2).2).2):=by unfold pZ;rw[ku g]
    have t:=sA (qT b) (N1 b) ⟨8,false⟩ (nL b 1).toNat;have m:=sA (pa b) (λs=>by have:=xB b s;omega) (ll (qT b) (nL b 1).toNat ⟨8,false⟩).2 ((nL b 1).toNat- 1);have I:=(nL b 1).isLt;have e:=(nL b 2).isLt;dsimp only at t;have j:=WV b ⟨8,false⟩ ((nL b 1).toNat:Nat) c jw kh;rw[pP]at j;have M:=WW b (ll (qT b) (nL b 1).toNat ⟨8,false⟩).2 (((nL b 1).toNat:Nat)- 1) c kh kh;rw[show((((nL b 1).toNat:Nat):Int)- 1).toNat=(nL b 1).toNat- 1 by omega]at M;have p:=L0 b (ll (pa b) ((nL b 1).toNat- 1) (ll (qT b) (nL b 1).toNat ⟨8,false⟩).2).2 ((nL b 2).toNat:Nat) c kh kh;rw[pP]at p;rw[l]at a q⊢;generalize ll (qT b) (nL b 1).toNat ⟨8,false⟩=RE at*;obtain⟨k,V⟩:=RE;dsimp only at p M j a q t m⊢;generalize ll (pa b) ((nL b 1).toNat- 1) V=RK at*;obtain⟨ps,r⟩:=RK;dsimp only at p M j a q m⊢;generalize ll (rN b) (nL b 2).toNat r=RM at*;obtain⟨ms,⟨w,J⟩⟩:=RM;dsimp only at p M j a q⊢;clear l;have a:=UC a (G:= [pb false mF (lJ k) (rp ps) (nk ms)]) (λH=>.cons (Wk.agg (.cons (Wk.data O) (.cons Wk.nil (.cons (Wk.data O) (.cons (Wk.data O) (.cons (Wk.data O) .nil)))))) .nil);generalize mo ⟨false,[],k,ps,ms⟩=A at*;obtain⟨enb,y⟩:=A;dsimp only at a q⊢;rw[<-U]at j M;rw[<-f2]at p;have u:=(b[1]'kh).isLt
    try unfold BI at p
    try dsimp only at p
    clear t m I e;cases J with
    |true=>
     rw[ku ki];exact ac
    |false=>
     by_cases L:y=0
     .by_cases d:enb=b
      .rw[kx ⟨O,L,d⟩];rw[kW d]at q;exact ac
      .rw[ku (λh=>d h.2.2)];rw[la d]at q;exact ac
     .rw[ku (λh=>L h.2.1)];exact ac
  .rw[la o]at c2;unfold Pr Ir at c2;have v:mK b=(Nd.zero,5):=by unfold mK;rw[kx T,ku o]
   rw[v];refine kL Gr O JU O ki [_,_] O λE S N i=>?_;have K:=nD JV (x);have W:=nD Du (c1);have z:=kD Dq (c2);refine wX ?_;apply BJ [] [16];exact n7 [(5,16)] K O O O O gV ii ii O O O;exact O;exact O;exact ig;refine wX ?_
   (apply WvN [16];(focus (exact FC [(1000,16)] W O O O O O gV ii ii O O));(focus (exact O));(focus exact ig))
   exact cm
 .have h256':¬(b.length:Int)=256:=by omega
  have P:mK b=(Nd.zero,4):=by unfold mK;rw[ku T]
  rw[P];refine kL Gr O JU O ki [_,_] O λE S N i=>?_;exact cm
end
