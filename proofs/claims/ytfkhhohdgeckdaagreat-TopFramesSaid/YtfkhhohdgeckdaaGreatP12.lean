/- Part of the proof, without conditions. -/
import Derived.Test.YtfkhhohdgeckdaaGreatP10
import Derived.Test.YtfkhhohdgeckdaaGreatP9
namespace Go.Proofs.YtfkhhohdgeckdaaGreat
open Go RowKit Proofs.Tryz
set_option linter.all false
set_option maxRecDepth 100000
set_option maxHeartbeats 16000000
def kP.mJ(c:kP)(i:Nat)(g:Fr->Fr):kP:={c with fr:=c.fr.modify i g}
def kP.node(c:kP)(k:Int):Option Nd:=match c.fp k 2 with
 |some i=>(c.fr[i]?).map (·.nd)
 |none=>none
def kP.set(c:kP)(k:Int)(n:Nd):kP:=match c.fp k 2 with
 |some i=>c.mJ i λf=>{f with nd:=n,uO:=true}
 |none=>c
def kP.ac8(c:kP)(k:Int):Bool:=match c.fp k 2 with
 |some i=>match c.fr[i]? with
  |some f=>decide (f.pins≠0)
  |none=>false
 |none=>false
def kP.BU(c:kP)(k:Int):kP:=match c.fp k 2 with
 |some i=>match c.fr[i]? with
  |some f=>if f.pins=0 then c else c.mJ i λf=>{f with pins:=f.pins- 1}
  |none=>c
 |none=>c
variable {c:kP}{st:Int}{i:Nat}
def C9{k:Int}(h:c.fp k st=some i):c.at_ k=some i/\ ∃f,c.fr[i]?=some f/\f.st=st:=by
 unfold kP.fp at h;split at h
 .rename_i j l;split at h
  .rename_i f z;split at h
   .rename_i o;injection h with h;subst h;exact⟨l,f,z,o⟩
   .cases h
  .cases h
 .cases h
def IE(fs:List Fr)(i:Nat)(f f':Fr)(g:Fr->Fr)(z:fs[i]?=some f)(t:g f=f'):(fs.map Fr.av).set i f'.av=(fs.modify i g).map Fr.av:=by
 apply wv;intro j;rw[AO,oI,oI,Gw];by_cases h:i=j
 .subst h;have hi:i<fs.length:=(mS.1 z).1;have e:fs[i]=f:=by rw[kQ hi]at z;injection z
  simp[e,t,hi]
 .simp[h]
variable {X:kY}{l:nz}{e:TypeId}{n cap:Nat}{A:Option (Nat×Nat)}{G:List AV}{y':AV}
def Fs{y:AV}:X.put l (.my e n A cap ((G.set i y).set i y')) l=some (.my e n A cap (G.set i y')):=by rw[kC,Gl]
variable {h:Nat}
def mV.mJ{p:qq}(u:om X h p c){i:Nat}{f:Fr}(z:c.fr[i]?=some f)(g:Fr->Fr){C:kY}{y:AV}(k:C (5,h)=some (.my 219 11 (some (p.bf,p.off)) p.cf ((c.fr.map Fr.av).set i y)))(F:y=(g f).av)(U:∀j,j≠(5,h)->C j=X j):mV h p (c.mJ i g) X C:=
 mV.fr u (c.fr.modify i g) ki (by rw[k,F,IE c.fr i f (g f) g z O]) U
def Wo(x:BitVec 32):uj (ni (x.setWidth 64) 4)=x.setWidth 64:=by
 apply GO;intro i hi;rw[D9 _ _ _ hi,Km];by_cases c:i<32
 .simp[show i<8*4 by omega]
 .rw[Zw x i kh];simp
def At(b:List (BitVec 8))(i:Nat)(l:List (BitVec 8)):Prop:=∃B,b.drop i=l++B
def At.left{b:List (BitVec 8)}{l m:List (BitVec 8)}(h:At b i (l++m)):At b i l:=by
 obtain⟨p,h⟩:=h;exact⟨m++p,by rw[h,oH]⟩
def At.right{b:List (BitVec 8)}{l m:List (BitVec 8)}(h:At b i (l++m)):At b (i+l.length) m:=by
 obtain⟨p,h⟩:=h;exact⟨p,by rw[<-List.drop_drop,h,oH,List.drop_left]⟩
def At.le{b:List (BitVec 8)}{l:List (BitVec 8)}(h:At b i l)(j:0<l.length):i+l.length<=b.length:=by
 obtain⟨p,h⟩:=h;have:=py List.length h;rw[q8,lA]at this;omega
def At.seg{b:List (BitVec 8)}{l:List (BitVec 8)}(h:At b i l):seg b i l.length=l:=by
 obtain⟨p,h⟩:=h;unfold Proofs.YtfkhhohdgeckdaaGreat.seg;rw[h,List.take_left]
def At.one{b:List (BitVec 8)}{x:BitVec 8}(h:At b i [x]):b.getD i 0#8=x:=by
 obtain⟨p,h⟩:=h;have:(b.drop i)[0]?=some x:=by rw[h];rfl
 rw[wy,vA]at this;rw[nI,this];rfl
def PJ(h:n<256):(BitVec.ofInt 8 (n:Nat)).toNat=n:=by
 rw[Mi];omega
def Qt{b:List (BitVec 8)}{l:List (BitVec 8)}(h:At b i l)(j:0<l.length):vg b i l.length=uj l/\stN b ⟨i,false⟩ l.length=⟨i+l.length,false⟩:=by
 have g:=h.le j;refine⟨by rw[Of g,h.seg],?_⟩;unfold stN;dsimp only;rw[kW g];rfl
def Zb{b:List (BitVec 8)}{m:Nat}{s:List (BitVec 8)}(h:At b i (tx s))(T:s.length<=m)(d:m<=255):D2 b ⟨i,false⟩ m=s/\stT b ⟨i,false⟩ m=⟨i+(tx s).length,false⟩:=by
 have a:At b i [BitVec.ofInt 8 (s.length:Nat)]:=At.left h;have c:At b (i+1) s:=At.right h;have u:F9 b i=s.length:=by unfold F9;rw[a.one,PJ kh]
 have o:=h.le (by rw[vj];omega);rw[vj]at o;unfold D2 stT Hn;dsimp only;rw[u,kW T,kW kh];exact⟨c.seg,by rw[vj,ye];rfl⟩
def aeW{k:kH}(h:k.ok=true):vh (HP k)=k:=by
 obtain⟨a,b,l⟩:=(kH.rm k).1 h;have g:=(uK ⟨a,b⟩).1;unfold vh;have e:rj 8 (HP k)=k.b:=Ex k.b _ l;rw[e,g];obtain⟨n,v⟩:=k;dsimp only at a⊢
 congr 1<;>omega
def aim{k:Vl}(h:k.ok=true):vX (Vi k)=k:=by
 obtain⟨a,b,l⟩:=(Vl.rm k).1 h;have g:=(yr ⟨a,b⟩).1;unfold vX;have e:rj 16 (Vi k)=k.b:=Ex k.b _ l;rw[e,g];obtain⟨n,v⟩:=k;dsimp only at a⊢
 congr 1<;>omega
def Xb{b:List (BitVec 8)}{k:kH}(w:k.ok=true)(h:At b i (tx (HP k))):pa b ⟨i,false⟩=(k,⟨i+(tx (HP k)).length,false⟩):=by obtain⟨a,c⟩:=Zb (m:=8) h (uK (Ro.of w)).2 kh;unfold pa;rw[a,c,aeW w]
def aj6{b:List (BitVec 8)}{k:Vl}(w:k.ok=true)(h:At b i (tx (Vi k))):K9 b ⟨i,false⟩=(k,⟨i+(tx (Vi k)).length,false⟩):=by obtain⟨a,c⟩:=Zb (m:=16) h (yr (UD.of w)).2 kh;unfold K9;rw[a,c,aim w]
def amb{b:List (BitVec 8)}{e:mL}(L:e.key.ok=true/\e.val.ok=true)(h:At b i (zb e)):sj b ⟨i,false⟩=(e,⟨i+(zb e).length,false⟩):=by have a:=Xb L.1 (At.left h);have c:=aj6 L.2 (At.right h);unfold sj;rw[a];dsimp only;rw[c];unfold zb;rw[lA,ye]
def al9{b:List (BitVec 8)}{k:Int}(w:1<=k/\k<256)(h:At b i (Ct k)):qT b ⟨i,false⟩=(k,⟨i+(Ct k).length,false⟩):=by
 have g:=LB k;obtain⟨a,c⟩:=Qt h kh;rw[g]at a c;unfold qT;dsimp only;rw[a,c,g]
 have e:uj (Ct k)=BitVec.ofInt 64 k:=by
  have:=Wo (BitVec.ofInt 32 k)
  have d:(BitVec.ofInt 32 k).setWidth 64=BitVec.ofInt 64 k:=by
   apply Mj;rw[OL,Mi,Mi];omega
  rw[d]at this;exact this
 rw[e]
 have R:(BitVec.ofInt 64 k).toInt=k:=by
  rw[BitVec.toInt_ofInt];rw[Int.bmod_def];split<;>omega
 rw[R]
def al7{b:List (BitVec 8)}{k:kH}(w:k.ok=true)(h:At b i (BE k)):pa b ⟨i,false⟩=(k,⟨i+(BE k).length,false⟩):=Xb w h
def al8{b:List (BitVec 8)}{m:lq}(T:m.ok=true)(h:At b i (wm m)):rN b ⟨i,false⟩=(m,⟨i+(wm m).length,false⟩):=by
 obtain⟨g,B,p,E,j,K⟩:=lq.spec T;unfold wm at h;have a:At b i [BitVec.ofInt 8 m.kind]:=h.left.left.left;have c:At b (i+1) (ni m.seq 8):=h.left.left.right
 have k:At b (i+9) (tx (HP m.key)):=by
  have:=h.left.right;rw[lA,lP]at this;exact this
 have A:At b (i+9+(tx (HP m.key)).length) (yy m):=by
  have:=h.right;rw[lA,lA,lP,<-ye]at this;exact this
 obtain⟨t,V⟩:=Qt a ki;obtain⟨H,f⟩:=Qt c jc;rw[lP,II]at H;rw[lP]at f;have w:=Xb p k
 have l:msK b ⟨i,false⟩=m.kind:=by
  unfold msK;dsimp only;rw[HK];unfold F9;rw[a.one,Mi];omega
 have P:Wm b ⟨i,false⟩=⟨i+1,false⟩:=V;have d:FG b ⟨i,false⟩=⟨i+9,false⟩:=by unfold FG;rw[P];exact f
 have R:I9 b ⟨i,false⟩=⟨i+9+(tx (HP m.key)).length,false⟩:=by unfold I9;rw[d,w]
 unfold rN;rw[l,P,d,R,w];dsimp only;rw[H];have U:(wm m).length=9+(tx (HP m.key)).length+(yy m).length:=by unfold wm;simp only[lA,List.length_singleton,lP]
 rw[U];obtain⟨z,C,S,q,o⟩:=m;dsimp only at g B p E j K A⊢;unfold Cd;unfold yy at A⊢;dsimp only at A⊢;by_cases e:z=1
 .rw[kx e]at A⊢;rw[kx e];have y:=aj6 E A;rw[y,K kh];dsimp only;simp only[ye]
 .rw[ku e]at A⊢;rw[ku e];by_cases k3:z=3
  .rw[kx k3]at A⊢;rw[kx k3];obtain⟨v,W⟩:=Qt A jc;rw[lP,II]at v;rw[lP]at W;rw[v,W,j e,lP];simp only[ye]
  .rw[ku k3];rw[ku k3,j e,K k3];simp only[List.length_nil,Nat.add_zero,ye]
theorem Zc{α:Type}(f:uc->α×uc)(enc:α->List (BitVec 8)){b:List (BitVec 8)}{i:Nat}(l:List α)(z:∀a∈l,∀i,At b i (enc a)->f ⟨i,false⟩=(a,⟨i+(enc a).length,false⟩))(h:At b i (l.flatMap enc)):
 ∀j,j<=l.length->ll f j ⟨i,false⟩=(l.take j,⟨i+((l.take j).flatMap enc).length,false⟩)
 |0,_=>by simp[ll]
 |j+1,k=>by
  have y:=Zc f enc l z h j kh;have Z:j<l.length:=k
  have e:l.flatMap enc=(l.take j).flatMap enc++(enc l[j]++(l.drop (j+1)).flatMap enc):=by rw[<-Dw,<-GA,<-ts Z,QL]
  rw[e]at h;have c:=At.left (At.right h);have d:=z l[j] (ng Z) _ c
  show((ll f j ⟨i,false⟩).1++[(f (ll f j ⟨i,false⟩).2).1],(f (ll f j ⟨i,false⟩).2).2)=_
  rw[y];dsimp only;rw[d,<-vM Z,GA];simp[ye]
variable {α:Type}
def Qu(f:uc->α×uc)(enc:α->List (BitVec 8)){b:List (BitVec 8)}{i:Nat}(l:List α)(z:∀a∈l,∀i,At b i (enc a)->f ⟨i,false⟩=(a,⟨i+(enc a).length,false⟩))(h:At b i (l.flatMap enc)):
 ll f l.length ⟨i,false⟩=(l,⟨i+(l.flatMap enc).length,false⟩):=by
 have:=Zc f enc l z h l.length (kK _);rwa[nQ]at this
def Jo(G:List α)(off:Nat)(J:List α)(h:off<=G.length){i:Nat}(hi:i<off):(zA G off J)[i]?=G[i]? :=by
 unfold zA;rw[pF i6,yg,kx hi]
def Jp(G:List α)(off:Nat)(J:List α)(h:off<=G.length){i:Nat}(hi:off+J.length<=i):(zA G off J)[i]?=G[i]? :=by
 unfold zA;have e:(G.take off).length=off:=fA;rw[o7 kh,e,o7 kh,wy]
 congr 1<;>omega
def Yk(G:List α)(off:Nat)(J:List α)(h:off<=G.length){i:Nat}(hi:off<=i)(j:i<off+J.length):(zA G off J)[i]?=J[i- off]? :=by
 unfold zA;have e:(G.take off).length=off:=fA;rw[o7 kh,e,pF kh]
def aa3(G:List α)(off:Nat)(J zs:List α)(g:J.length=zs.length)(h:off+J.length<=G.length):zA (zA G off J) off zs=zA G off zs:=by
 have X:=Lc G off J h;apply wv;intro i;by_cases a:i<off
 .rw[Jo _ _ _ kh a,Jo _ _ _ kh a,Jo _ _ _ kh a]
 .by_cases b:i<off+J.length
  .rw[Yk _ _ _ kh kh kh,Yk _ _ _ kh kh kh]
  .rw[Jp _ _ _ kh kh,Jp _ _ _ kh kh,Jp _ _ _ kh kh]
def aax{b s:List (BitVec 8)}(c:b.length=256)(o:s.length=4):Ir (zA b 4 s)=s:=by
 unfold Ir zA;have e:(b.take 4).length=4:=fA;apply wv;intro i;rw[wy,yg];by_cases h:i<4
 .rw[kx kh,o7 kh,e,pF kh]
  congr 1<;>omega
 .rw[ku kh,pN kh]
def adQ{n:Nd}(h:lh n=true):Eg (qz n)=Fq n:=by
 have g:=xP h;unfold Eg qz;rw[aa3 _ _ _ _ (by rw[zp];rfl) (by rw[zp];omega)];unfold Fq zA;have e:(yG n).length=4:=rfl;simp only[oH];rw[QJ e]
 congr 1
def aiL{n:Nd}(h:lh n=true):Pr (Eg (qz n))=Ir (qz n):=by
 rw[adQ h];exact(aax (xP h) (zp _)).symm
def afB{n:Nd}(h:lh n=true):At (qz n) 8 (v7 n):=by
 refine⟨List.replicate (248-(v7 n).length) 0#8,?_⟩;have g:=xP h
 have e:(qz n).drop 8=(Fq n).drop 8:=by
  apply wv;intro i;rw[wy,wy];exact Jp _ _ _ kh (by rw[zp];omega)
 rw[e];unfold Fq;have a:(yG n++List.replicate 4 0#8).length=8:=by simp[vu]
 rw[oH (yG n++List.replicate 4 0#8)];exact List.drop_left' a
def LM{n:Nd}(h:lh n=true){i:Nat}(hi:i<4):nL (qz n) i=(yG n).getD i 0#8:=by
 have g:=xP h;unfold nL;rw[nI,nI]
 congr 1
 unfold qz;rw[Jo _ _ _ kh hi];unfold Fq;rw[oH,oH,pF (by rw[vu];exact hi)]
def akO{n:Nd}(h:lh n=true):(pZ (qz n)).1=n/\(pZ (qz n)).2.bad=false:=by
 have hb:=afB h;have H:=TC h;have j:nL (qz n) 0=if n.leaf=true then 1#8 else 2#8:=LM h kh
 have a:nL (qz n) 1=BitVec.ofInt 8 (IG n:Nat):=LM h kh;have b:nL (qz n) 2=BitVec.ofInt 8 (n.ms.length:Nat):=LM h kh;unfold pZ;rcases Jz h with f|f
 .have t:=P2 n.es f.ok;have:=f.sum;rw[j,f.leaf,kx O,kx O];have P:(nL (qz n) 1).toNat=n.es.length:=by rw[a,PJ (by unfold IG;rw[f.leaf,kx O];omega)];unfold IG;rw[f.leaf,kx O]
  have c:(nL (qz n) 2).toNat=0:=by rw[b,f.ms];rfl
  rw[P,c]
  have g:At (qz n) 8 (n.es.flatMap zb):=by
   unfold v7 at hb;rw[f.ks,f.ps,f.ms]at hb;simpa using hb
  have q:=Qu (sj (qz n)) zb n.es (λe L i hi=>amb (f.ok e L) hi) g;rw[q];obtain⟨u,es,p,ps,ms⟩:=n;obtain rfl:u=true:=f.leaf;obtain rfl:p= []:=f.ks;obtain rfl:ps= []:=f.ps;obtain rfl:ms= []:=f.ms;exact eB
 .have t:=Lt n.ms f.ms;have:=f.sum;have r:=f.k4;have v:=f.kp;have B:=f.leaf;rw[j,B,ku ki];have P:(nL (qz n) 1).toNat=n.ks.length:=by rw[a,PJ (by unfold IG;rw[B,ku ki];omega)];unfold IG;rw[B,ku ki]
  have c:(nL (qz n) 2).toNat=n.ms.length:=by rw[b,PJ kh]
  rw[P,c,show n.ks.length- 1=n.ps.length by omega]
  have g:At (qz n) 8 (n.ks.flatMap Ct++n.ps.flatMap BE++n.ms.flatMap wm):=by
   unfold v7 at hb;rw[f.es]at hb;simpa using hb
  have s:=Qu (qT (qz n)) Ct n.ks (λk w i hi=>al9 (f.ks k w) hi) (At.left (At.left g));have o:=Qu (pa (qz n)) BE n.ps (λk w i hi=>al7 (f.ps k w) hi) (At.right (At.left g));have l:=At.right g;rw[lA,<-ye]at l;have U:=Qu (rN (qz n)) wm n.ms (λm T i hi=>al8 (f.ms m T) hi) l;rw[s];dsimp only;rw[o];dsimp only;rw[U];obtain⟨u,es,p,ps,ms⟩:=n;obtain rfl:u=false:=f.leaf;obtain rfl:es= []:=f.es;exact⟨O,rfl⟩
def WM{n:Nd}(h:lh n=true):mK (qz n)=(n,0):=by
 obtain⟨a,b⟩:=akO h;have L:mo n=(qz n,0):=by unfold mo;rw[kx h]
 unfold mK;rw[kx (F5 h),kx (aiL h),a,L,kx ⟨b,rfl,rfl⟩]
section
attribute [local irreducible] kE lM AW mU lL mG mC lj lT ly kN AS lF kP.mm kP.waits kP.free
def ahk(X:kY)(h:Nat)(p:qq)(c:kP)(t:Int)(u:om X h p c)(w:c.Wf):mZ prog 124 [lQ (4,h) p.b,kq t] X (kA (c.u9 t)) (λC _=>C=X):=by
 have W:=lH Gq (CS X h p c t u w);have B:=lH func180 (RQ X h p c t u w);have Y:=lH func182 (XP X h p c u w);have Z:=kD func179 (ZG t);have hi:=Ht c t;have v:=w.line;have g:=u;obtain⟨i,a,b,k,A,D,_,ag,T,H⟩:=u;unfold kP.u9;refine kz func124 O ntmps124 O ki [_] O λE S N j=>?_;by_cases e:0<=t/\t<8
 .rw[kW e]at Z⊢;cases k2:c.waits t
  .rw[k2]at B;by_cases k3:c.mm t<0
   .refine wV ?_;exact eG
   .obtain⟨n,hn⟩:=AR (show 0<=c.mm t by omega);rw[hn]at W hi k3⊢;have m:n<c.line.length:=eY;have x:n<(c.line.map Bw).length:=by simpa using m
    have z:c.line[n]?=some c.line[n]:=kQ m;generalize c.line[n]=f at z;have V:=lH AQ (BQ X h p c f.oj g);have s:(c.line.map Bw)[n]?=some (.agg 3 [kq f.task,kq f.oj,kA f.claim]):=f9;have P:((n:Nat):Int).toNat=n:=eY;rw[P,z];refine pB O D λF d b3=>?_
    obtain⟨⟨r,ol⟩,hL⟩:∃q,p.L=some q:=by
     cases hL:p.L with
     |none=>have:=(b3 hL).1;rw[this]at x;cases x
     |some q=>exact⟨q,rfl⟩
    rw[hL]at D;simp only[wW,hL]at a;by_cases l:((n:Nat):Int)=0
    .by_cases G:((c.free:Nat):Int)>0
     .have y:0<c.free:=by omega
      refine wV ?_;exact eI
     .have y:¬0<c.free:=by omega
      refine wV ?_;exact eI
    .have o:¬n=0:=by omega
     refine wV ?_;exact ns O (O) λ_=>⟨B4 O O O (by simp[k3,o,kA,SJ]),trivial⟩
  .rw[k2]at B;exact dJ
 .rw[la e]at Z⊢;exact dJ
def acR(X:kY)(h:Nat)(p:qq)(c:kP)(k:Int)(u:om X h p c)(w:c.Wf)(Y:∀f∈c.fr,-1000000000<=f.pins/\f.pins<=1000000000):mZ prog 167 [lQ (4,h) p.b,kq k] X (kA (c.ac8 k)) (λC _=>mV h p (c.BU k) X C):=by
 have W:=kS Dp (BR X h p c k 2 u w);have q:=u;obtain⟨m,b,d,l,A,D,_,ag,T,B⟩:=u;unfold kP.ac8 kP.BU;refine kz func167 O ntmps167 O ki [_] O λE S N n=>?_;refine wV ?_;rintro _ _ ⟨rfl,rfl⟩;cases g:c.fp k 2 with
 |none=>
  rw[show Bu p none= .pointer none from rfl];refine wV ?_;exact eJ
 |some i=>
  obtain⟨_,f,z,o⟩:=C9 g;have r:=vZ z;have s:=Y f (nF z);refine l7 (lL.Cs 8 (5,h) [i] (l0:=(0,0)) (p:= []) (v:=.pointer (some ⟨p.bf,p.off*11+i*11,none⟩)) O) ?_;simp only[z];by_cases e:f.pins=0
  .rw[kx e,la jJ];refine wV ?_;exact eJ
  .rw[ku e,kW jJ];refine wV ?_;exact ns O (mV.mJ q z (λf=>{f with pins:=f.pins- 1}) (kC _ _ _) O (λj a=>ky _ _ a)) λ_=>⟨gx,trivial⟩
def akv(X:kY)(h:Nat)(p:qq)(c:kP)(k:Int)(n:Nd)(u:om X h p c)(w:c.Wf)(B:n.es.length<=100000/\n.ks.length<=100000/\n.ps.length<=100000/\n.ms.length<=100000):mZ prog 247 [lQ (4,h) p.b,kq k,n.av] X (kA (c.fp k 2).isSome) (λC _=>mV h p (c.set k n) X C):=by
 have W:=kS Dp (BR X h p c k 2 u w);have D:=kD Dn (Mu n B);have g:=u;obtain⟨m,b,d,l,A,F,_,ag,T,G⟩:=u;unfold kP.set;refine kz func247 O ntmps247 O ki [_] O λE S N q=>?_;refine wV ?_;rintro _ _ ⟨rfl,rfl⟩;cases e:c.fp k 2 with
 |none=>
  rw[show Bu p none= .pointer none from rfl];refine wV ?_;exact ns O (mV.refl g) λ_=>⟨gx,trivial⟩
 |some i=>
  obtain⟨_,f,z,o⟩:=C9 e;have r:=vZ z;refine l7 (lL.Cs 10 (5,h) [i] (l0:=(0,0)) (p:= []) (v:=.pointer (some ⟨p.bf,p.off*11+i*11,none⟩)) O) ?_;refine wV ?_;exact ns O (mV.mJ g z (λf=>{f with nd:=n,uO:=true}) Fs O (λj a=>by rw[ky _ _ a,ky _ _ a])) λ_=>⟨gx,trivial⟩
def zX(X:kY)(h:Nat)(p:qq)(c:kP)(k:Int)(u:om X h p c)(w:c.Wf):mZ prog 129 [lQ (4,h) p.b,kq k] X (.mz [((c.node k).getD ⟨false,[],[],[],[]⟩).av,kA (c.node k).isSome]) (λC _=>C=X):=by
 have W:=kS Dp (BR X h p c k 2 u w);have e:=u;obtain⟨j,a,b,l,A,D,_,ag,T,F⟩:=u;unfold kP.node;refine kz yJ O ntmps129 O ki [_,_] O λE S N m=>?_;refine wV ?_;rintro _ _ ⟨rfl,rfl⟩;cases d:c.fp k 2 with
 |none=>
  rw[show Bu p none= .pointer none from rfl];exact dc
 |some i=>
  obtain⟨_,f,z,o⟩:=C9 d;have n:=vZ z;have G:=w.nd f (nF z);have B:=kD Dn (Mu f.nd G);simp only[z];refine l7 (lL.Cs 9 (5,h) [i] (l0:=(0,0)) (p:= []) (v:=.pointer (some ⟨p.bf,p.off*11+i*11,none⟩)) O) ?_;exact cZ
end
