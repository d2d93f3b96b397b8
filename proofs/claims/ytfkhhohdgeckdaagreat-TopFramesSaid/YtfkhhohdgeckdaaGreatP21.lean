/- Part of the proof, without conditions. -/
import Derived.Test.YtfkhhohdgeckdaaGreatP19
import Derived.Test.YtfkhhohdgeckdaaGreatP11
namespace Go.Proofs.YtfkhhohdgeckdaaGreat
open Go RowKit Proofs.Tryz
set_option linter.all false
set_option maxRecDepth 100000
set_option maxHeartbeats 16000000
structure Nd.In(n:Nd):Prop where
 gd:n.Gd
 kp:n.ks.length<=n.ps.length+1
 es:n.es.length<=200
 ks:n.ks.length<=4
 ps:n.ps.length<=3
 ms:n.ms.length<=200
def pD:vq.In:=⟨alo,by simp[vq],by simp[vq],by simp[vq],by simp[vq],by simp[vq]⟩
variable {α:Type}
def adR(f:α->Nat)(l:List α)(h:∀i (hi:i+1<l.length),f (l[i]'kh)<f l[i+1]):l.Pairwise λa b=>f a<f b:=by
 rw[Kg];intro i j hi k x;obtain⟨d,rfl⟩:=Nat.exists_eq_add_of_lt x
 induction d with
 |zero=>exact h i k
 |succ d y=>exact QD (y kh kh) (h (i+d+1) k)
def vF.lf{l:List mL}(h:vF lx l):Lf l:=⟨h.eok,by
 unfold IY;refine adR (λe:mL=>e.key.lV) l λi hi=>?_;have:=(h (i+1) hi).2.2 i O;rwa[qy,CU]at this⟩
def CN.bf{l:List lq}(h:CN lx l):Bf l:=⟨λm T=>by
 obtain⟨j,k,rfl⟩:=vN.1 T;exact(h j k).1,by
 unfold uv;refine adR (λe:lq=>e.key.lV) l λi hi=>?_;have:=(h (i+1) hi).2 i O;rwa[qy,CU]at this⟩
theorem Yg:∀{l:List kH} {p:Option kH},nu lx p l=true->ajn l/\ ∀q,p=some q-> ∀k∈l,q.lV<k.lV
 | [],p,_=>⟨K7,λ_ _ _ w=>by cases w⟩
 |k::l,p,h=>by
  unfold nu at h;simp only[l5]at h;obtain⟨⟨a,b⟩,m⟩:=h;obtain⟨e,k2⟩:=Yg m;refine⟨⟨λx hx=>?_,GH.2 ⟨k2 k O,e.2⟩⟩,λq c x hx=>?_⟩
  .rcases mf.1 hx with rfl|hx
   .exact a
   .exact e.1 x hx
  .subst c;have b:lx q k<0:=by simpa using b
   rw[qy,CU]at b;rcases mf.1 hx with rfl|hx
   .exact b
   .exact QD b (k2 k O x hx)
def aiK{e:mL}(h:e.key.ok=true/\e.val.ok=true):2<=e.size:=by
 have a:=kH.EA h.1;have b:=Vl.EA h.2;unfold mL.size;omega
theorem TG:∀{l:List mL},(∀e∈l,e.key.ok=true/\e.val.ok=true)->2*(l.length:Int)<=rX l
 | [],_=>fY
 |e::l,h=>by have a:=aiK (h e oO);have b:=TG (l:=l) λx j=>h x (nV _ j);unfold rX at b⊢;rw[nc,QG,sc];omega
def aij{m:lq}(h:m.ok=true):10<=m.size:=by
 obtain⟨_,_,a,b,_⟩:=lq.spec h;have k:=kH.EA a;have A:=Vl.EA b;unfold lq.size;rw[kx h];split
 .omega
 .split<;>omega
theorem TR:∀{l:List lq},(∀e∈l,e.ok=true)->10*(l.length:Int)<=s5 l
 | [],_=>fV
 |e::l,h=>by have a:=aij (h e oO);have b:=TR (l:=l) λx j=>h x (nV _ j);unfold s5 at b⊢;rw[nc,QG,sc];omega
structure Nd.Fl(n:Nd):Prop where
 leaf:n.leaf=true
 ks:n.ks= []
 ps:n.ps= []
 ms:n.ms= []
 lf:Lf n.es
 sum:rX n.es<=248
structure Nd.Fi(n:Nd):Prop where
 leaf:n.leaf=false
 es:n.es= []
 k2:2<=n.ks.length
 k4:n.ks.length<=4
 kp:n.ps.length+1=n.ks.length
 ks:∀k∈n.ks,1<=k/\k<256
 nd:n.ks.Nodup
 rs:ajn n.ps
 bf:Bf n.ms
 sum:s5 n.ms<=205
def Wr{m:List Int}{t:List kH}(h:sY lx m t=true):m.Nodup:=by
 unfold sY at h;simp only[l5,nO]at h;obtain⟨⟨_,E⟩,_⟩:=h
 have R:∀(l:List Int) (j:Nat),m.drop j=l->oF m j l=true-> ∀(i:Nat) (hi:i<m.length),j<=i->lF m m[i]=(i:Int):=by
  intro l
  induction l with
  |nil=>
   intro j g _ i hi A;have:=py List.length g;simp at this;omega
  |cons x l y=>
   intro j g w i hi A
   have k:j<m.length:=by
    rcases Ba j m.length with q|q
    .exact q
    .rw[ub q]at g;cases g
   rw[ts k]at g;injection g with P c;subst P;unfold oF at w;simp only[l5,nO]at w;by_cases e:i=j
   .subst e;exact w.1.2
   .exact y (j+1) c w.2 i hi kh
 rw[List.nodup_iff_pairwise_ne,Kg];intro i j hi k z e;have a:=R m 0 (A1) E i hi (kO _);have b:=R m 0 (A1) E j k (kO _);rw[e]at a;omega
def aiJ{n:Nd}(h:lh n=true):n.Fl∨n.Fi:=by
 have i:=h;unfold lh Ar C5 at h;rw[l5,nO]at h;obtain⟨a,b⟩:=h;rcases Jz i with f|f
 .rw[f.leaf,kx O]at a;unfold ED at a;rw[l5]at a;exact .inl ⟨f.leaf,f.ks,f.ps,f.ms,(LL a.1).lf,f.sum⟩
 .rw[f.leaf,ku ki]at a;unfold FR at a;simp only[l5]at a;obtain⟨⟨k,A⟩,D⟩:=a;have P:=A;unfold sY at P;simp only[l5]at P;exact .inr ⟨f.leaf,f.es,f.k2,f.k4,f.kp,f.ks,Wr A,(Yg P.2).1,(Lm D).bf,f.sum⟩
def Qh{n:Nd}(h:lh n=true):n.In:=by
 rcases aiJ h with f|f
 .have:=TG f.lf.ok;have:=f.sum;refine⟨⟨f.lf,by rw[f.ms];exact afW,by rw[f.ps];exact K7,by omega,by simp[f.ks],by simp[f.ps],by simp[f.ms]⟩,by simp[f.ks],by omega,by simp[f.ks],by simp[f.ps],by simp[f.ms]⟩
 .have:=TR f.bf.ok;have:=f.sum;have:=f.k4;have:=f.kp;exact⟨⟨by rw[f.es];exact Aw,f.bf,f.rs,by simp[f.es],by omega,by omega,by omega⟩,by omega,by simp[f.es],by omega,by omega,by omega⟩
def Nd.In.sm{n:Nd}(h:n.In):n.es.length<=100000/\n.ks.length<=100000/\n.ps.length<=100000/\n.ms.length<=100000:=⟨by have:=h.es;omega,by have:=h.ks;omega,by have:=h.ps;omega,by have:=h.ms;omega⟩
def alK(b:List (BitVec 8)):(mK b).1.In:=by
 unfold mK;split
 .split
  .split
   .rename_i h;have c:=h.2.1;unfold mo at c;split at c
    .rename_i z;exact Qh z
    .simp at c
   .exact pD
  .exact pD
 .exact pD
def Yh(H:kG)(k:Int):(H.read k).1.In:=by
 unfold kG.read;split
 .exact alK _
 .exact pD
abbrev Nd.Sz(n:Nd):Prop:=n.es.length<=100000/\n.ks.length<=100000/\n.ps.length<=100000/\n.ms.length<=100000
structure Nd.S4(n:Nd):Prop where
 es:n.es.length<=1000
 ks:n.ks.length<=1000
 ps:n.ps.length<=1000
 ms:n.ms.length<=1000
def Nd.In.s4{n:Nd}(h:n.In):n.S4:=⟨by have:=h.es;omega,by have:=h.ks;omega,by have:=h.ps;omega,by have:=h.ms;omega⟩
def Nd.S4.sz{n:Nd}(h:n.S4):n.Sz:=⟨by have:=h.es;omega,by have:=h.ks;omega,by have:=h.ps;omega,by have:=h.ms;omega⟩
def aiq{p:Nd}(h:p.In)(g:List lq):(zF p g).S4:=
 ⟨by have:=h.es;show p.es.length<=_;omega,by have:=h.ks;show p.ks.length<=_;omega,by have:=h.ps;show p.ps.length<=_;omega,by have:=h.ms;have:(EJ p.ms g).length<=p.ms.length:=vL _ _;show(EJ p.ms g).length<=_;omega⟩
def Pq{c:Nd}(h:c.In){l:List lq}(g:l.length<=200):(oA c l).S4:=by
 have a:=DM l c.es;have b:=CG l c.ms;have:=h.es;have:=h.ks;have:=h.ps;have:=h.ms;unfold oA;split
 .exact⟨by show(tH c.es l).length<=_;omega,by show c.ks.length<=_;omega,by show c.ps.length<=_;omega,by show c.ms.length<=_;omega⟩
 .exact⟨by show c.es.length<=_;omega,by show c.ks.length<=_;omega,by show c.ps.length<=_;omega,by show(ya c.ms l).length<=_;omega⟩
def Tw{p:Nd}(h:p.In)(i:Int):(nC p i).length<=200:=oG (FY p i) h.ms
def ahR{p c:Nd}(X:p.In)(u:c.In)(i:Int):(ta p c i).1.S4/\(ta p c i).2.1.S4:=by
 unfold ta;split
 .split
  .exact⟨X.s4,u.s4⟩
  .exact⟨aiq X _,Pq u (Tw X i)⟩
 .exact⟨X.s4,u.s4⟩
def KL{p:Nd}(h:p.es.length<=200/\p.ks.length<=4/\p.ps.length<=3/\p.ms.length<=200)(i:Int)(x:kH)(id:Int):(zY p i x id).S4:=by
 obtain⟨a,b,k,A⟩:=h
 have e:(vx p.ks p.ps i x id).1.length<=1000:=by
  unfold vx;split
  .simp[FP];omega
  .dsimp only;omega
 have k2:(vx p.ks p.ps i x id).2.length<=1000:=by
  unfold vx;split
  .simp[FQ];omega
  .dsimp only;omega
 exact⟨by show p.es.length<=_;omega,e,k2,by show p.ms.length<=_;omega⟩
def Tr{es:List mL}(h:es.length<=1000):(tJ es).1.S4/\(tJ es).2.1.S4:=by
 unfold tJ;split
 .refine⟨⟨?_,by simp[x4],by simp[x4],by simp[x4]⟩,⟨?_,by simp[x4],by simp[x4],by simp[x4]⟩⟩
  .show(es.take _).length<=_;rw[n5];omega
  .show(es.drop _).length<=_;rw[q8];omega
 .exact⟨pD.s4,pD.s4⟩
def Tt{n:Nd}(h:n.In):(vi n).1.S4/\(vi n).2.1.S4:=by
 have l2:=h.ks;have M:=h.ps;have r:=h.ms;unfold vi;dsimp only;split
 .have pl:=λi=>SB n.ms [(o5 n.ks n.ps).2.2.1] i;have F:=pl 0;have D:=pl 1;unfold o5 at F D⊢;split at F<;>rename_i u
  .rw[kx u]at D;simp only[kx u];refine⟨⟨by simp,?_,?_,?_⟩,⟨by simp,?_,?_,?_⟩⟩
   .show(n.ks.take 2).length<=_;rw[n5];omega
   .show(n.ps.take 1).length<=_;rw[n5];omega
   .dsimp only at F⊢;omega
   .show(n.ks.drop 2).length<=_;rw[q8];omega
   .show(n.ps.drop 2).length<=_;rw[q8];omega
   .dsimp only at D⊢;omega
  .simp only[ku u];rw[ku u]at D;refine⟨⟨by simp,by simp,by simp,?_⟩,⟨by simp,by simp,by simp,?_⟩⟩
   .dsimp only at F⊢;omega
   .dsimp only at D⊢;omega
 .exact⟨pD.s4,pD.s4⟩
def aaJ{p c:Nd}(X:p.In)(u:c.In)(i id:Int):(rU p c i id).1.S4/\(rU p c i id).2.1.S4/\(rU p c i id).2.2.1.S4:=by
 unfold rU;split
 .have s:=(Pq u (Tw X i)).es;have D:=Tr s;dsimp only;split
  .have g:(EJ p.ms (nC p i)).length<=p.ms.length:=vL _ _;exact⟨KL (p:=zF p (nC p i)) ⟨X.es,X.ks,X.ps,oG g X.ms⟩ _ _ _,D.1,D.2⟩
  .exact⟨X.s4,u.s4,pD.s4⟩
 .exact⟨X.s4,u.s4,pD.s4⟩
def aaK{p c:Nd}(X:p.In)(u:c.In)(i id:Int):(rV p c i id).1.S4/\(rV p c i id).2.1.S4/\(rV p c i id).2.2.1.S4:=by
 unfold rV;split
 .have D:=Tt u;dsimp only;split
  .exact⟨KL ⟨X.es,X.ks,X.ps,X.ms⟩ _ _ _,D.1,D.2⟩
  .exact⟨X.s4,u.s4,pD.s4⟩
 .exact⟨X.s4,u.s4,pD.s4⟩
def aaH{r:Nd}(H:r.In)(a b:Int):(rD r a b).1.S4/\(rD r a b).2.1.S4/\(rD r a b).2.2.1.S4:=by
 unfold rD;split
 .have D:(uL r).1.S4/\(uL r).2.1.S4:=by
   unfold uL;split
   .exact Tr (by have:=H.es;omega)
   .exact Tt H
  dsimp only;split
  .exact⟨⟨by simp,by simp,by simp,by simp⟩,D.1,D.2⟩
  .exact⟨H.s4,pD.s4,pD.s4⟩
 .exact⟨H.s4,pD.s4,pD.s4⟩
