/- Part of the proof, without conditions. -/
import Derived.Test.YtfkhhohdgeckdaaGreatP6
namespace Go.Proofs.YtfkhhohdgeckdaaGreat
open Go RowKit Proofs.Tryz
set_option linter.all false
set_option maxRecDepth 100000
set_option maxHeartbeats 16000000
def nT.nS(s:nT)(t:Int)(w:Bool):nT:=if w then {s with wr:=t}else {s with rd:=s.rd.take (Nk s.rd t)++t::s.rd.drop (Nk s.rd t)}
def mP(i:Nat)(X C:kY):Prop:=∀l,l≠(10,i)->l≠(11,i)->l≠(12,i)->C l=X l
variable {X:kY}{e:TypeId}{n b cap:Nat}{ea:Bool}{l lb:nz}{p:List Nat}{G:List AV}
def adp{tx:TypeId}{bytes:Nat}{o c:Nat}(q:kM.ti tx=some (.sl e n bytes ea))(f:X l=some (.my e n (some (b,o)) cap G)):Nt X tx n (.raw lb p (.slice (some ⟨b,o*n,none⟩) G.length c)) G:=by have:=Fh (lb:=lb) (p:=p) (c:=c) (off:=o*n) q f (k:=0) (m:=G.length) ki kh;simpa using this
variable {E:su}{nt:Nat}{ops:Array Oper}{T:Nat->Option AV}{H:Hp}{d:Option Nat}{ty:TypeId}{pos:String}{af:Array Edge}{gd:Option (Nat×Bool)}
variable {t:TypeId}{es len:Nat}{x lo:Operand}{k:IntKind}
section
def ann{bytes:Nat}{o:Nat}(r:kM.ti t=some (.sl e es bytes ea))(j:kv T x=some (.raw lb p (sv es (some (b,o)) (len+1) cap)))(g:kv T lo=some (.v (.int k 1)))(f:len+1<=cap)(q:lK nt d=true):
 kE prog E nt ops ⟨d,.slice t x (some lo) none none,ty,pos,af,gd⟩ T H [] ⟨.raw lb p (sv es (some (b,if cap=1 then o else o+1)) len (cap- 1)),[]⟩:=by
 have:=HI (E:=E) (ops:=ops) (H:=H) (ty:=ty) (pos:=pos) (af:=af) (gd:=gd) r j (Jb (n:=1) g O) L3 L3 ki kh f (kK _) q;by_cases c:cap=1
 .subst c;simpa[sv]using this
 .have P:o*es+1*es=(o+1)*es:=by rw[lZ]
  simp only[c,rL]at this⊢;rw[P]at this;exact this
end
def nT.Tk:Nat->nT->nT×List Int
 |0,s=>(s,[])
 |n+1,s=>match s.qu with
  | []=>(s,[])
  |w::q=>if s.SK w.2 then(((nT.Tk n (({s with qu:=q}:nT).nS w.1 w.2)).1),w.1::(nT.Tk n (({s with qu:=q}:nT).nS w.1 w.2)).2)else(s,[])
def nT.lets(s:nT):nT×List Int:=nT.Tk s.qu.length s
def YV(s:nT)(t:Int)(w:Bool):(s.nS t w).qu=s.qu:=by unfold nT.nS;cases w<;>rfl
def afm(s:nT)(t:Int)(w:Bool):(s.nS t w).rd.length<=s.rd.length+1:=by
 unfold nT.nS;cases w
 .have:=W4 s.rd t;simp;omega
 .simp
def ae3{s:nT}(h:s.qu= []):s.lets=(s,[]):=by unfold nT.lets;rw[h];rfl
variable {q:List (Int×Bool)}
def aio{s:nT}{w:Int×Bool}(h:s.qu=w::q)(c:s.SK w.2=false):s.lets=(s,[]):=by
 unfold nT.lets;rw[h];simp only[List.length_cons,nT.Tk,h,c];rfl
def aip{s:nT}{w:Int×Bool}(h:s.qu=w::q)(c:s.SK w.2=true):s.lets=(((({s with qu:=q}:nT).nS w.1 w.2).lets).1,w.1::((({s with qu:=q}:nT).nS w.1 w.2).lets).2):=by
 unfold nT.lets;rw[h,YV];simp only[List.length_cons,nT.Tk,h,c];rfl
def nT.can(s:nT)(t:Int)(w:Bool):Bool:=s.may t&&(decide (s.qu.length=0)&&s.SK w)
def nT.take(s:nT)(t:Int)(w:Bool):nT:=if s.may t then(if s.can t w then s.nS t w else {s with qu:=s.qu++[(t,w)]})else s
variable {α:Type}
def ym(l:List α)(i:Int):List α:=if 0<=i then l.take i.toNat++l.drop (i.toNat+1)else l
def nT.out(s:nT)(t:Int):nT:=⟨ym s.rd (lF s.rd t),if s.wr=t then-1 else s.wr,ym s.qu (s.wq t)⟩
def nT.drop(s:nT)(t:Int):nT×List Int:=if t<0 then(s,[])else(s.out t).lets
def LO(l:List α)(i:Int):(ym l i).length<=l.length:=by
 unfold ym;split
 .simp;omega
 .omega
def LN{l:List α}{i:Int}(h:¬0<=i):ym l i=l:=ku h
variable {i:Nat}
def v5{l:List α}:ym l (i:Int)=l.take i++l.drop (i+1):=by unfold ym;rw[kx kh];rfl
theorem LF(x:Int):∀(l:List Int) (i:Nat),n9 x i l<i+l.length
 | [],i=>by rw[To];simp;omega
 |y::l,i=>by
  rw[n9];split
  .simp;omega
  .have:=LF x l (i+1);simp only[List.length_cons];omega
def LD(l:List Int)(x:Int):lF l x<l.length:=by
 have:=LF x l 0;unfold lF;omega
def am0(s:nT)(t:Int):s.wq t<s.qu.length:=by have:=LD (s.qu.map (·.1)) t;rw[kX]at this;exact this
variable {A:Option (Nat×Nat)}
variable {Y Z:kY}
variable {xb:XB}
section
attribute [local irreducible] kE lM AW mU lL mG mC lj lT ly kN Nk
def RR(X:kY)(l:nz)(A:Option (Nat×Nat))(cap:Nat)(G:List AV)(f:X l=some (.my 3 1 A cap G))(g:G.length<=1000000):mZ prog 96 [.raw l [] (sv 1 A G.length cap)] X (.sl none 1 G) (λC _=>C=X):=by
 refine nW AT O J2 O ki [_] O λE S=>hTF λN i=>?_;refine pB O f λz Z b3=>?_;cases A with
 |none=>
  exact dy
 |some A=>
  exact aN
def Pg(X:kY)(l:nz)(A:Option (Nat×Nat))(cap:Nat)(G:List AV)(f:X l=some (.my 226 2 A cap G))(g:G.length<=1000000):mZ prog 112 [.raw l [] (sv 2 A G.length cap)] X (.sl none 2 G) (λC _=>C=X):=by
 refine nW func112 O ntmps112 O ki [_] O λE S=>hTF λN i=>?_;refine pB O f λz Z b3=>?_;cases A with
 |none=>
  exact dy
 |some A=>
  exact aN
def x5{Q:Option (Nat×Nat)}{ca cq:Nat}{s:nT}(a:X (10,i)=some (.var b (tI i A Q ca cq s)))(c:X (11,i)=some (.my 3 1 A ca (s.rd.map kq)))(k:X (12,i)=some (.my 226 2 Q cq (s.qu.map oU)))(H:s.rd.length<=100000)(E:s.qu.length<=100000):sx X i b s:=⟨⟨A,ca,Q,cq,a,c,k⟩,H,E⟩
def mP.refl(i:Nat)(X:kY):mP i X X:=λ_ _ _ _=>rfl
def mP.trans(h:mP i X Y)(p:mP i Y Z):mP i X Z:=λl a b c=>(p l a b c).trans (h l a b c)
def mP.put(h:l=(10,i)∨l=(11,i)∨l=(12,i)):mP i X (X.put l xb):=λj a b c=>ky _ _ (by rintro rfl;rcases h with h|h|h<;>contradiction)
def acO(X:kY)(i b:Nat)(s:nT)(t:Int)(w:Bool)(h:sx X i b s)(g:s.rd.length<100000):mZ prog 243 [lQ (10,i) b,kq t,kA w] X (.mz []) (λC _=>mP i X C/\sx C i b (s.nS t w)):=by
 obtain⟨A,ca,Q,cq,a,c,k⟩:=h.ex;have K:=h.rl;have f:=h.ql;unfold tI at a;unfold nT.nS;have hb:=W4 s.rd t;have P:(s.rd.map kq).length<=1000000:=fy;have c1:=kD func273 (ab0 s.rd t kh);have c2:=kS func274 (amX X (11,i) A ca (Nk s.rd t) t (s.rd.map kq) c jA P);cases w
 .refine kz JW O ntmps243 O ki [] O λE S N j=>?_;refine wH ?_
  (apply Ws;(focus (exact PK (11,i) (M':=λC _=>∃R L,C=(X.put (11,i) (.my 3 1 R L ((s.rd.map kq).take (Nk s.rd t)++kq t::(s.rd.map kq).drop (Nk s.rd t)))).put (10,i) (.var b (.agg 4 [kq 0,.raw (11,i) [] (sv 1 R ((s.rd.map kq).length+1) L),kq s.wr,.raw (12,i) [] (sv 2 Q (s.qu.map oU).length cq)]))) O O O O (λC y h=>by
   obtain⟨R,L,rfl,e⟩:=h;exact⟨_,_,_,_,_,_,(ky _ _ ki).trans a,rfl,rfl,rfl,rfl,rfl,rfl,R,L,by rw[e];rfl⟩)));(focus exact ig))
  refine wH ?_;refine Kv iJ O λC y h=>?_;obtain⟨R,L,rfl⟩:=h;have D:(s.rd.take (Nk s.rd t)++t::s.rd.drop (Nk s.rd t)).length=s.rd.length+1:=fy;refine⟨undef,⟨(mP.put (.inr (.inl O))).trans (mP.put (.inl O)),x5 (A:=R) (ca:=L) (Q:=Q) (cq:=cq) ?_ ?_ ?_ ?_ f⟩,trivial⟩
  .rw[kC];simp[tI];omega
  .rw[ky _ _ ki,kC];simp
  .rw[ky _ _ ki,ky _ _ ki];exact k
  .simp;omega
 .refine kz JW O ntmps243 O ki [] O λE S N j=>?_;refine wH ?_;exact uq (v:=undef) (.inr O) O ⟨mP.put (.inl O),x5 (A:=A) (ca:=ca) (Q:=Q) (cq:=cq) jv (by rw[ky _ _ ki];exact c) (by rw[ky _ _ ki];exact k) K f⟩ λ_=>trivial
def Nx(X:kY)(i b:Nat)(s:nT)(h:sx X i b s):mZ prog 67 [lQ (10,i) b] X (lJ s.rd) (λC _=>C=X):=by
 obtain⟨A,g,Q,q,a,c,k⟩:=h.ex;have K:=h.rl;unfold tI at a;have P:(s.rd.map kq).length<=1000000:=fy;have c2:=lH AT (RR X (11,i) A g (s.rd.map kq) c P);refine kz func67 O ntmps67 O ki [_] O λE S N j=>?_;refine wH ?_;exact uq (v:=undef) (.inr O) O O λ_=>⟨gw,trivial⟩
def XL(X:kY)(i b:Nat)(s:nT)(h:sx X i b s):mZ prog 69 [lQ (10,i) b] X (.sl none 2 (s.qu.map oU)) (λC _=>C=X):=by
 obtain⟨A,g,Q,q,a,c,k⟩:=h.ex;have f:=h.ql;unfold tI at a;have P:(s.qu.map oU).length<=1000000:=fy;have c2:=lH func112 (Pg X (12,i) Q q (s.qu.map oU) k P);refine kz func69 O ntmps69 O ki [_] O λE S N j=>?_;refine wH ?_;exact uq (v:=undef) (.inr O) O O λ_=>⟨gw,trivial⟩
def amY(X:kY)(i b:Nat)(s:nT)(t:Int)(h:sx X i b s):mZ prog 165 [lQ (10,i) b,kq t] X (kA (s.has t)) (λC _=>C=X):=by
 have K:=h.rl;unfold nT.has;have c1:=lH func67 (Nx X i b s h);have c2:=lH func68 (KE X i b s h);have c3:=kD Gv (yQ s.rd t kh);refine kz func165 O ntmps165 O ki [_] O λE S N j=>?_;by_cases e:s.wr=t
 .rw[kW e];refine wH ?_;exact uq (v:=undef) (.inr O) O O λ_=>⟨gx,trivial⟩
 .rw[la e];refine wH ?_;exact uq (v:=undef) (.inr O) O O λ_=>⟨gx,trivial⟩
section
attribute [local irreducible] nT.lets nT.SK nT.nS
def amW(X:kY)(i b:Nat)(s:nT)(h:sx X i b s)(g:s.rd.length+s.qu.length<=90000):mZ prog 228 [lQ (10,i) b] X (lJ s.lets.2) (λC _=>mP i X C/\sx C i b s.lets.1):=by
 refine kz func228 O ntmps228 O ki [_] O λE S N m=>?_;refine wH ?_;refine lU (lL.token 3 3 0 3 O O) ?_;refine kU (λj:kY×nT×List Int=>⟨[(0,lQ (10,i) b),(3,.sl (some 3) 1 (j.2.2.map kq))],[(4999,.ext (Sg j.1)),(3,.tail 3 1 j.2.2.length)]⟩) (λj=>mP i X j.1/\sx j.1 i b j.2.1/\j.2.1.rd.length+j.2.1.qu.length<=90000/\j.2.1.qu.length+j.2.2.length<=90000/\s.lets=(j.2.1.lets.1,j.2.2++j.2.1.lets.2)) (λj=>j.2.1.qu.length) (X,s,[]) ⟨mP.refl i X,h,g,by simp;omega,by simp⟩ ed (λj k=>?_);obtain⟨Y,u,inn⟩:=j;obtain⟨e,F,G,I,K⟩:=k;dsimp only at e F G I K⊢;obtain⟨A,p,Q,r,a,c,l⟩:=F.ex;have H:=a;unfold tI at a;rcases hq:u.qu with _|⟨⟨t,w⟩,q⟩
 .rw[ae3 hq]at K;have B:¬(((u.qu.map oU).length:Nat):Int)>0:=by rw[hq];simp
  exact cG
 .have B:(((u.qu.map oU).length:Nat):Int)>0:=by rw[hq];simp
  have J:(0:Nat)<(u.qu.map oU).length:=by rw[hq];simp
  have T:u.qu.map oU= .agg 2 [kq t,kA w]::q.map oU:=by rw[hq];rfl
  rw[T]at a l B;have c1:0<(((AV.agg 2 [kq t,kA w]::q.map oU).length:Nat):Int):=B;have J:0<(AV.agg 2 [kq t,kA w]::q.map oU).length:=e1;have W:=lH J1 (U5 Y i b u w F);refine pB O l λD d b3=>?_
  obtain⟨Q,rfl⟩:∃P,Q=some P:=by
   cases Q with
   |none=>have:=(b3 O).1;cases this
   |some P=>exact⟨P,rfl⟩
  obtain⟨f,V⟩:=Q;cases U:u.SK w
  .rw[U]at W;rw[aio hq U]at K;exact cG
  .rw[U]at W;rw[aip hq U]at K;refine wH ?_;refine Wv (ann (len:=(q.map oU).length) O O O D O) hP ?_;iterate 3 refine wHs ?_
   refine Jg _ ?_;refine oz ?_;refine lU (lL.amQ O ((ky _ _ ki).trans l)) ?_
   have n:sx ((Y.put (10,i) (.var b (.agg 4 [kq 0,.raw (11,i) [] (sv 1 A (u.rd.map kq).length p),kq u.wr,.raw (12,i) [] (sv 2 (some (f,if r=1 then V else V+1)) (q.map oU).length (r- 1))]))).put (12,i) (.my 226 2 (some (f,if r=1 then V else V+1)) (r- 1) (q.map oU))) i b {u with qu:=q}:=
    x5 (s:={u with qu:=q}) iI ik jW F.rl (by have:=F.ql;rw[hq]at this;simp at this⊢;omega)
   have L:=F.rl;rw[hq]at G I;simp only[List.length_cons]at G I;have Z:u.rd.length<100000:=eY;have z:=acx JW (acO _ i b _ t w n Z);have M:=afm {u with qu:=q} t w;have R:=YV {u with qu:=q} t w;dsimp only at M R
   repeat (first|(refine xr O λC y h=>?_;have x:mP _ _ _:=h.1;have o:=h.2;clear h)|refine wHs ?_)
   refine⟨(C,({u with qu:=q}:nT).nS t w,inn++[t]),⟨(e.trans ((mP.put (.inl O)).trans (mP.put (.inr (.inr O))))).trans x,o,by dsimp only;rw[R];omega,by dsimp only;rw[R];simp;omega,by rw[K];simp⟩,by dsimp only;rw[R];simp,?_⟩
   (refine lL.sub ⟨?_,?_,?_⟩<;>repeat' (first|exact True.intro|rfl|apply And.intro))
section
attribute [local irreducible] nT.may nT.wq
def amV(X:kY)(i b:Nat)(s:nT)(t:Int)(w:Bool)(h:sx X i b s)(g:s.rd.length<100000):mZ prog 190 [lQ (10,i) b,kq t,kA w] X (kA (s.can t w)) (λC _=>mP i X C/\sx C i b (if s.can t w then s.nS t w else s)):=by
 obtain⟨A,l,Q,q,a,c,k⟩:=h.ex;unfold tI at a;unfold nT.can;have W:=lH func189 (ajD X i b s t h);have z:=lH J1 (U5 X i b s w h);have Z:=acx JW (acO X i b s t w h g);refine kz func190 O ntmps190 O ki [_] O λE S N j=>?_;cases P:s.may t
 .rw[P]at W;exact dD
 .rw[P]at W;by_cases d:s.qu.length=0
  .have x:¬(((s.qu.map oU).length:Nat):Int)>0:=by rw[kX,d];simp
   have c1:¬0<(((s.qu.map oU).length:Nat):Int):=x;rw[kW d];cases R:s.SK w
   .rw[R]at z;exact dD
   .rw[R]at z;refine wH ?_;refine Kv iJ O λC y h=>?_;exact⟨undef,h,⟨gx,trivial⟩⟩
  .have x:(((s.qu.map oU).length:Nat):Int)>0:=by rw[kX];omega
   have c1:0<(((s.qu.map oU).length:Nat):Int):=x;rw[la d];exact dD
def aks(X:kY)(i b:Nat)(s:nT)(t:Int)(w:Bool)(h:sx X i b s)(j:s.rd.length<100000)(o:s.qu.length<100000):mZ prog 128 [lQ (10,i) b,kq t,kA w] X (kA (s.can t w)) (λC _=>mP i X C/\sx C i b (s.take t w)):=by
 have W:=lH func189 (ajD X i b s t h);refine kz func128 O ntmps128 O ki [_] O λE S N l=>?_;unfold nT.take;cases P:s.may t
 .rw[P]at W;have d:s.can t w=false:=by unfold nT.can;rw[P];rfl
  rw[d];exact dD
 .rw[P]at W;have Z:=acx func190 (amV X i b s t w h j);cases d:s.can t w
  .rw[d]at Z
   repeat (first|(refine xr O λY y g=>?_;have v:mP _ _ _:=g.1;have m:sx _ _ _ s:=g.2;clear g;obtain⟨A,n,Q,q,a,c,k⟩:=m.ex;unfold tI at a)|refine wHs ?_)
   (apply Ws;(focus (exact PK (12,i) (M':=λC _=>∃Q' L,C=(Y.put (12,i) (.my 226 2 Q' L ((s.qu++[(t,w)]).map oU))).put (10,i) (.var b (tI i A Q' n L {s with qu:=s.qu++[(t,w)]}))) O O O O (λC y h=>by
    obtain⟨Q',L,rfl,e,_⟩:=h;refine⟨_,_,_,_,_,_,(ky _ _ ki).trans a,rfl,rfl,rfl,rfl,rfl,rfl,Q',L,?_⟩;rw[e,nQ];simp[tI,oU])));(focus exact ig))
   refine wH ?_;refine Kv iJ O λC y h=>?_;obtain⟨Q',L,rfl⟩:=h;exact⟨undef,⟨v.trans ((mP.put (.inr (.inr O))).trans (mP.put (.inl O))),x5 (s:={s with qu:=s.qu++[(t,w)]}) jW ik iQ m.rl jY⟩,⟨gx,trivial⟩⟩
  .rw[d]at Z
   repeat (first|(refine xr O λY y g=>?_;have v:mP _ _ _:=g.1;have m:sx _ _ _ (s.nS t w):=g.2;clear g)|refine wHs ?_)
   exact ns O (⟨v,m⟩) λ_=>⟨gx,trivial⟩
section
attribute [local irreducible] AS lF
def aku(X:kY)(i b:Nat)(s:nT)(t:Int)(h:sx X i b s)(g:s.rd.length+s.qu.length<=90000):mZ prog 166 [lQ (10,i) b,kq t] X (lJ (s.drop t).2) (λC _=>mP i X C/\sx C i b (s.drop t).1):=by
 obtain⟨A,ca,Q,cq,a,c,k⟩:=h.ex;have K:=h.rl;have T:=h.ql;unfold tI at a;unfold nT.drop;refine kz func166 O ntmps166 O ki [_] O λE S N l=>?_;by_cases y:t<0
 .rw[kx y];refine wV ?_;exact ns O (⟨mP.refl i X,h⟩) λ_=>⟨aaM O,trivial⟩
 .rw[ku y]
  repeat (first|(refine Bi (x:=.seq (.region 3 _ _) _) (λj:kY=>⟨[(0,lQ (10,i) b),(1,kq t)],[(4999,.ext (Sg j))]⟩) (λj=>mP i X j/\sx j i b {s with wr:=if s.wr=t then-1 else s.wr}) ?_ ?_)|refine tT ?_)
  .by_cases c1:s.wr=t
   .rw[kx c1];refine wV ?_;exact⟨_,⟨mP.put (.inl O),x5 (s:={s with wr:= -1}) (kC _ _ _) ((ky _ _ ki).trans c) ((ky _ _ ki).trans k) K T⟩,ed⟩
   .rw[ku c1];refine wV ?_;exact⟨X,⟨mP.refl i X,h⟩,ed⟩
  .intro Y u;obtain⟨w,o⟩:=u;generalize hs1:({s with wr:=if s.wr=t then-1 else s.wr}:nT)=d at o;have B:d.rd=s.rd:=by rw[<-hs1]
   have G:d.qu=s.qu:=by rw[<-hs1]
   have U:d.wr=if s.wr=t then-1 else s.wr:=by rw[<-hs1]
   rw[<-B]at K g;rw[<-G]at g T;have eo:s.out t=⟨ym d.rd (lF d.rd t),d.wr,ym d.qu (d.wq t)⟩:=by unfold nT.out nT.wq;rw[B,G,U]
   rw[eo];clear a c k h A ca Q cq hs1 eo B G U;obtain⟨A,ca,Q,cq,a,c,k⟩:=o.ex;unfold tI at a;have c1:=kD J8 (Re d.rd t kh);have hi1:=LD d.rd t
   repeat (first|(refine Bi (x:=.seq (.region 5 _ _) _) (λj:kY=>⟨[(0,lQ (10,i) b),(1,kq t)],[(4999,.ext (Sg j))]⟩) (λj=>mP i X j/\sx j i b {d with rd:=ym d.rd (lF d.rd t)}) ?_ ?_)|refine tT ?_)
   .by_cases e:0<=lF d.rd t
    .obtain⟨n,hn⟩:=AR e;rw[hn]at hi1 e⊢;have p:n<(d.rd.map kq).length:=fy;have H:(d.rd.map kq).length<=1000000:=fy;have c2:=kS func225 (aaj Y (11,i) A ca n _ c p H);refine wV ?_;intro W v z;subst z;refine wV ?_;have D:(d.rd.take n++d.rd.drop (n+1)).length=d.rd.length- 1:=fy;refine⟨_,⟨w.trans ((mP.put (.inr (.inl O))).trans (mP.put (.inl O))),x5 (A:=A) (ca:=ca) (Q:=Q) (cq:=cq) (s:={d with rd:=ym d.rd (n:Int)}) ?_ ?_ ?_ ?_ o.ql⟩,ed⟩
     .rw[kC,v5];simp only[tI,kX,D];rfl
     .rw[ky _ _ ki,kC,v5];simp
     .rw[ky _ _ ki,ky _ _ ki];exact k
     .rw[v5];dsimp only;omega
    .rw[LN e];refine wV ?_;exact⟨Y,⟨w,o⟩,ed⟩
   .intro Z m;obtain⟨F,L⟩:=m;have hd1:=LO d.rd (lF d.rd t);generalize R:({d with rd:=ym d.rd (lF d.rd t)}:nT)=f at L;have B:f.rd=ym d.rd (lF d.rd t):=by rw[<-R]
    have G:f.qu=d.qu:=by rw[<-R]
    have U:f.wr=d.wr:=by rw[<-R]
    rw[<-B]at hd1⊢;have eo:(⟨f.rd,d.wr,ym d.qu (d.wq t)⟩:nT)={f with qu:=ym f.qu (f.wq t)}:=by unfold nT.wq;rw[G,U]
    try rw[eo]
    rw[<-G]at g T;clear a c k A ca Q cq R eo B G U c1 hi1 K;obtain⟨A,ca,Q,cq,a,c,k⟩:=L.ex;unfold tI at a;have K:=L.rl;have c1:=lH func226 (XH Z i b f t L);have hi1:=am0 f t
    repeat (first|(refine Bi (x:=.seq (.region 8 _ _) _) (λj:kY=>⟨[(0,lQ (10,i) b),(1,kq t)],[(4999,.ext (Sg j))]⟩) (λj=>mP i X j/\sx j i b {f with qu:=ym f.qu (f.wq t)}) ?_ ?_)|refine tT ?_)
    .by_cases e:0<=f.wq t
     .obtain⟨n,hn⟩:=AR e;rw[hn]at hi1 e c1⊢;have p:n<(f.qu.map oU).length:=fy;have H:(f.qu.map oU).length<=1000000:=fy;have c2:=kS func227 (Va Z (12,i) Q cq n _ k p H);refine wV ?_;intro W v z;subst z;refine wV ?_;have D:(f.qu.take n++f.qu.drop (n+1)).length=f.qu.length- 1:=fy;refine⟨_,⟨F.trans ((mP.put (.inr (.inr O))).trans (mP.put (.inl O))),x5 (A:=A) (ca:=ca) (Q:=Q) (cq:=cq) (s:={f with qu:=ym f.qu (n:Int)}) ?_ ?_ ?_ K ?_⟩,ed⟩
      .rw[kC,v5];simp only[tI,kX,D];rfl
      .rw[ky _ _ ki,ky _ _ ki];exact c
      .rw[ky _ _ ki,kC,v5];simp
      .rw[v5];dsimp only;omega
     .rw[LN e];refine wV ?_;exact⟨Z,⟨F,L⟩,ed⟩
    .intro W z;obtain⟨r,P⟩:=z;have hd2:=LO f.qu (f.wq t);generalize hs3:({f with qu:=ym f.qu (f.wq t)}:nT)=q at P⊢;have J:q.rd.length+q.qu.length<=90000:=by rw[<-hs3];dsimp only;omega
     have c2:=kS func228 (amW W i b q P J);refine wV ?_;intro V v M;obtain⟨I,g8⟩:=M;refine wV ?_;exact ns O (⟨r.trans I,g8⟩) λ_=>⟨gw,trivial⟩
end
end
end
end
