/- Part of the proof, without conditions. -/
import Derived.Test.YtfkhhohdgeckdaaGreatP5
namespace Go.Proofs.YtfkhhohdgeckdaaGreat
open Go RowKit Proofs.Tryz
set_option linter.all false
set_option maxRecDepth 100000
set_option maxHeartbeats 16000000
structure aoW(n:Nd):Prop where
 leaf:n.leaf=true
 ks:n.ks= []
 ps:n.ps= []
 ms:n.ms= []
 ok:∀e∈n.es,e.key.ok=true/\e.val.ok=true
 sum:rX n.es<=248
structure aoX(n:Nd):Prop where
 leaf:n.leaf=false
 es:n.es= []
 k2:2<=n.ks.length
 k4:n.ks.length<=4
 kp:n.ps.length+1=n.ks.length
 ks:∀k∈n.ks,1<=k/\k<256
 ps:∀k∈n.ps,k.ok=true
 ms:∀m∈n.ms,m.ok=true
 sum:s5 n.ms<=205
def LL{l:List mL}(h:xa lx l=true):vF lx l:=Dy λhn=>by rw[tL hn]at h;cases h
def Lm{l:List lq}(h:As lx l=true):CN lx l:=Dy λhn=>by rw[y8 hn]at h;cases h
theorem FN{u:List Int}:∀{l:List Int} {i:Nat},oF u i l=true-> ∀k∈l,1<=k/\k<256
 | [],_,_,k,h=>fk
 |y::l,i,h,k,hk=>by
  simp only[oF,l5,nO]at h;rcases mf.1 hk with rfl|hk
  .exact⟨h.1.1.1,h.1.1.2⟩
  .exact FN h.2 k hk
theorem Iz{s:kH->kH->Int}:∀{l:List kH} {p:Option kH},nu s p l=true-> ∀k∈l,k.ok=true
 | [],_,_,k,h=>fk
 |y::l,p,h,k,hk=>by
  simp only[nu,l5]at h;rcases mf.1 hk with rfl|hk
  .exact h.1.1
  .exact Iz h.2 k hk
def Jz{n:Nd}(h:lh n=true):aoW n∨aoX n:=by
 unfold lh Ar C5 at h;rw[l5,nO]at h;obtain⟨a,b⟩:=h;cases g:n.leaf with
 |true=>
  rw[g,kx O]at a;rw[g,kx O,kx O]at b;unfold ED at a;rw[l5,nO]at a;have k:=LL a.1;refine .inl ⟨g,pE kh,pE kh,pE kh,λe L=>?_,b⟩;obtain⟨j,i,rfl⟩:=QI L;exact⟨(k j i).1,(k j i).2.1⟩
 |false=>
  rw[g,ku ki]at a;rw[g,ku ki,ku ki]at b;unfold FR sY at a;simp only[l5,nO]at a;obtain⟨⟨a,⟨⟨⟨⟨f,B⟩,p⟩,E⟩,c⟩⟩,k⟩:=a;have A:=Lm k;refine .inr ⟨g,pE a,f,B,p,FN E,Iz c,λm T=>?_,b⟩;obtain⟨j,i,rfl⟩:=QI T;exact(A j i).1
def Ro.of{k:kH}(h:k.ok=true):Ro k:=kH.EA h
def UD.of{k:Vl}(h:k.ok=true):UD k:=Vl.EA h
theorem Lu{α:Type}(f:α->List (BitVec 8))(m:α->Int):∀(l:List α),(∀a∈l,((f a).length:Int)=m a)->((l.flatMap f).length:Int)=(l.map m).sum
 | [],_=>rfl
 |a::l,h=>by rw[Dw,lA,nc,QG,Int.natCast_add,h a oO,Lu f m l (λb hb=>h b (nV _ hb))]
def abD{e:mL}(h:e.key.ok=true/\e.val.ok=true):((zb e).length:Int)=e.size:=by have a:=uK (Ro.of h.1);have b:=yr (UD.of h.2);have k:=(Ro.of h.1).1;have A:=(UD.of h.2).1;unfold zb mL.size;rw[lA,vj,vj];omega
def Oj{m:lq}(h:m.ok=true):((wm m).length:Int)=m.size:=by
 obtain⟨f,B,p,E,c,K⟩:=lq.spec h;have a:=uK (Ro.of p);have b:=yr (UD.of E);have k:=(Ro.of p).1;have A:=(UD.of E).1;unfold wm lq.size yy;rw[kx h];simp only[lA,List.length_singleton,lP,vj];by_cases e:m.kind=1
 .rw[kx e,kx e,vj];omega
 .rw[ku e,ku e];by_cases k3:m.kind=3
  .rw[kx k3,kx k3,lP];omega
  .rw[ku k3,ku k3];simp;omega
theorem Yl:∀(l:List kH),(∀k∈l,k.ok=true)->(l.flatMap BE).length<=9*l.length
 | [],_=>e1
 |k::l,h=>by
  rw[Dw,lA,sc];have a:=Yl l (λb hb=>h b (nV _ hb));have c:=uK (Ro.of (h k oO));unfold BE at*;rw[vj];omega
theorem YN:∀(l:List Int),(l.flatMap Ct).length=4*l.length
 | []=>e1
 |k::l=>by
  rw[Dw,lA,sc,LB,YN l];omega
def TT{n:Nd}(h:lh n=true):(v7 n).length<=248:=by
 rcases Jz h with f|f
 .unfold v7;rw[f.ks,f.ps,f.ms];have:=Lu zb mL.size n.es (λe L=>abD (f.ok e L));have b:=f.sum;unfold rX at b;simp only[QF,oT];omega
 .unfold v7;rw[f.es];have a:=Lu wm lq.size n.ms (λm T=>Oj (f.ms m T));have b:=f.sum;have k:=Yl n.ps f.ps;have A:=YN n.ks;have D:=f.kp;have P:=f.k4;unfold s5 at b;simp only[QF,List.nil_append,lA];omega
theorem P2:∀(l:List mL),(∀e∈l,e.key.ok=true/\e.val.ok=true)->(l.length:Int)<=rX l
 | [],_=>fY
 |e::l,h=>by
  have a:=P2 l (λb hb=>h b (nV _ hb));have c:=(Ro.of (h e oO).1).1;have k:=(UD.of (h e oO).2).1;have P:rX (e::l)=e.size+rX l:=by unfold rX;simp
  rw[P,sc];unfold mL.size;omega
theorem Lt:∀(l:List lq),(∀m∈l,m.ok=true)->(l.length:Int)<=s5 l
 | [],_=>fV
 |m::l,h=>by
  have a:=Lt l (λb hb=>h b (nV _ hb));have c:=Oj (h m oO);have k:1<=(wm m).length:=by unfold wm;simp only[lA,List.length_singleton];omega
  have P:s5 (m::l)=m.size+s5 l:=by unfold s5;simp
  rw[P,sc];omega
def TC{n:Nd}(h:lh n=true):NdR n:=by
 rcases Jz h with f|f
 .have:=P2 n.es f.ok;have:=f.sum;exact⟨λe L=>⟨Ro.of (f.ok e L).1,UD.of (f.ok e L).2⟩,by rw[f.ps];simp,by rw[f.ms];simp,by omega,by rw[f.ks];simp,by rw[f.ps];simp,by rw[f.ms];simp⟩
 .have a:=Lt n.ms f.ms;have b:=f.sum;have l:=f.k4;have A:=f.kp;exact⟨by rw[f.es];simp,λk w=>Ro.of (f.ps k w),λm T=>⟨Ro.of (lq.spec (f.ms m T)).2.2.1,UD.of (lq.spec (f.ms m T)).2.2.2.1⟩,by rw[f.es];simp,by omega,by omega,by omega⟩
def IG(n:Nd):Nat:=if n.leaf=true then n.es.length else n.ks.length
def yG(n:Nd):List (BitVec 8):= [if n.leaf=true then 1#8 else 2#8,BitVec.ofInt 8 (IG n:Nat),BitVec.ofInt 8 (n.ms.length:Nat),0#8]
def Fq(n:Nd):List (BitVec 8):=yG n++List.replicate 4 0#8++v7 n++List.replicate (248-(v7 n).length) 0#8
def Pr(b:List (BitVec 8)):List (BitVec 8):=ni ((adm b).setWidth 64) 4
def zp(b:List (BitVec 8)):(Pr b).length=4:=lP _ _
def qz(n:Nd):List (BitVec 8):=zA (Fq n) 4 (Pr (Fq n))
theorem vu(n:Nd):(yG n).length=4:=rfl
def xP{n:Nd}(h:lh n=true):(Fq n).length=256:=by
 have:=TT h;unfold Fq;simp only[lA,vu,pj];omega
def F5{n:Nd}(h:lh n=true):(qz n).length=256:=by
 unfold qz;rw[Lc _ _ _ (by rw[zp,xP h];omega),xP h]
structure uc where
 pos:Nat
 bad:Bool
deriving DecidableEq
def F9(b:List (BitVec 8))(i:Nat):Nat:=(b.getD i 0#8).toNat
def afH(b:List (BitVec 8))(i:Nat):F9 b i<=255:=by unfold F9;have:=(b.getD i 0#8).isLt;omega
def HK(b:List (BitVec 8))(i:Nat):(vg b i 1).toInt=(F9 b i:Int):=by
 have R:vg b i 1=(b.getD i 0#8).setWidth 64:=by
  unfold vg;by_cases h:i+1<=b.length
  .rw[kx h]
   have e:seg b i 1= [b[i]'kh]:=by
    unfold seg;rw[ts kh];rfl
   rw[e,nI,kQ kh];simp[uj]
  .rw[ku h,nI,pN kh];rfl
 rw[R,Zm,OL];unfold F9;have:=(b.getD i 0#8).isLt;split<;>omega
def stN(b:List (BitVec 8))(s:uc)(w:Nat):uc:=⟨s.pos+w,s.bad|| !decide (s.pos+w<=b.length)⟩
def Hn(b:List (BitVec 8))(i m:Nat):Bool:=decide (F9 b i<=m)&&decide (i+1+F9 b i<=b.length)
def D2(b:List (BitVec 8))(s:uc)(m:Nat):List (BitVec 8):=if Hn b s.pos m=true then seg b (s.pos+1) (F9 b s.pos)else[]
def stT(b:List (BitVec 8))(s:uc)(m:Nat):uc:=if Hn b s.pos m=true then⟨s.pos+1+F9 b s.pos,s.bad⟩else⟨s.pos+1,true⟩
variable {i n:Nat}
def K1{b:List (BitVec 8)}(h:i+n<=b.length):(seg b i n).length=n:=by unfold seg;rw[n5,q8];omega
def Ye(b:List (BitVec 8))(i n:Nat):(b.take (i+n)).drop i=seg b i n:=by unfold seg;rw[List.drop_take];congr 1;omega
def rdB(b:List (BitVec 8))(p:Nat)(c:Bool):AV:=.agg 3 [tp b,kq (p:Nat),kA c]
abbrev rdA(b:List (BitVec 8))(s:uc):AV:=rdB b s.pos s.bad
abbrev BI(b:List (BitVec 8))(s:uc):List (Nat×Bx):= [(1000,.var (rdA b s))]
def yB(m:Nat)(l:List (BitVec 8))(h:l.length<=m):(rj m l).toList=l++List.replicate (m- l.length) 0#8:=by
 apply wv;intro i;by_cases hi:i<m
 .have P:(rj m l).toList[i]?=some (l.getD i 0#8):=by
   rw[kQ (by simp[hi])];simp[Aj m l i hi]
  rw[P,nI];by_cases g:i<l.length
  .rw[pF g,kQ g];rfl
  .rw[o7 kh,pN kh,GQ,kx kh];rfl
 .rw[pN jY,pN jY]
variable {E:su}{nt:Nat}{ops:Array Oper}{T:Nat->Option AV}{H:Hp}{d:Option Nat}{ty:TypeId}{pos:String}{af:Array Edge}{gd:Option (Nat×Bool)}
variable {x y:Operand}{t e:TypeId}{ea:Bool}{g:Nat}
section
def aep{tx:TypeId}{bytes:Nat}{tok:Option Nat}{J:List (BitVec 8)}(n:lK nt d=true)(o:kM.ti t=some (.sl e 1 bytes ea))(j:kv T x=some (.seg g 1 1 [1] 8 8))(F:kv T y=some (.sl tok 1 (J.map lN)))(u:H g=some (.var kH.zero.av))(i:J.length<=8):
 kE prog E nt ops ⟨d,.call {callee:=.builtin .copy,args:= #[x,y],argTypes:= #[t,tx]},ty,pos,af,gd⟩ T H [g] ⟨.v (.int .i64 (J.length:Nat)),[(g,.var (kH.av ⟨0,rj 8 J⟩))]⟩:=by
 have K:min (J.map lN).length 8=J.length:=fX
 have h:=Js kM (E:=E) (nt:=nt) (ops:=ops) (T:=T) (H:=H) (d:=d) (ty:=ty) (pos:=pos) (af:=af) (gd:=gd) (x:=x) (y:=y) (t:=t) (tx:=tx) (g:=g) (off:=1) (len:=8) (cap:=8) (m:=8) (p:= [1]) (z:=kH.zero.av) (z':=kH.av ⟨0,rj 8 J⟩) (G:=(List.replicate 8 0#8).map lN) n o j F Aa u O O ki (by
  rw[K]
  show some _=some _
  congr 1
  unfold kH.av E7;rw[yB 8 J i];simp only[oq,xj,Zh,pO (yd (kX lN))];rfl)
 rwa[K]at h
def aeo{tx:TypeId}{bytes:Nat}{tok:Option Nat}{J:List (BitVec 8)}(n:lK nt d=true)(o:kM.ti t=some (.sl e 1 bytes ea))(j:kv T x=some (.seg g 1 1 [1] 16 16))(F:kv T y=some (.sl tok 1 (J.map lN)))(u:H g=some (.var Vl.zero.av))(i:J.length<=16):
 kE prog E nt ops ⟨d,.call {callee:=.builtin .copy,args:= #[x,y],argTypes:= #[t,tx]},ty,pos,af,gd⟩ T H [g] ⟨.v (.int .i64 (J.length:Nat)),[(g,.var (Vl.av ⟨0,rj 16 J⟩))]⟩:=by
 have K:min (J.map lN).length 16=J.length:=fX
 have h:=Js kM (E:=E) (nt:=nt) (ops:=ops) (T:=T) (H:=H) (d:=d) (ty:=ty) (pos:=pos) (af:=af) (gd:=gd) (x:=x) (y:=y) (t:=t) (tx:=tx) (g:=g) (off:=1) (len:=16) (cap:=16) (m:=16) (p:= [1]) (z:=Vl.zero.av) (z':=Vl.av ⟨0,rj 16 J⟩) (G:=(List.replicate 16 0#8).map lN) n o j F Aa u O O ki (by
  rw[K]
  show some _=some _
  congr 1
  unfold Vl.av E7;rw[yB 16 J i];simp only[oq,xj,Zh,pO (yd (kX lN))];rfl)
 rwa[K]at h
end
def pa(b:List (BitVec 8))(s:uc):kH×uc:=(vh (D2 b s 8),stT b s 8)
def K9(b:List (BitVec 8))(s:uc):Vl×uc:=(vX (D2 b s 16),stT b s 16)
def qT(b:List (BitVec 8))(s:uc):Int×uc:=((vg b s.pos 4).toInt,stN b s 4)
def sj(b:List (BitVec 8))(s:uc):mL×uc:=(⟨(pa b s).1,(K9 b (pa b s).2).1⟩,(K9 b (pa b s).2).2)
def Cd(b:List (BitVec 8))(k:Int)(s:uc):(Vl×BitVec 64)×uc:=if k=1 then(((K9 b s).1,0#64),(K9 b s).2)else if k=3 then((Vl.zero,vg b s.pos 8),stN b s 8)else((Vl.zero,0#64),s)
def msK(b:List (BitVec 8))(s:uc):Int:=(vg b s.pos 1).toInt
def Wm(b:List (BitVec 8))(s:uc):uc:=stN b s 1
def FG(b:List (BitVec 8))(s:uc):uc:=stN b (Wm b s) 8
def I9(b:List (BitVec 8))(s:uc):uc:=(pa b (FG b s)).2
def rN(b:List (BitVec 8))(s:uc):lq×uc:=(⟨msK b s,vg b (Wm b s).pos 8,(pa b (FG b s)).1,(Cd b (msK b s) (I9 b s)).1.1,(Cd b (msK b s) (I9 b s)).1.2⟩,(Cd b (msK b s) (I9 b s)).2)
def X8(b:List (BitVec 8))(s:uc)(m:Nat):(stT b s m).pos<=s.pos+1+m:=by
 unfold stT Hn;split
 .rename_i h;rw[l5,nO,nO]at h
  show s.pos+1+F9 b s.pos<=_
  omega
 .show s.pos+1<=_;omega
def xB(b:List (BitVec 8))(s:uc):(pa b s).2.pos<=s.pos+9:=X8 b s 8
def Sv(b:List (BitVec 8))(s:uc):(K9 b s).2.pos<=s.pos+17:=X8 b s 16
def N1(b:List (BitVec 8))(s:uc):(qT b s).2.pos<=s.pos+40:=by show s.pos+4<=_;omega
def N2(b:List (BitVec 8))(s:uc):(sj b s).2.pos<=s.pos+40:=by
 have a:=xB b s;have c:=Sv b (pa b s).2
 show(K9 b (pa b s).2).2.pos<=_
 omega
def VH(b:List (BitVec 8))(k:Int)(s:uc):(Cd b k s).2.pos<=s.pos+17:=by
 unfold Cd;split
 .exact Sv b s
 .split
  .show s.pos+8<=_;omega
  .show s.pos<=_;omega
def aa1(b:List (BitVec 8))(s:uc):(rN b s).2.pos<=s.pos+40:=by
 have a:=xB b (FG b s);have c:=VH b (msK b s) (I9 b s);have k:(FG b s).pos=s.pos+1+8:=rfl;have A:(I9 b s).pos=(pa b (FG b s)).2.pos:=rfl
 show(Cd b (msK b s) (I9 b s)).2.pos<=_
 omega
def ll{α:Type}(f:uc->α×uc):Nat->uc->List α×uc
 |0,s=>([],s)
 |n+1,s=>((ll f n s).1++[(f (ll f n s).2).1],(f (ll f n s).2).2)
theorem qN{α:Type}(f:uc->α×uc)(s:uc):∀n,(ll f n s).1.length=n
 |0=>rfl
 |n+1=>by show((ll f n s).1++[_]).length=_;rw[lA,qN f s n];rfl
theorem sA{α:Type}(f:uc->α×uc)(z:∀s,(f s).2.pos<=s.pos+40)(s:uc):∀n,(ll f n s).2.pos<=s.pos+40*n
 |0=>kK _
 |n+1=>by
  have a:=sA f z s n;have b:=z (ll f n s).2
  show(f (ll f n s).2).2.pos<=_
  omega
variable {P:Program}
variable {f:FuncId}{fn:Func}{ats:Array TypeId}{firs G J:List AV}{H1 H2:List (Nat×Bx)}
section
def abf{l:List Operand}{y:AV}(σ:Nat→Nat)(A:Ii P f J H1 y H2)(q:lK nt d=true)(C:P.funcs[f]?=some fn)(j:fn.body.isSome=true)(hnm:(fn.name== "runtime.NumGoroutine")=false)
 (hxf:kv T x=some (.fn (.func f) firs [])) (n:l.map (kv T)=G.map some) (N:G.all lS=true) (V:Jf σ H1 (firs++G) J)
 (F:pA σ H H1 H1) (hfr:pS σ H H1 H2) (U:Jj σ H1 H2=true) (hi:uH (H1.map λp=>σ p.1)=true) (I:(mR y).all (λg=>(kV g H2).isSome)=true):
 kE P E nt ops ⟨d,.call {callee:=.value x,args:=l.toArray,argTypes:=ats},ty,pos,af,gd⟩ T H ((H1.map λp=>σ p.1)) ⟨tg σ y,Cg σ H2⟩:=by
 intro T' H' u hrh hwr B a w r K Q hK;have hag:∀p∈H1,H' (σ p.1)=H (σ p.1):=λp X=>hrh _ (sM.2 ⟨p,X,rfl⟩)
 have hn':pA σ H' H1 H1:=by exact aU
 have hfr':pS σ H' H1 H2:=by exact aA
 have hxs:=rP r l G (rn n (λy I=>mv u ir)) (λz S=>l6 (mq.1 N z S));have hfv:=ml ki (r.eval ((mv u (x:=x) iV).trans hxf)) O;simp only[Rd]at hfv;obtain⟨c1,c2,R,M,e3⟩:=hfv;simp only[oe]at e3;subst e3;injection R with R;obtain⟨k,k2⟩:=V.Yi (ud M hxs);have i:=EH r.mem A (λ_=>trivial) k k2 hn' hfr' U hi I;unfold Oper.wp
 have L:(execOp a.eval ⟨d,.call {callee:=.value x,args:=l.toArray,argTypes:=ats},ty,pos,af,gd⟩).run P w= .ok (.enter f (c1++l.map a.eval).toArray) w:=by
  have hb':fn.body≠none:=fu;have hn':fn.name≠ "runtime.NumGoroutine" :=fO;have ha:(c1++l.map a.eval).toArray=c1.toArray++(l.toArray.map a.eval):=fv;rw[ha];simp[execOp,resolve,Deferred.ofValue,R,invoke,callFunc,C,hn',hb']
 exact bY
def aeb{l:List Operand}(n:lK nt d=true)(j:l.map (kv T)=G.map some)(N:G.all lS=true):kE P E nt ops ⟨d,.makeFunc (.func f) l.toArray #[],ty,pos,af,gd⟩ T H [] ⟨.fn (.func f) G [],[]⟩:=
 lO n λB T' H' a w r s D=>by have I:=rP r l G (rn j (λy F=>s y i9)) (λz e=>l6 (mq.1 N z e));refine⟨.func (.func f) (l.map a.eval).toArray #[],by simp[execOp,Instr.makeFunc],?_⟩;rw[kJ ki];exact⟨[_],by simp only[Rd];exact⟨l.map a.eval,[],rfl,I,by simp[oe]⟩,rfl⟩
end
variable {caps:List AV}
section
def qw{l:List Operand}{y:AV}(s:List (Nat×Nat))(u:Uy f J H1 y H2)(c:mO y=true)(n:lK nt d=true)
 (q:kv T x=some (.fn (.func f) [] caps)) (j:td T l=some G) (N:G.all lS=true) (e:Jf (sg s) H1 (G++caps) J)
 (B:pA (sg s) H H1 H1) (m:pS (sg s) H H1 H2) (U:Jj (sg s) H1 H2=true) (hi:uH (H1.map λp=>sg s p.1)=true):
 kE prog E nt ops ⟨d,.call {callee:=.value x,args:=l.toArray,argTypes:=ats},ty,pos,af,gd⟩ T H ((H1.map λp=>sg s p.1)) ⟨y,Cg (sg s) H2⟩:=by
 obtain⟨a,b⟩:=zw (sg s) y c;have:=n7 (E:=E) (nt:=nt) (ops:=ops) (T:=T) (H:=H) (d:=d) (ty:=ty) (pos:=pos) (af:=af) (gd:=gd) (ats:=ats) s u n q j N e B m U hi (by rw[b];rfl);rwa[a]at this
def abl{l:List Operand}{y:AV}(s:List (Nat×Nat))(u:Uy f J H1 y H2)(c:mO y=true)(n:lK nt d=true)
 (q:kv T x=some (.fn (.func f) firs [])) (j:td T l=some G) (N:G.all lS=true) (g:Jf (sg s) H1 (firs++G) J)
 (B:pA (sg s) H H1 H1) (o:pS (sg s) H H1 H2) (U:Jj (sg s) H1 H2=true) (hi:uH (H1.map λp=>sg s p.1)=true):
 kE prog E nt ops ⟨d,.call {callee:=.value x,args:=l.toArray,argTypes:=ats},ty,pos,af,gd⟩ T H ((H1.map λp=>sg s p.1)) ⟨y,Cg (sg s) H2⟩:=by
 obtain⟨a,b⟩:=zw (sg s) y c;obtain⟨fn,e,k2,k3,m⟩:=u;have:=abf (E:=E) (nt:=nt) (ops:=ops) (T:=T) (H:=H) (d:=d) (ty:=ty) (pos:=pos) (af:=af) (gd:=gd) (ats:=ats) (sg s) m n e k2 k3 q (o6 j) N g B o U hi (by rw[b];rfl);rwa[a]at this
def ah8{l:List Operand}(n:lK nt d=true)(j:td T l=some G)(N:G.all lS=true):
 kE prog E nt ops ⟨d,.makeFunc (.func f) l.toArray #[],ty,pos,af,gd⟩ T H [] ⟨.fn (.func f) G [],[]⟩:=aeb n (o6 j) N
end
noncomputable def mo(n:Nd):List (BitVec 8)×Int:=if lh n=true then(qz n,0)else([],4)
def ahU(l:List lq)(r:List kH)(n:Nat):(oh l r n).length<=l.length:=SB l r n
variable {r:AV}
def UC(h:mG P f J r)(e:∀H,BL H G J):mG P f G r:=λU w vs I=>h U w vs ((e H0).Yi I)
def anx(w:List Int): -1<=afj w/\afj w<(w.length:Int):=by
 unfold afj;rcases YT w w.length (kK _)with⟨P,_,_⟩|⟨a,N,_,P,_⟩
 .rw[P];omega
 .rw[P];omega
def aoq:AV:=.agg 2 [.fn (.func 285) [] [],.fn (.func 254) [] []]
def aor:AV:=.agg 2 [.fn (.func 284) [] [],.fn (.func 252) [] []]
def X4{n:Nd}(h:n.Gd)(l:List lq)(g:l.length<=100000):(oA n l).Sm:=by
 have a:=h.es;have b:=h.ks;have k:=h.ps;have A:=h.ms;have D:=DM l n.es;have P:=CG l n.ms;unfold oA;split
 .exact⟨by show(tH n.es l).length<=_;omega,by show n.ks.length<=_;omega,by show n.ps.length<=_;omega,by show n.ms.length<=_;omega⟩
 .exact⟨by show n.es.length<=_;omega,by show n.ks.length<=_;omega,by show n.ps.length<=_;omega,by show(ya n.ms l).length<=_;omega⟩
section
attribute [local irreducible] kE lM AW mU lL mG mC lj lT ly kN
def HY(b:List (BitVec 8))(s:uc)(w:Nat)(c:b.length<=1000000)(o:s.pos<=1000000)(a:1<=w)(d:w<=8):
 Ii prog 271 [.ptr 1000 0 [],kq (w:Nat)] (BI b s) (qU (vg b s.pos w)) (BI b (stN b s w)):=by
 obtain⟨p,e⟩:=s;have x:=an3 b p w a d kh (by dsimp only at o;omega);dsimp only at o;unfold stN BI rdA;dsimp only;cases e
 .by_cases h:p+w<=b.length
  .rw[kW h]at x⊢;exact bq
  .rw[la h]at x⊢;exact bq
 .refine nh so O ntmps271 O ki [_] O λE S=>hTF λN i=>?_;have K:=kD Ki (x);exact dh
def abG(b:List (BitVec 8))(s:uc)(c:b.length<=1000000)(o:s.pos<=900000):
 Ii prog 272 [.ptr 1000 0 [],.seg 1001 1 1 [1] 8 8] (BI b s++[(1001,.var kH.zero.av)]) (kq ((D2 b s 8).length:Nat)) (BI b (stT b s 8)++[(1001,.var (kH.av ⟨0,rj 8 (D2 b s 8)⟩))]):=by
 have x:=HY b s 1 c kh kh kh;have u:=HK b s.pos;have P:=afH b s.pos;have d:kH.av ⟨0,rj 8 []⟩=kH.zero.av:=by unfold kH.av E7 kH.zero;rw[yB 8 [] ki];rfl
 obtain⟨p,f⟩:=s;unfold stN BI rdA at x;unfold D2 stT Hn BI rdA;dsimp only at o u P x⊢;by_cases e:F9 b p<=8
 .by_cases k2:p+1+F9 b p<=b.length
  .rw[kW e,kW k2];simp only[QU,oQ];have Z:p+1<=b.length:=eY;rw[kW Z]at x;simp only[Mf,Bool.or_false]at x;have g:=K1 (b:=b) (i:=p+1) (n:=F9 b p) k2;have r:=Ye b (p+1) (F9 b p);have v:¬((8:Nat):Int)<(F9 b p:Nat):=eY;have l:¬(b.length:Int)-((p+1:Nat):Int)<(F9 b p:Nat):=eY;rw[g];refine nh Gt O J0 O ki [_] O λE S=>hTF λN j=>?_;have K:=nD so (x);refine wY ?_;apply BJ [1000] [1000];exact n7 [(1000,1000)] K O O O O gV ii ii O O O;exact O;exact O;exact ig;refine wSY ?_;rw[u];refine wY ?_;rw[r];refine Wb (aep O O O O O kh) hP ?_;exact dh
  .rw[kW e,la k2];simp only[JZ,tu,rL];rw[d];have v:¬((8:Nat):Int)<(F9 b p:Nat):=eY;exact am
 .rw[la e];simp only[yM,tu,rL];rw[d];have v:((8:Nat):Int)<(F9 b p:Nat):=eY;exact aq
def abF(b:List (BitVec 8))(s:uc)(c:b.length<=1000000)(o:s.pos<=900000):
 Ii prog 272 [.ptr 1000 0 [],.seg 1001 1 1 [1] 16 16] (BI b s++[(1001,.var Vl.zero.av)]) (kq ((D2 b s 16).length:Nat)) (BI b (stT b s 16)++[(1001,.var (Vl.av ⟨0,rj 16 (D2 b s 16)⟩))]):=by
 have x:=HY b s 1 c kh kh kh;have u:=HK b s.pos;have P:=afH b s.pos;have d:Vl.av ⟨0,rj 16 []⟩=Vl.zero.av:=by unfold Vl.av E7 Vl.zero;rw[yB 16 [] ki];rfl
 obtain⟨p,f⟩:=s;unfold stN BI rdA at x;unfold D2 stT Hn BI rdA;dsimp only at o u P x⊢;by_cases e:F9 b p<=16
 .by_cases k2:p+1+F9 b p<=b.length
  .rw[kW e,kW k2];simp only[QU,oQ];have Z:p+1<=b.length:=eY;rw[kW Z]at x;simp only[Mf,Bool.or_false]at x;have g:=K1 (b:=b) (i:=p+1) (n:=F9 b p) k2;have r:=Ye b (p+1) (F9 b p);have v:¬((16:Nat):Int)<(F9 b p:Nat):=eY;have l:¬(b.length:Int)-((p+1:Nat):Int)<(F9 b p:Nat):=eY;rw[g];refine nh Gt O J0 O ki [_] O λE S=>hTF λN j=>?_;have K:=nD so (x);refine wY ?_;apply BJ [1000] [1000];exact n7 [(1000,1000)] K O O O O gV ii ii O O O;exact O;exact O;exact ig;refine wSY ?_;rw[u];refine wY ?_;rw[r];refine Wb (aeo O O O O O kh) hP ?_;exact dh
  .rw[kW e,la k2];simp only[JZ,tu,rL];rw[d];have v:¬((16:Nat):Int)<(F9 b p:Nat):=eY;exact am
 .rw[la e];simp only[yM,tu,rL];rw[d];have v:((16:Nat):Int)<(F9 b p:Nat):=eY;exact aq
def WY(b:List (BitVec 8))(s:uc)(c:b.length<=1000000)(o:s.pos<=800000):
 Ii prog 240 [.ptr 1000 0 []] (BI b s) (pa b s).1.av (BI b (pa b s).2):=by
 have x:=abG b s c kh;unfold pa vh;dsimp only;refine nh Dt O ntmps240 O ki [_] O λE S=>hTF λN i=>?_;exact ax
def aj2(b:List (BitVec 8))(s:uc)(c:b.length<=1000000)(o:s.pos<=800000):
 Ii prog 270 [.ptr 1000 0 []] (BI b s) (K9 b s).1.av (BI b (K9 b s).2):=by
 have x:=abF b s c kh;unfold K9 vX;dsimp only;refine nh func270 O ntmps270 O ki [_] O λE S=>hTF λN i=>?_;exact ax
def alO(b:List (BitVec 8))(s:uc)(c:b.length<=1000000)(o:s.pos<=700000):
 Ii prog 238 [.ptr 1000 0 []] (BI b s) (kq (qT b s).1) (BI b (qT b s).2):=by
 have x:=HY b s 4 c kh kh kh;unfold qT;dsimp only;refine nh func238 O ntmps238 O ki [_] O λE S=>hTF λN i=>?_;have K:=nD so (x);refine wY ?_;apply BJ [1000] [1000];exact n7 [(1000,1000)] K O O O O gV ii ii O O O;exact O;exact O;exact ig;exact dh
def alP(b:List (BitVec 8))(s:uc)(c:b.length<=1000000)(o:s.pos<=700000):
 Ii prog 236 [.ptr 1000 0 []] (BI b s) (sj b s).1.av (BI b (sj b s).2):=by
 have x:=WY b s c kh;have c1:=aj2 b (pa b s).2 c (by have:=xB b s;omega);unfold sj;dsimp only;refine nh func236 O ntmps236 O ki [_] O λE S=>hTF λN i=>?_;have K:=nD Dt (x);have W:=nD func270 (c1);refine wY ?_;apply BJ [1000] [1000];exact qw [(1000,1000)] K O O O O O gV ii ii O O;exact O;exact O;exact ig;refine wY ?_;apply BJ [1000] [1000];exact qw [(1000,1000)] W O O O O O gV ii ii O O;exact O;exact O;exact ig;exact cU
def alN(b:List (BitVec 8))(s:uc)(c:b.length<=1000000)(o:s.pos<=700000):
 Ii prog 242 [.ptr 1000 0 []] (BI b s) (rN b s).1.av (BI b (rN b s).2):=by
 have x:=HY b s 1 c kh kh kh;have c1:=HY b (Wm b s) 8 c (by show s.pos+1<=_;omega) kh kh;have c2:=WY b (FG b s) c (by show s.pos+1+8<=_;omega);have d:(I9 b s).pos<=s.pos+18:=by have:=xB b (FG b s);have k:(FG b s).pos=s.pos+1+8:=rfl;show(pa b (FG b s)).2.pos<=_;omega
 have c3:=aj2 b (I9 b s) c kh;have g:=HY b (I9 b s) 8 c kh kh kh;have u:Ii prog 271 [.ptr 1000 0 [],kq (1:Nat)] (BI b s) (qU (vg b s.pos 1)) (BI b (Wm b s)):=x;have L:Ii prog 271 [.ptr 1000 0 [],kq (8:Nat)] (BI b (Wm b s)) (qU (vg b (Wm b s).pos 8)) (BI b (FG b s)):=c1;have M:Ii prog 240 [.ptr 1000 0 []] (BI b (FG b s)) (pa b (FG b s)).1.av (BI b (I9 b s)):=c2;have w:(vg b s.pos 1).toInt=msK b s:=rfl;unfold rN Cd;by_cases e:msK b s=1
 .rw[kx e];dsimp only;have t:¬msK b s=3:=eY;refine nh JY O ntmps242 O ki [_] O λE S=>hTF λN i=>?_;have K:=nD so (u);have W:=nD so (L);have z:=nD Dt (M);have Z:=nD func270 (c3);exact ai
 .rw[ku e];by_cases k3:msK b s=3
  .rw[kx k3];dsimp only;refine nh JY O ntmps242 O ki [_] O λE S=>hTF λN i=>?_;have K:=nD so (u);have W:=nD so (L);have z:=nD Dt (M);have Z:=nD so (g);exact ai
  .rw[ku k3];dsimp only;refine nh JY O ntmps242 O ki [_] O λE S=>hTF λN i=>?_;have K:=nD so (u);have W:=nD so (L);have z:=nD Dt (M);refine wY ?_;apply BJ [1000] [1000];exact qw [(1000,1000)] K O O O O O gV ii ii O O;exact O;exact O;exact ig;refine wSY ?_;rw[w];refine wY ?_;apply BJ [1000] [1000];exact qw [(1000,1000)] W O O O O O gV ii ii O O;exact O;exact O;exact ig;refine wY ?_;apply BJ [1000] [1000];exact qw [(1000,1000)] z O O O O O gV ii ii O O;exact O;exact O;exact ig;exact cU
def OP(n:Nd)(h:n.Sm):mG prog 139 [n.av] (.mz [tp (mo n).1,kq (mo n).2]):=by
 have x:=yi n h;cases A:lh n with
 |false=>
  rw[A]at x;unfold mo;rw[A,ku ki];refine kL Ds O ntmps139 O ki [_,_] O λE S N i=>?_;have K:=kD xi (x);refine wY ?_;exact oY ⟨si O,gr,trivial⟩
 |true=>
  rw[A]at x;have H:=TC A;have hb:=TT A;have L:=xP A;have P:(mo n).1=qz n:=fZ;have a:(mo n).2=0:=fZ;rw[P,a];clear P a;have c1:=alQ (yG n++List.replicate 4 0#8) n (by simp[vu]) H
  have R:yG n++List.replicate 4 0#8++v7 n++List.replicate (256-((yG n++List.replicate 4 0#8++v7 n).length:Int)).toNat 0#8=Fq n:=by
   unfold Fq
   congr 2
   simp only[lA,vu,pj];omega
  have Y:(yG n++List.replicate 4 0#8++v7 n).length=8+(v7 n).length:=by simp only[lA,vu,pj]
  have c2:=afQ (Fq n);have e:=vu n;have l:(qz n).length=(Fq n).length:=by rw[F5 A,L]
  have T:=zp (Fq n);unfold Pr at T;cases C:n.leaf with
  |true=>
   have X:yG n= [1#8,BitVec.ofInt 8 (n.es.length:Nat),BitVec.ofInt 8 (n.ms.length:Nat),0#8]:=by unfold yG IG;rw[C,kx O,kx O]
   obtain⟨j,es,k,ps,ms⟩:=n;obtain rfl:j=true:=C;dsimp only at X;refine kL Ds O ntmps139 O ki [_,_] O λE S N i=>?_;have K:=kD xi (x);have W:=nD func209 (c1);have B:=nD Du (c2);refine wZ ?_;refine Wb (aer (f:=lN) (z:=0#8) [1#8,BitVec.ofInt 8 (es.length:Nat),BitVec.ofInt 8 (ms.length:Nat),0#8] O O O O hG j7 gR j7 j7 j7) hP ?_;rw[<-X];refine wY ?_;apply BJ [25] [25];exact n7 [(1000,25)] W O O O O gV ii ii O O O;exact O;exact O;exact ig;refine wY ?_;rw[R]
   (apply WvN [25];(focus (exact FC [(1000,25)] B O O O O O gV ii ii O O));(focus (exact O));(focus exact ig))
   refine wRG ?_;refine oz ?_;refine lU (S':=⟨[(6,.own 25 1 (qz ⟨true,es,k,ps,ms⟩).length .row)],[(25,.own 5 1 ((qz ⟨true,es,k,ps,ms⟩).map lN))]⟩) g9 ?_;refine lU (lL.am6 (S':=⟨[(6,.sl (some 25) 1 ((qz ⟨true,es,k,ps,ms⟩).map lN))],[(25,.tail 5 1 ((qz ⟨true,es,k,ps,ms⟩).map lN).length)]⟩) 25 O hr hr O) ?_;refine wY ?_;exact oY ⟨pY O,gr,trivial⟩
  |false=>
   have X:yG n= [2#8,BitVec.ofInt 8 (n.ks.length:Nat),BitVec.ofInt 8 (n.ms.length:Nat),0#8]:=by unfold yG IG;rw[C,ku ki,ku ki]
   obtain⟨j,es,k,ps,ms⟩:=n;obtain rfl:j=false:=C;dsimp only at X;refine kL Ds O ntmps139 O ki [_,_] O λE S N i=>?_;have K:=kD xi (x);have W:=nD func209 (c1);have B:=nD Du (c2);refine wZ ?_;refine Wb (aer (f:=lN) (z:=0#8) [2#8,BitVec.ofInt 8 (k.length:Nat),BitVec.ofInt 8 (ms.length:Nat),0#8] O O O O hG j7 gR j7 j7 j7) hP ?_;rw[<-X];refine wY ?_;apply BJ [25] [25];exact n7 [(1000,25)] W O O O O gV ii ii O O O;exact O;exact O;exact ig;refine wY ?_;rw[R]
   (apply WvN [25];(focus (exact FC [(1000,25)] B O O O O O gV ii ii O O));(focus (exact O));(focus exact ig))
   refine wRG ?_;refine oz ?_;refine lU (S':=⟨[(6,.own 25 1 (qz ⟨false,es,k,ps,ms⟩).length .row)],[(25,.own 5 1 ((qz ⟨false,es,k,ps,ms⟩).map lN))]⟩) g9 ?_;refine lU (lL.am6 (S':=⟨[(6,.sl (some 25) 1 ((qz ⟨false,es,k,ps,ms⟩).map lN))],[(25,.tail 5 1 ((qz ⟨false,es,k,ps,ms⟩).map lN).length)]⟩) 25 O hr hr O) ?_;refine wY ?_;exact oY ⟨pY O,gr,trivial⟩
def Mn(es:List mL)(k:List Int)(t:List kH)(ms:List lq):mG prog 245 [Nd.av ⟨true,es,k,t,ms⟩] (lJ []):=by
 dsimp only[Nd.av];refine kR func245 O ntmps245 O ki [_] O λE S=>?_;have N:(!true)=false:=rfl;have i:(!false)=true:=rfl;have W:=kD uS (zP es k t ms);refine wI ?_;exact oY ⟨si O,trivial⟩
def Je(es:List mL)(m:List Int)(t:List kH)(ms:List lq)(o:uv ms)(w:m.length<=t.length+1)(k:t.length<=1000000)(A:ms.length<=1000000):mG prog 245 [Nd.av ⟨false,es,m,t,ms⟩] (lJ (Bj ⟨false,es,m,t,ms⟩ m.length)):=by
 dsimp only[Nd.av];refine kR func245 O ntmps245 O ki [_] O λE S=>?_;have N:(!true)=false:=rfl;have l:(!false)=true:=rfl;have W:=kD uS (yh es m t ms);refine wI ?_;refine lU (lL.token 3 3 0 3 O O) ?_;refine kU (λj:Nat=>⟨[(4,.ptr 4 0 []),(13,kq m.length),(14,kq j),(3,.sl (some 3) 1 ((Bj ⟨false,es,m,t,ms⟩ j).map kq))],[(4,.var (pb false (pI es) (lJ m) (rp t) (nk ms))),(3,.tail 3 1 (Bj ⟨false,es,m,t,ms⟩ j).length)]⟩) (λj=>j<=m.length) (λj=>m.length- j) 0 (kO _) ed (λj i=>?_);have g:=aal ⟨false,es,m,t,ms⟩ j;have P:=Vd ⟨false,es,m,t,ms⟩ j;by_cases c:j<m.length
 .have I:=ahU ms t j;have z:=kD yN (zR ms t j o kh kh kh);have Z:=kD func275 (Mw (oh ms t j) kh);refine wI ?_;refine⟨j+1,c,by omega,?_⟩;rw[P];exact ed
 .obtain rfl:j=m.length:=by omega
  refine wI ?_;exact oY ⟨pY O,trivial⟩
def Mt(n:Nd)(w:List Int)(e:mG prog 245 [n.av] (lJ w))(g:w.length<=1000000):mG prog 192 [n.av] (kq (afj w)):=by
 refine kR func192 O ntmps192 O ki [_] O λE S=>?_;have N:(!true)=false:=rfl;have k:(!false)=true:=rfl;have W:=kD func245 (e);refine wI ?_;refine kU (λj:Nat=>⟨[(8,lJ w),(9,kq w.length),(10,kq j),(3,kq (Ay w j).1),(4,kq (Ay w j).2)],[]⟩) (λj=>j<=w.length) (λj=>w.length- j) 0 (kO _) ed (λj i=>?_);by_cases c:j<w.length
 .have o:=HS w j c;unfold HR at o;by_cases q:(Ay w j).2<w[j]
  .rw[kx q]at o;exact cL
  .rw[ku q]at o;exact cL
 .obtain rfl:j=w.length:=by omega
  exact dY
def IT(n:Nd)(h:n.Sm)(c:n.leaf=true->EBd n.es):mG prog 130 [n.av] (kA (pf n)):=by
 have c1:=IU n h c;obtain⟨X,es,k,ps,ms⟩:=n;dsimp only[Nd.av]at c1⊢;refine kR func130 O ntmps130 O ki [_] O λE S=>?_;have N:(!true)=false:=rfl;have i:(!false)=true:=rfl;have W:=kD func191 (c1);have o:=JB ms;have A:=h.ms;dsimp only at A;cases X with
 |true=>
  exact dY
 |false=>
  have e:C5 ⟨false,es,k,ps,ms⟩=s5 ms:=rfl;rw[e]at W;exact dY
def IS(n:Nd)(h:n.Gd)(g:n.leaf=false)(l:List lq)(T:∀m∈l,m.ok=true)(U:l.length<=100000):mG prog 284 [n.av,nk l] (oA n l).av:=by
 have A:=h.ms;have c1:=agl n.ms l h.bf T kh kh;obtain⟨X,es,k,ps,ms⟩:=n;dsimp only at g c1 A;subst g;rw[show oA ⟨false,es,k,ps,ms⟩ l=⟨false,es,k,ps,ya ms l⟩from by unfold oA;rw[ku ki]];dsimp only[Nd.av];refine kL func284 O ntmps284 O ki [_] O λE S N i=>?_;have W:=kD func297 (c1);refine wA ?_;exact oY ⟨gu,trivial⟩
def Mo(n:Nd)(h:n.Gd)(g:n.leaf=true)(l:List lq)(T:∀m∈l,m.ok=true)(U:l.length<=100000):mG prog 285 [n.av,nk l] (oA n l).av:=by
 have A:=h.es;have c1:=OO n.es l h.lf T kh kh;obtain⟨X,es,k,ps,ms⟩:=n;dsimp only at g c1 A;subst g;rw[show oA ⟨true,es,k,ps,ms⟩ l=⟨true,tH es l,k,ps,ms⟩from by unfold oA;rw[kx O]];dsimp only[Nd.av];refine kL func285 O ntmps285 O ki [_] O λE S N i=>?_;have W:=kD func51 (c1);refine wA ?_;exact oY ⟨gu,trivial⟩
def Ia(n:Nd)(g:n.leaf=true):mG prog 257 [n.av] aoq:=by exact bD
def ER(n:Nd)(g:n.leaf=false):mG prog 257 [n.av] aor:=by exact bD
def Um(n:Nd)(h:n.Gd)(m:lq)(T:m.ok=true):mG prog 229 [n.av,m.av] (.mz [(x6 n m).1.av,kA (x6 n m).2]):=by
 have U:∀x∈[m],x.ok=true:=λx j=>by rw[s7.1 j];exact T
 have F:=yi (oA n [m]) (X4 h [m] ki);have P:=λg=>Mo n h g [m] U ki;have R:=λg=>IS n h g [m] U ki;cases q:lh (oA n [m])with
 |false=>
  rw[show x6 n m=(n,false)from by unfold x6;rw[ku (by rw[q];simp)]];rw[q]at F;generalize oA n [m]=x at*;cases g:n.leaf with
  |true=>
   exact a4
  |false=>
   exact aZ
 |true=>
  rw[show x6 n m=(oA n [m],true)from by unfold x6;rw[kx q]];rw[q]at F;generalize oA n [m]=x at*;cases g:n.leaf with
  |true=>
   exact a4
  |false=>
   exact aZ
def OQ(p c:Nd)(X:p.Gd)(u:c.Gd)(i:Int):mG prog 246 [p.av,c.av,kq i] (.mz [(zF p (nC p i)).av,(oA c (nC p i)).av,kq ((nC p i).length:Nat)]):=by
 have a:=X.ms;have b:=X.ps;have t:=YU X i;have M:=FY p i;have c1:=Xo p.ms p.ps i X.bf.DV kh kh;have I:=(N4 p.ms p.ps i).length_le;have c2:=Xq (D6 p.ms p.ps i) kh;rw[show(D6 p.ms p.ps i).take (Qp (D6 p.ms p.ps i))=nC p i from rfl]at c2;have c3:=abY p.ms (nC p i) t.DV kh kh;have P:=λj=>Mo c u j (nC p i) t.ok kh;have R:=λj=>IS c u j (nC p i) t.ok kh;rw[show zF p (nC p i)=⟨p.leaf,p.es,p.ks,p.ps,EJ p.ms (nC p i)⟩from rfl];generalize oA c (nC p i)=x at*;generalize nC p i=g at*;generalize D6 p.ms p.ps i=y at*;generalize EJ p.ms g=z at*;cases j:c.leaf with
 |true=>
  have l:=P j;have d:=Ia c j;clear P R;refine kL Dr O ntmps246 O ki [_,_,_] O λE S N k=>?_;have W:=kD yN (c1);have A:=kD func276 (c2);have Z:=kD func277 (c3);have Y:=kD xh (d);have V:=kD func285 (l);refine wA ?_;exact eF
 |false=>
  have l:=R j;have d:=ER c j;clear P R;refine kL Dr O ntmps246 O ki [_,_,_] O λE S N k=>?_;have W:=kD yN (c1);have A:=kD func276 (c2);have Z:=kD func277 (c3);have Y:=kD xh (d);have V:=kD func284 (l);refine wA ?_;exact oY ⟨gu,gu,gr,trivial⟩
def ab1(p c:Nd)(X:p.Gd)(u:c.Gd)(i:Int):mG prog 194 [p.av,c.av,kq i] (.mz [(ta p c i).1.av,(ta p c i).2.1.av,kA (ta p c i).2.2]):=by
 by_cases F:Jq p i
 .have M:=FY p i;have a:=X.ms;have d:=OQ p c X u i;have H:=yi (oA c (nC p i)) (X4 u _ kh);have f:(nC p i).length=0∨ ¬(nC p i).length=0:=Classical.em _;have T:ta p c i=if(nC p i).length=0∨lh (oA c (nC p i))=false then(p,c,false)else(zF p (nC p i),oA c (nC p i),true):=by unfold ta;rw[kx F]
  obtain⟨g,b,k⟩:=F;rw[T];generalize oA c (nC p i)=x at*;generalize zF p (nC p i)=y at*;generalize (nC p i).length=G at*;by_cases R:G=0
  .rw[kx (.inl R)];refine kL Gs O JX O ki [_,_,_] O λE S N j=>?_;have W:=kD Dr (d);refine wI ?_;exact eF
  .cases q:lh x with
   |false=>
    rw[q]at H;rw[kx (.inr O)];exact bm
   |true=>
    rw[q]at H;rw[ku (by rintro(h|h);exact R h;cases h)];exact bm
 .rw[show ta p c i=(p,c,false)from by unfold ta;rw[ku F]];cases g:p.leaf with
  |true=>
   exact bO
  |false=>
   by_cases b:i<0
   .refine kL Gs O JX O ki [_,_,_] O λE S N j=>?_;refine wI ?_;exact eF
   .have k:i≥(p.ks.length:Int):=Int.not_lt.1 λh=>F ⟨g,by omega,h⟩;exact bO
end
