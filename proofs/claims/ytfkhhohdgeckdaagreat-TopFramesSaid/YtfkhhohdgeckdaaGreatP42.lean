/- Part of the proof, without conditions. -/
import Derived.Test.YtfkhhohdgeckdaaGreatP41
namespace Go.Proofs.YtfkhhohdgeckdaaGreat
open Go RowKit Proofs.Tryz
set_option linter.all false
set_option maxRecDepth 100000
set_option maxHeartbeats 16000000
def wa.Ok(c:wa):Prop:=∀o∈c.ops,1<=o.kind/\o.kind<=4
structure lX.Safe(S:lX):Prop where
 hk:S.H.Bd (3*S.mb.toNat)
 pk:0<=S.mb/\S.mb<=20000
 w:S.tb.Wf
 tn:S.tb.n=S.n
 tb:S.tb.Bd S.mb
 tw:0<=S.tb.pW/\S.tb.pW<=S.mb+8
 n8:S.n<=8
 ev:S.ev.length<=2*S.mb.toNat
 cl:∀c∈S.cl,c.sd S.mb.toNat/\c.Ok
 fl:∀f∈S.fl,f.sd S.mb
 st:∀t,t<S.n->S.tb.st[t]?=some (S.st t)
variable {N:Nat}
def wa.sd.mono{M:Nat}{c:wa}(k:c.sd N)(h:N<=M):c.sd M:=⟨k.nx,oG k.n h,k.rd,k.wr,k.one,k.lt⟩
theorem TQ(G:Nat):∀(l:List Nat) {s:ox} {M:Int},(∀x∈s.wt,0<=x/\x<=M)->0<=M->0<=s.pW->s.pW<=M+8->l.length<=8->0<=(s.qm G l).pW/\(s.qm G l).pW<=M+8
 |l,s,M,h,N,i,c,g=>by
  have H:∀(l:List Nat) (s:ox) (K:Int),(∀x∈s.wt,0<=x/\x<=K)->0<=K->0<=s.pW->s.pW<=M+8->K+l.length<=M+8->0<=(s.qm G l).pW/\(s.qm G l).pW<=M+8:=by
   intro l
   induction l with
   |nil=>intro s K h F i c g;exact⟨i,c⟩
   |cons a l y=>
    intro s K h F i c g;rw[sc]at g;rw[AE];have t:=FZ h F a;split
    .exact y s K h F i c kh
    .refine y (s.DX a) (K+1) (Pt (λx j=>by have:=h x j;omega) kh a) kh ?_ ?_ kh
     .unfold ox.DX;dsimp only;split<;>omega
     .unfold ox.DX;dsimp only;split<;>omega
  exact H l s M h N i c kh
def aht{s:ox}(w:s.Wf){i:Nat}(hi:i<s.n)(f:Int)(t:Nat):(s.u6 (i:Nat) f).st[t]?=if t=i then(if s.st[t]?=some 2 then some 2 else some f)else s.st[t]? :=by
 have d:=w.n;have g:=w.st;have F:s.is (i:Nat)=true:=by unfold ox.is;simp[hi]
 have j:s.st[i]?=some s.st[i]:=kQ kh;unfold ox.u6;rw[pP];by_cases e:t=i
 .subst e;rw[kx O,j];by_cases c:s.st[t]=2
  .rw[ku (by rw[nI,j];simp[c]),kx (by rw[c]),j,c]
  .rw[kx ⟨F,by rw[nI,j];exact c⟩];dsimp only;rw[vQ kh,ku (λe=>c (by injection e))]
 .rw[ku e];split
  .dsimp only;rw[DH kh]
  .rfl
def akB(s:ox)(i c:Int):(s.u6 i c).n=s.n:=by unfold ox.u6;split<;>rfl
def Vm(s:ox)(i c:Int):(s.u6 i c).pW=s.pW:=by unfold ox.u6;split<;>rfl
theorem lX.Fg(S:lX):∀n,(S.pJ n).n=S.tb.n
 |0=>rfl
 |n+1=>by rw[S.uf,akB];exact S.Fg n
theorem lX.z0(S:lX):∀n,(S.pJ n).pW=S.tb.pW
 |0=>rfl
 |n+1=>by rw[S.uf,Vm];exact S.z0 n
theorem lX.Hm{S:lX}{N:Int}(h:S.tb.Bd N)(i:0<=N):∀n,(S.pJ n).Bd N
 |0=>h
 |n+1=>by rw[S.uf];exact(lX.Hm h i n).u6 i _ _
theorem lX.NK{S:lX}(w:S.tb.Wf)(i:S.tb.n=S.n):∀n,n<=S.n-> ∀t,(S.pJ n).st[t]?=if t<n then(if S.tb.st[t]?=some 2 then some 2 else some (S.st t))else S.tb.st[t]?
 |0,_,t=>by simp[S.R6]
 |n+1,h,t=>by
  rw[S.uf,aht (lX.zo w n) (by rw[S.Fg];omega),lX.NK w i n kh t];by_cases e:t=n
  .subst e;rw[kx O,ku (J9 _),kx (GB _)]
  .rw[ku e];by_cases c:t<n
   .rw[kx c,kx (show t<n+1 by omega)]
   .rw[ku c,ku (show¬t<n+1 by omega)]
def Vu{S:lX}{t:Nat}:S.st t=2↔ ∃c,S.cl[t]?=some c/\c.ended=true:=by
 unfold lX.st;constructor
 .intro h;split at h
  .cases h
  .split at h
   .rename_i c u;split at h
    .rename_i e;exact⟨c,u,e⟩
    .cases h
   .cases h
 .rintro⟨c,u,e⟩
  have hb:c.busy=false:=by
   unfold wa.ended at e;cases hb:c.busy
   .rfl
   .rw[hb]at e;cases e
  have T:S.may t=false:=by
   unfold lX.may;rw[u];dsimp only;rw[ku (by simp[hb]),e];rfl
  rw[ku (by simp[T]),u];dsimp only;rw[kx e]
def X3{S:lX}(w:S.tb.Wf)(i:S.tb.n=S.n)(b:∀t,S.tb.st[t]?=some 2->t<S.n->S.st t=2)(t:Nat)(s:t<S.n):S.tell.tb.st[t]?=some (S.tell.st t):=by
 have a:S.tell.tb.st[t]?=if S.tb.st[t]?=some 2 then some 2 else some (S.st t):=by
  unfold lX.tell;dsimp only;rw[lX.NK w i S.n (kK _) t,kx s]
 have k:S.tell.st t=S.st t:=rfl;rw[a,k];split
 .rename_i h;rw[b t h s]
 .rfl
structure amy(S:lX)(t:Nat)(c:wa)(N M:Nat)(S':lX):Prop where
 ex:∃H' c' ev' sq,S'={S with H:=H',cl:=S.cl.set t c',ev:=S.ev++ev',seq:=sq}/\H'.Bd (N+3)/\c'.sd (M+1)/\c'.ops=c.ops/\ev'.length<=2
def WS{S:lX}{t M:Nat}{c:wa}(u:S.cl[t]?=some c)(x:S.H.Bd N)(i:N<=80000)(z:c.sd M)(U:c.Ok)(L:c.ended=false):amy S t c N M (S.client t):=by
 have W:=(mS.1 u).1;have l:S.H.Bd (N+3):=x.mono kh;have T:=z.n;have nx:=z.nx
 have o:c.read=none->c.write=none->c.next<c.ops.length:=λb d=>by
  have d:¬c.next=c.ops.length:=λe=>by
   unfold wa.ended wa.busy at L;rw[b,d,kW e]at L;cases L
  omega
 have j:∀(J:lX) (c1:wa) (a:wG),J.cl[t]?=some c1->J.answer t a={J with ev:=J.ev++[⟨(t:Nat),(c1.next:Nat),true,a⟩],cl:=J.cl.set t {c1 with read:=none,write:=none,next:=c1.next+1}}:=λJ c1 a b=>by
  unfold lX.answer;rw[b]
 have m:∀c1:wa,c1.next=c.next->c1.ops=c.ops->c.next<c.ops.length->({c1 with read:=none,write:=none,next:=c1.next+1}:wa).sd (M+1):=λc1 P f h=>⟨by dsimp only;rw[P,f];omega,by dsimp only;omega,λw e=>(by cases e),λw e=>(by cases e),.inl rfl,λh=>(by simp at h)⟩;have D:c.read≠none∨c.write≠none->c.next<c.ops.length:=λh=>z.lt h;unfold lX.client;rw[u];dsimp only;cases R:c.read with
 |some w=>
  dsimp only
  have g:c.write=none:=by
   rcases z.one with e|e
   .rw[R]at e;cases e
   .exact e
  have b:=qP.xc x w;have d:=(z.rd w R).step (x.ok kh);have Z:=D (.inl (by rw[R];simp));split
  .rw[j _ {c with read:=some (w.step S.H).1} _ (vQ W)];exact⟨_,_,[_],S.seq,by dsimp only;rw[Gl],b,m {c with read:=some (w.step S.H).1} O O Z,rfl,by simp⟩
  .exact⟨_,{c with read:=some (w.step S.H).1},[],S.seq,by simp,b,⟨nx,by dsimp only;omega,λv e=>by injection e with e;subst e;exact d,λv e=>(by dsimp only at e;rw[g]at e;cases e),.inr g,λ_=>Z⟩,rfl,by simp⟩
 |none=>
  dsimp only;cases V:c.write with
  |some w=>
   dsimp only;have b:=o9.xc x w S.seq;have d:=(z.wr w V).step S.H S.seq;have Z:=D (.inr (by rw[V];simp));split
   .rw[j _ {c with read:=none,write:=some (w.step S.H S.seq).1.1} _ (vQ W)];exact⟨_,_,[_],_,by dsimp only;rw[Gl],b,m {c with read:=none,write:=some (w.step S.H S.seq).1.1} O O Z,rfl,by simp⟩
   .exact⟨_,{c with read:=none,write:=some (w.step S.H S.seq).1.1},[],_,by rw[oT],b,⟨nx,by dsimp only;omega,λv e=>(by cases e),λv e=>by injection e with e;subst e;exact d,.inl O,λ_=>Z⟩,rfl,by simp⟩
  |none=>
   dsimp only;have Z:=o R V;unfold lX.begin;rw[u];dsimp only;have k:c.ops[c.next]?=some c.ops[c.next]:=kQ Z;have n:=U _ (ng Z);rw[k];dsimp only;split
   .rw[j {S with ev:=S.ev++[⟨(t:Nat),(c.next:Nat),false,wG.zero⟩]} c _ u];exact⟨S.H,_,[_,_],S.seq,by dsimp only;rw[oH];rfl,l,m c O O Z,rfl,by simp⟩
   .split
    .exact⟨S.H,{c with read:=some _},[_],S.seq,rfl,l,⟨nx,by dsimp only;omega,λv e=>by injection e with e;subst e;exact λa=>(by cases a),λv e=>(by dsimp only at e;rw[V]at e;cases e),.inr V,λ_=>Z⟩,rfl,by simp⟩
    .exact⟨S.H,{c with write:=some _},[_],S.seq,rfl,l,⟨nx,by dsimp only;omega,λv e=>(by dsimp only at e;rw[R]at e;cases e),λv e=>by injection e with e;subst e;exact o9.sd.new (Ln n.1 kh),.inl R,λ_=>Z⟩,rfl,by simp⟩
variable {α:Type}{i:Nat}
def Te{l:List α}{y x:α}(h:x∈l.set i y):x∈l∨x=y:=xg h
def lX.Safe.act{S:lX}(k:S.Safe)(X:S.mb<20000){t:Nat}{p:Int}(u:S.tb.pick p=some t):(S.np t).act t=(S.np t).act t/\((S.np t).act t).tell.Safe/\((S.np t).act t).H.Ok/\((S.np t).act t).tb.Wf/\ ∀c,S.cl[t]?=some c->c.ended=false:=by
 have y:=k.n8;have D:=k.pk;have htn:t<S.n:=by have:=Ym u;rwa[k.tn]at this
 have hst0:S.st t=0:=by
  have a:=SA u;unfold ox.run at a;rw[tr]at a;have b:=a.2;unfold ox.rb at b;rw[nO,nI,k.st t htn]at b;exact b
 have hend:∀c,S.cl[t]?=some c->c.ended=false:=λc v=>by
  cases e:c.ended
  .rfl
  .have:=Vu.2 ⟨c,v,e⟩;omega
 have n:3*S.mb.toNat<=80000:=eY;have K:(S.mb+1).toNat=S.mb.toNat+1:=eY;have wP:(S.tb.rF t).Wf:=k.w.rF t;have nP:(S.tb.rF t).n=S.tb.n:=(Cy t S.tb.run k.w).2.2.2;have sP:(S.tb.rF t).st=S.tb.st:=(Cy t S.tb.run k.w).2.2.1;have bP:(S.tb.rF t).Bd (S.mb+1):=k.tb.rF k.w kh t
 have run8:S.tb.run.length<=8:=by have:=vL S.tb.rb (List.range S.tb.n);rw[Gj]at this;have:=k.tn;unfold ox.run;omega
 have oP:0<=(S.tb.rF t).pW/\(S.tb.rF t).pW<=S.mb+8:=TQ t S.tb.run (s:=S.tb) (M:=S.mb) k.tb.wt kh k.tw.1 k.tw.2 run8
 have oY:∀A:lX,A.tb=S.tb.rF t->A.mb=S.mb+1->A.H.Bd (3*(S.mb.toNat+1))->A.cl.length=S.cl.length->A.fl.length=S.fl.length->A.ev.length<=2*(S.mb.toNat+1)->(∀c∈A.cl,c.sd (S.mb.toNat+1)/\c.Ok)->(∀f∈A.fl,f.sd (S.mb+1))->(∀j,j≠t->A.cl[j]?=S.cl[j]?)->A.tell.Safe/\A.H.Ok/\A.tb.Wf/\ ∀c,S.cl[t]?=some c->c.ended=false:=λA P d G l1 l2 Y T N l=>by
  have I:A.n=S.n:=by unfold lX.n;rw[l1,l2]
  have wA:A.tb.Wf:=by rw[P];exact wP
  have tnA:A.tb.n=A.n:=by rw[P,nP,I];exact k.tn
  have r:A.tell.mb=A.mb:=rfl;have R:A.tell.mb.toNat=S.mb.toNat+1:=by rw[r,d,K]
  refine⟨⟨by rw[R];exact G,by rw[r,d];omega,lX.zo wA A.n,by show(A.pJ A.n).n=A.n;rw[A.Fg,tnA],by rw[r,d];exact lX.Hm (by rw[P];exact bP) kh A.n,?_,by show A.n<=8;omega,by rw[R];exact Y,by rw[R];exact T,by rw[r,d];exact N,λj W=>X3 wA tnA (λi hi V=>?_) j W⟩,G.ok kh,wA,hend⟩
  .show 0<=(A.pJ A.n).pW/\(A.pJ A.n).pW<=A.mb+8
   rw[A.z0,P,d];omega
  .rw[P,sP]at hi;have hin':i<S.n:=eY
   have b:S.st i=2:=by
    have:=k.st i hin';rw[hi]at this;injection this with this;exact this.symm
   obtain⟨c,v,L⟩:=Vu.1 b;have C:i≠t:=λe=>by subst e;omega
   exact Vu.2 ⟨c,(l i C).trans v,L⟩
 refine⟨O,?_⟩;have hH':(S.np t).H.Bd (3*S.mb.toNat):=k.hk;unfold lX.act;cases v:S.cl[t]? with
 |some c=>
  have g:(S.np t).cl[t]?=some c:=v;rw[g];dsimp only;have hcm:=k.cl c (nF v);obtain⟨H',c',ev',J,F,B,Z,b3,E⟩:=(WS g hH' n hcm.1 hcm.2 (hend c v)).ex
  have w:=oY ((S.np t).client t) (by rw[F];rfl) (by rw[F];rfl) (by rw[F];exact B.mono kh) (by rw[F];exact q7) (by rw[F];rfl) (by rw[F];have:=k.ev;show(S.ev++ev').length<=_;rw[lA];omega) (by
   rw[F];intro x m;rcases Te m with q|q
   .exact⟨(k.cl x q).1.mono kh,(k.cl x q).2⟩
   .subst q;exact⟨Z,λo U=>hcm.2 o (by rw[<-b3];exact U)⟩) (by rw[F];exact λf z=>(k.fl f z).mono kh) (by
   rw[F];intro j l;exact DH (pv l))
  rw[v]at w;exact w
 |none=>
  have g:(S.np t).cl[t]?=none:=v;rw[g];dsimp only;have clO:∀c∈S.cl,c.sd (S.mb.toNat+1)/\c.Ok:=λc h=>⟨(k.cl c h).1.mono kh,(k.cl c h).2⟩;cases z:(S.np t).fl[t-(S.np t).cl.length]? with
  |some f=>
   dsimp only;have hfm:=k.fl f (nF z)
   have w:=oY {S.np t with H:=(f.step (S.np t).H).2,fl:=(S.np t).fl.set (t-(S.np t).cl.length) (f.step (S.np t).H).1} O O ((qf.xc hH' f).mono kh) O q7 iH clO (λx m=>by
    rcases Te m with q|q
    .exact(k.fl x q).mono kh
    .subst q;exact hfm.step _) λ_ _=>rfl
   rw[v]at w;exact w
  |none=>
   dsimp only;have w:=oY {S.np t with H:=(S.np t).H.me.1} O O ((kG.Bd.me hH').mono kh) O O iH clO (λf z=>(k.fl f z).mono kh) λ_ _=>rfl;rw[v]at w;exact w
def lX.Safe.step{S:lX}(k:S.Safe)(p:Int):(S.step p).1.Safe:=by
 unfold lX.step;split
 .exact k
 .cases h:S.tb.pick p with
  |none=>exact k
  |some t=>exact(k.act kh h).2.1
def lX.ended(S:lX):Bool:=S.cl.all wa.ended
inductive kG.Op:kG->kG->Prop
 |pin (H:kG) (t k:Int):kG.Op H (H.pin t k).1
 |load (H:kG) (t k:Int):kG.Op H (H.load t k).1
 |take (H:kG) (t k:Int) (w:Bool):kG.Op H (H.take t k w)
 |leave (H:kG) (t k:Int):kG.Op H (H.leave t k).1
 |set (H:kG) (t k:Int) (n:Nd):kG.Op H (H.set t k n)
 |claim (H:kG) (t:Int):kG.Op H {H with c:=H.c.claim t}
 |alloc (H:kG) (t n:Int):kG.Op H (H.alloc t n).1
 |born (H:kG) (t k:Int) (n:Nd):kG.Op H (H.born t k n)
inductive kG.Go (H:kG):kG->Prop
 |refl:kG.Go H H
 |tail {H' H'':kG} (h:kG.Go H H') (o:kG.Op H' H''):kG.Go H H''
variable {H':kG}
def kG.Op.go{H:kG}(o:kG.Op H H'):kG.Go H H':=.tail .refl o
def kG.Go.trans{H S:kG}(h:kG.Go H H')(k:kG.Go H' S):kG.Go H S:=by
 induction k with
 |refl=>exact h
 |tail _ o y=>exact .tail y o
def qP.tU(w:qP)(H:kG):H.Go (w.step H).2:=by
 unfold qP.step;split
 .exact .refl
 split
 .exact(kG.Op.pin ..).go
 split
 .exact(kG.Op.load ..).go
 split
 .exact(kG.Op.take ..).go
 split
 .exact(kG.Op.leave ..).go
 .unfold qP.look;split
  .exact .refl
  .exact(kG.Op.leave ..).go
def mT.T7(r:mT)(H:kG):H.Go (r.above H).2:=by
 unfold mT.above
 repeat' split
 .exact .refl
 .exact(kG.Op.leave ..).go
 .exact(kG.Op.leave ..).go
def mT.EG(r:mT)(H:kG)(e:Int):H.Go (r.fin H e).2:=r.T7 H
def mT.L8(r:mT)(H:kG):H.Go (r.below H).2:=(kG.Op.leave ..).go
def mT.adu(r:mT)(H:kG)(p c:Nd):H.Go (r.split H p c).2:=by
 unfold mT.split;have N:H.Go (H.alloc r.t 1).1:=(kG.Op.alloc ..).go;dsimp only;split
 .refine kG.Go.trans ?_ (mT.EG _ _ _);refine kG.Go.trans ?_ (mT.L8 _ _);split
  .exact .tail (.tail (.tail N (.set ..)) (.set ..)) (.born ..)
  .exact N
 .exact(N.trans (mT.L8 _ _)).trans (mT.EG _ _ _)
def mT.aiC(r:mT)(H:kG)(p:Nd):H.Go (r.grow H p).2:=by
 unfold mT.grow;have N:H.Go (H.alloc r.t 2).1:=(kG.Op.alloc ..).go;dsimp only;split
 .refine kG.Go.trans ?_ (mT.EG _ _ _);split
  .exact .tail (.tail (.tail N (.set ..)) (.born ..)) (.born ..)
  .exact N
 .exact N.trans (mT.EG _ _ _)
def mT.tU(r:mT)(H:kG):H.Go (r.step H).2:=by
 unfold mT.step;split
 .exact .refl
 split
 .unfold mT.choose
  repeat' split
  .exact mT.EG _ _ _
  .exact .refl
  .exact mT.EG _ _ _
  .exact .refl
 split
 .exact(kG.Op.pin ..).go
 split
 .exact(kG.Op.load ..).go
 split
 .exact(kG.Op.take ..).go
 split
 .unfold mT.push;split
  .exact .refl
  split
  .dsimp only;exact((kG.Go.tail (kG.Op.set ..).go (.set ..)).trans (mT.L8 _ _)).trans (mT.EG _ _ _)
  split
  .exact .refl
  .exact mT.T7 _ _
 split
 .exact(kG.Op.claim ..).go
 split
 .exact(kG.Op.claim ..).go
 split
 .exact(kG.Op.claim ..).go
 split
 .exact r.adu _ _ _
 split
 .exact r.aiC _ _
 .exact .refl
def o9.tU(w:o9)(H:kG)(C:BitVec 64):H.Go (w.step H C).1.2:=by
 unfold o9.step;split
 .exact .refl
 split
 .exact(kG.Op.pin ..).go
 split
 .exact(kG.Op.load ..).go
 split
 .exact(kG.Op.take ..).go
 split
 .unfold o9.insert;split
  .exact .tail (kG.Op.set ..).go (.leave ..)
  .exact .refl
 split
 .rename_i r _;unfold o9.below;split
  .generalize (if r.pc=11∨H.may r.t=true then(r.step H).1.e else(0:Int))=e;split
   .exact mT.tU _ _
   .exact .tail (mT.tU _ _) (.leave ..)
  .exact mT.tU _ _
 .exact .refl
def qf.tU(f:qf)(H:kG):H.Go (f.step H).2:=by
 unfold qf.step;split
 .exact .refl
 split
 .exact(kG.Op.pin ..).go
 split
 .exact(kG.Op.load ..).go
 split
 .exact(kG.Op.take ..).go
 split
 .unfold qf.look;split
  .exact .refl
  .exact(kG.Op.leave ..).go
 split
 .split
  .unfold qf.below;exact mT.tU _ _
  .exact .refl
 .exact .refl
def lX.Md(S:lX)(t:Nat)(a:wG):(S.answer t a).H=S.H:=by unfold lX.answer;split<;>rfl
def lX.aiX(S:lX)(t:Nat):(S.begin t).H=S.H:=by
 unfold lX.begin
 repeat' split
 all_goals first|rfl|exact lX.Md _ _ _
def lX.abE(S:lX)(t:Nat):S.H.Go (S.client t).H:=by
 unfold lX.client;split
 .split
  .split
   .rw[lX.Md];exact qP.tU _ _
   .exact qP.tU _ _
  .split
   .split
    .rw[lX.Md];exact o9.tU _ _ _
    .exact o9.tU _ _ _
   .rw[lX.aiX];exact .refl
 .exact .refl
def lX.amg(S:lX){t:Nat}(h:t<S.cl.length+S.fl.length):S.H.Go (S.act t).H:=by
 unfold lX.act;split
 .exact S.abE t
 .rename_i hn;have a:=JD.1 hn;split
  .exact qf.tU _ _
  .rename_i z;have b:=JD.1 z;omega
def lX.amh(S:lX){t:Nat}(h:¬t<S.cl.length+S.fl.length):(S.act t).H=S.H.me.1:=by
 unfold lX.act;rw[JD.2 kh];dsimp only;rw[JD.2 kh]
theorem lX.akF(S:lX):S.tell.H=S.H:=rfl
structure kP.FI(c:kP):Prop where
 a:∀(i:Nat) (f:Fr),c.fr[i]?=some f->0<=f.oj->c.at_ f.oj=some i
 b:∀k i,c.at_ k=some i->0<=k/\ ∃f,c.fr[i]?=some f/\f.oj=k
 s:∀(i:Nat) (f:Fr),c.fr[i]?=some f->(f.st=0∨f.st=3)->f.oj= -1
structure kP.Le(c c':kP):Prop where
 len:c'.fr.length=c.fr.length
 fr:∀(i:Nat) (f f':Fr),c.fr[i]?=some f->c'.fr[i]?=some f'->0<=f.oj->f'.oj=f.oj/\f.st<=f'.st
def kP.Le.refl(c:kP):c.Le c:=⟨O,λi f f' h p _=>by rw[h]at p;injection p with p;subst p;exact⟨O,qH _⟩⟩
variable {c c' c'':kP}
def kP.Le.trans(h:c.Le c')(k:c'.Le c''):c.Le c'':=⟨k.len.trans h.len,λi f s a b l=>by have g:=(mS.1 a).1;have A:c'.fr[i]?=some (c'.fr[i]'(by rw[h.len];exact g)):=kQ (by rw[h.len];exact g);obtain⟨e,k2⟩:=h.fr i f _ a A l;obtain⟨k3,m⟩:=k.fr i _ s A b kh;exact⟨k3.trans e,by omega⟩⟩
def kP.Le.Br(h:c'.fr=c.fr):c.Le c':=by
 refine⟨by rw[h],λi f f' a b _=>?_⟩;rw[h,a]at b;injection b with b;subst b;exact⟨O,qH _⟩
def kP.FI.Br(k:c.FI)(h:c'.fr=c.fr)(p:c'.at_=c.at_):c'.FI:=⟨by rw[h,p];exact k.a,by rw[h,p];exact k.b,by rw[h];exact k.s⟩
def yw(c:kP)(i j:Nat)(g:Fr->Fr):(c.mJ i g).fr[j]?=if j=i then(c.fr[j]?).map g else c.fr[j]? :=by
 unfold kP.mJ;dsimp only;rw[Gw];by_cases h:j=i
 .subst h;simp
 .rw[ku h];cases c.fr[j]? with
  |none=>rfl
  |some f=>simp[pv h]
def ahG(c:kP)(i:Nat)(g:Fr->Fr):(c.mJ i g).fr.length=c.fr.length:=by unfold kP.mJ;simp
def kP.Le.mJ{g:Fr->Fr}(h:∀f,c.fr[i]?=some f->0<=f.oj->(g f).oj=f.oj/\f.st<=(g f).st):c.Le (c.mJ i g):=by
 refine⟨ahG ..,λj f f' a b k=>?_⟩;rw[yw]at b;by_cases e:j=i
 .subst e;rw[kx O,a]at b;injection b with b;subst b;exact h f a k
 .rw[ku e,a]at b;injection b with b;subst b;exact⟨O,qH _⟩
def kP.FI.mJ(k:c.FI){i:Nat}{g:Fr->Fr}(h:∀f,c.fr[i]?=some f->(g f).oj=f.oj/\((g f).st=0∨(g f).st=3->f.oj= -1)):(c.mJ i g).FI:=by
 refine⟨λj f l hb=>?_,λq j d=>?_,λj f l o=>?_⟩
 .rw[yw]at l;by_cases e:j=i
  .subst e;rw[kx O]at l;obtain⟨B,n,rfl⟩:=s9.1 l;rw[(h B n).1]at hb⊢;exact k.a j B n hb
  .rw[ku e]at l;exact k.a j f l hb
 .obtain⟨a,f,b,m⟩:=k.b q j d;refine⟨a,?_⟩;rw[yw];by_cases e:j=i
  .subst e;rw[kx O,b];exact⟨g f,rfl,(h f b).1.trans m⟩
  .rw[ku e];exact⟨f,b,m⟩
 .rw[yw]at l;by_cases e:j=i
  .subst e;rw[kx O]at l;obtain⟨B,n,rfl⟩:=s9.1 l;rw[(h B n).1];exact(h B n).2 o
  .rw[ku e]at l;exact k.s j f l o
def kP.FI.put(k:c.FI){i:Nat}{b:Int}{B U:Fr}(p:c.fr[i]?=some B)(z:B.oj= -1)(d:0<=b)(N:c.at_ b=none)(a:U.oj=b)(o:U.st≠0/\U.st≠3):((c.mJ i λ_=>U).put b i).FI:=by
 have t:∀q,((c.mJ i λ_=>U).put b i).at_ q=if q=b then some i else c.at_ q:=λq=>rfl
 have s:((c.mJ i λ_=>U).put b i).fr=(c.mJ i λ_=>U).fr:=rfl;refine⟨λj f l r=>?_,λq j n=>?_,λj f l x=>?_⟩
 .rw[s,yw]at l;rw[t];by_cases e:j=i
  .subst e;rw[kx O,p]at l;injection l with l;subst l;rw[kx a]
  .rw[ku e]at l;have:=k.a j f l r;rw[ku (λq=>by rw[q,N]at this;cases this)];exact this
 .rw[t]at n;rw[s,yw];by_cases e:q=b
  .subst e;rw[kx O]at n;injection n with n;subst n;rw[kx O,p];exact⟨d,U,rfl,a⟩
  .rw[ku e]at n;obtain⟨g,f,k2,k3⟩:=k.b q j n;refine⟨g,f,?_,k3⟩;rw[ku (λm=>by subst m;rw[p]at k2;injection k2 with k2;subst k2;omega)];exact k2
 .rw[s,yw]at l;by_cases e:j=i
  .subst e;rw[kx O,p]at l;injection l with l;subst l;rcases x with q|q
   .exact absurd q o.1
   .exact absurd q o.2
  .rw[ku e]at l;exact k.s j f l x
variable {st:Int}
def alH{k:Int}(h:c.fp k st=some i):c.at_ k=some i/\ ∃f,c.fr[i]?=some f/\f.st=st:=by
 unfold kP.fp at h;split at h
 .rename_i j l;split at h
  .rename_i f z;split at h
   .injection h with h;subst h;exact⟨l,f,z,by assumption⟩
   .cases h
  .cases h
 .cases h
def LJ{t:Int}(h:c.vw t=some i):∃f,c.fr[i]?=some f/\f.st=0:=by
 unfold kP.vw at h;split at h
 .rw[Dm]at h;obtain⟨a,b,_⟩:=h;exact eK
 .cases h
def IP{t:Int}(h:i∈c.ma t):∃f,c.fr[i]?=some f/\f.st=3/\f.own=t:=by
 unfold kP.ma at h;obtain⟨_,h⟩:=tr.1 h;split at h
 .rename_i f z;exact⟨f,z,by simpa using h⟩
 .cases h
abbrev pT(c c':kP):Prop:=c.FI->c'.FI/\c.Le c'
def pT.trans(h:pT c c')(k:pT c' c''):pT c c'':=λq=>by
 obtain⟨a,b⟩:=h q;obtain⟨l,A⟩:=k a;exact⟨l,b.trans A⟩
def pT.Br(h:c'.fr=c.fr)(p:c'.at_=c.at_):pT c c':=λk=>⟨k.Br h p,.Br h⟩
def pT.mJ{g:Fr->Fr}(h:∀f,c.fr[i]?=some f->(g f).oj=f.oj/\f.st<=(g f).st/\((g f).st=0∨(g f).st=3->f.oj= -1)):pT c (c.mJ i g):=λk=>
 ⟨k.mJ λf z=>⟨(h f z).1,(h f z).2.2⟩,.mJ λf z _=>⟨(h f z).1,(h f z).2.1⟩⟩
def pT.put{b:Int}{B U:Fr}(j:c.fr[i]?=some B)(z:c.FI->B.oj= -1)(d:0<=b)(N:c.at_ b=none)(a:U.oj=b)(o:U.st≠0/\U.st≠3):pT c ((c.mJ i λ_=>U).put b i):=λk=>
 ⟨k.put j (z k) d N a o,kP.Le.trans (c':=c.mJ i λ_=>U) (.mJ λf P e=>by
  rw[j]at P;injection P with P;subst P
  have:=z k;omega) (.Br O)⟩
def aa5(c:kP)(t b:Int):pT c (c.pin t b).1:=by
 intro k;unfold kP.pin;split
 .rename_i hb;split
  .rename_i i hi;split
   .rename_i f z;have a:pT c (c.Bp t i):=pT.trans (c':=c.mJ i λf=>{f with pins:=f.pins+1,ref:=true}) (.mJ λf z=>⟨O,qH _,k.s i f z⟩) (.Br O O);split
    .exact a k
    .exact(a.trans (c'':=(c.Bp t i).wait b t) (.Br O O)) k
   .exact⟨k,.refl _⟩
  .rename_i hi;split
   .exact pT.Br i3 i3 k
   .rename_i i z;obtain⟨f,a,d⟩:=LJ z;exact pT.trans (c':=c.leave t) (.Br O O) (pT.put (c:=c.leave t) a (λk=>k.s i f a (.inl d)) hb.1.1 hi O ⟨by show(1:Int)≠0;decide,by show(1:Int)≠3;decide⟩) k
 .exact⟨k,.refl _⟩
def RZ(c:kP)(b:Int):pT c (c.BU b):=by
 intro k;unfold kP.BU;split
 .rename_i i hi;split
  .split
   .exact⟨k,.refl _⟩
   .exact pT.mJ (λf z=>⟨O,qH _,k.s i f z⟩) k
  .exact⟨k,.refl _⟩
 .exact⟨k,.refl _⟩
def aaL(c:kP)(b:Int)(n:Nd):pT c (c.set b n):=by
 intro k;unfold kP.set;split
 .rename_i i hi;exact pT.mJ (λf z=>⟨O,qH _,k.s i f z⟩) k
 .exact⟨k,.refl _⟩
def WD(c:kP)(b:Int)(n:Nd):pT c (c.fill b n):=by
 intro k;unfold kP.fill;split
 .rename_i i hi;obtain⟨_,B,a,d⟩:=alH hi;refine pT.trans (c':=c.mJ i λf=>{f with st:=2,nd:=n}) (.mJ λf z=>?_) (.Br O O) k;rw[a]at z;injection z with z;subst z
  refine⟨O,by show B.st<=2;omega,λh=>?_⟩;rcases h with h|h
  .have:(2:Int)=0:=h;omega
  .have:(2:Int)=3:=h;omega
 .exact⟨k,.refl _⟩
def TM(c:kP)(t:Int):pT c (c.claim t):=by
 intro k;unfold kP.claim;split
 .split
  .exact pT.Br i3 i3 k
  .rename_i i z;obtain⟨f,a,b⟩:=LJ z;have hb:=k.s i f a (.inl b);refine pT.trans (c':=c.leave t) (.Br O O) (λk=>⟨k.mJ λf' N=>?_,.mJ λf' N e=>?_⟩) k
   .have N:c.fr[i]?=some f':=N;rw[a]at N;injection N with N;subst N
    exact⟨hb.symm,λ_=>hb⟩
   .have N:c.fr[i]?=some f':=N;rw[a]at N;injection N with N;subst N
    omega
 .exact⟨k,.refl _⟩
def Wx(c:kP)(t:Int):pT c (c.nS t):=by
 have H:∀(l:List Nat) (c:kP),(∀i∈l,∀f,c.fr[i]?=some f->f.oj= -1)->pT c (c.tf l Fr.empty):=by
  intro l
  induction l with
  |nil=>intro c h k;exact⟨k,.refl _⟩
  |cons i l y=>
   intro c h;have e:c.tf (i::l) Fr.empty=(c.mJ i λ_=>Fr.empty).tf l Fr.empty:=rfl;rw[e];refine pT.trans (c':=c.mJ i λ_=>Fr.empty) (λk=>⟨k.mJ λf z=>?_,.mJ λf z hb=>?_⟩) (y _ λj m f z=>?_)
   .have:=h i oO f z;exact⟨this.symm,λ_=>this⟩
   .have:=h i oO f z;omega
   .rw[yw]at z;split at z
    .obtain⟨B,_,rfl⟩:=s9.1 z;rfl
    .exact h j (nV _ m) f z
 intro k
 exact H _ c (λi hi f z=>by
  obtain⟨f',a,b,_⟩:=IP hi;rw[a]at z;injection z with z;subst z
  exact k.s i f' a (.inr b)) k
def Wh(c:kP)(t b:Int)(n:Nd):pT c (c.name t b n):=by
 intro k;unfold kP.name;split
 .rename_i hn;unfold kP.names at hn;simp only[l5,nO]at hn;obtain⟨⟨⟨hb,_⟩,_⟩,X⟩:=hn
  have N:c.at_ b=none:=by
   unfold kP.place at X;split at X
   .rename_i i _;have:(0:Int)<=(i:Int):=Kl i;omega
   .assumption
  split
  .rename_i i hi;obtain⟨f,a,d,_⟩:=IP (Ze hi);exact pT.put a (λk=>k.s i f a (.inr d)) hb N O ⟨by show(2:Int)≠0;decide,by show(2:Int)≠3;decide⟩ k
  .exact⟨k,.refl _⟩
 .exact⟨k,.refl _⟩
def XQ(H:kG)(k:Int)(n:Nd):(H.write k n).c=H.c:=by unfold kG.write;split<;>rfl
def amd(H:kG):H.Jd.1.c=H.c:=by unfold kG.Jd;rw[XQ]
theorem af9:∀(n:Nat) (H:kG),(kG.yo n H).1.c=H.c
 |0,H=>rfl
 |n+1,H=>by
  show((kG.yo n H).1.Jd.1).c=H.c
  rw[amd,af9 n H]
def kG.Op.keeps{H:kG}(o:kG.Op H H'):pT H.c H'.c:=by
 cases o with
 |pin t k=>
  unfold kG.pin;split
  .exact aa5 _ _ _
  .exact λk=>⟨k,.refl _⟩
 |load t k=>
  unfold kG.load;split
  .exact WD _ _ _
  .exact λk=>⟨k,.refl _⟩
 |take t k w=>
  unfold kG.take;split
  .split
   .exact λk=>⟨k,.refl _⟩
   .exact λk=>⟨k,.refl _⟩
  .exact λk=>⟨k,.refl _⟩
 |leave t k=>
  unfold kG.leave;split
  .split
   .split
    .exact RZ _ _
    .exact λk=>⟨k,.refl _⟩
   .exact λk=>⟨k,.refl _⟩
  .exact λk=>⟨k,.refl _⟩
 |set t k n=>
  unfold kG.set;split
  .exact aaL _ _ _
  .exact λk=>⟨k,.refl _⟩
 |claim t=>exact TM _ _
 |alloc t n=>
  unfold kG.alloc;split
  .split
   .exact Wx _ _
   .intro k;dsimp only;rw[af9];exact⟨k,.refl _⟩
  .exact λk=>⟨k,.refl _⟩
 |born t k n=>
  unfold kG.born;split
  .exact Wh _ _ _ _
  .exact λk=>⟨k,.refl _⟩
def kG.Go.keeps{H:kG}(h:H.Go H'):pT H.c H'.c:=by
 induction h with
 |refl=>exact λk=>⟨k,.refl _⟩
 |tail _ o y=>exact y.trans o.keeps
theorem Hs(v:List Bool)(n f:Nat):∀(k i:Nat) (left:List Bool),(pG v n f k i left).1= -1∨v.getD (pG v n f k i left).1.toNat false=true
 |0,i,left=>.inl O
 |k+1,i,left=>by
  unfold pG;split
  .split
   .exact Hs v n f k _ _
   .refine .inr ?_;dsimp only;rw[pP];assumption
  .exact Hs v n f k _ _
def TF(B:¬c.Ha.1<0):∃f,c.fr[c.Ha.1.toNat]?=some f/\f.st=2/\f.pins=0:=by
 have h:c.Ha.1= -1∨(c.fr.map Fr.can).getD c.Ha.1.toNat false=true:=by
  unfold kP.Ha Iq;split
  .exact .inl O
  .exact Hs _ _ _ _ _ _
 rcases h with h|h
 .omega
 .rw[nI,oI]at h;cases z:c.fr[c.Ha.1.toNat]? with
  |none=>rw[z]at h;cases h
  |some f=>
   rw[z]at h;refine⟨f,rfl,?_⟩;have h:f.can=true:=h;unfold Fr.can at h;simpa using h
def afx(j:Nat){f f':Fr}(h:c.fr[j]?=some f)(p:c.me.1.fr[j]?=some f'):(f'.oj=f.oj/\f'.st=f.st/\f'.pins=f.pins)∨(f.pins=0/\f.st=2/\f'.oj= -1/\f'.st=0):=by
 unfold kP.me at p;split at p
 .rw[h]at p;injection p with p;subst p;exact .inl ⟨O,rfl,rfl⟩
 .rename_i hn;obtain⟨g,a,b,k⟩:=TF hn;rw[a]at p;dsimp only at p;by_cases e:j=c.Ha.1.toNat
  .subst e;rw[a]at h;injection h with h;subst h
   rw[vQ iA]at p;injection p with p;subst p;exact .inr ⟨k,b,rfl,rfl⟩
  .rw[DH (pv e),sn,h]at p;injection p with p;subst p;exact .inl ⟨O,rfl,rfl⟩
def afw(c:kP):c.me.1.fr.length=c.fr.length:=by
 unfold kP.me;split
 .rfl
 .split
  .rfl
  .simp
def afy(k:c.FI):c.me.1.FI:=by
 by_cases hn:c.Ha.1<0
 .unfold kP.me;rw[kx hn];exact k
 .obtain⟨g,a,b,m⟩:=TF hn
  have s:∀q,c.me.1.at_ q=if q=g.oj then none else c.at_ q:=λq=>by
   unfold kP.me;rw[ku hn,a]
  have r:∀j,c.me.1.fr[j]?=if j=c.Ha.1.toNat then some Fr.empty else(c.fr[j]?).map λf=>{f with ref:=c.Ha.2.2.getD j false}:=λj=>by
   unfold kP.me;rw[ku hn,a];dsimp only;by_cases e:j=c.Ha.1.toNat
   .subst e;rw[vQ iA,kx O]
   .rw[DH (pv e),sn,ku e]
  refine⟨λj f l hb=>?_,λq j n=>?_,λj f l o=>?_⟩
  .rw[r]at l;split at l
   .injection l with l;subst l;have:(0:Int)<= -1:=hb;omega
   .rename_i e;obtain⟨B,p,rfl⟩:=s9.1 l;have A:=k.a j B p hb;rw[s];rw[ku]
    .exact A
    .intro d;have d:B.oj=g.oj:=d;have D:=k.a _ g a (by rw[<-d];exact hb);rw[<-d,A]at D;injection D with D;exact e D
  .rw[s]at n;split at n
   .cases n
   .rename_i e;obtain⟨i,f,k2,k3⟩:=k.b q j n;refine⟨i,?_⟩;rw[r];rw[ku (λd=>by subst d;rw[a]at k2;injection k2 with k2;subst k2;exact e k3.symm),k2];exact⟨_,rfl,k3⟩
  .rw[r]at l;split at l
   .injection l with l;subst l;rfl
   .obtain⟨B,p,rfl⟩:=s9.1 l;exact k.s j B p o
def afl(H:kG):H.me.1.c=H.c.me.1:=by
 unfold kG.me;split
 .dsimp only;split
  .rw[XQ]
  .rfl
 .rfl
def agA(k:Bool)(f f':Fr):Prop:=0<f.pins->(0<=f.oj->f'.oj=f.oj/\f.st<=f'.st)/\(k=true->f'.st=f.st)
def Sb(S:lX)(p:Int)(k:S.H.c.FI)(B:∀t,S.tb.pick p=some t->t<S.n):(S.step p).1.H.c.FI/\(S.step p).1.H.c.fr.length=S.H.c.fr.length/\
 ∀(j:Nat) (f f':Fr),S.H.c.fr[j]?=some f->(S.step p).1.H.c.fr[j]?=some f'->agA ((S.step p).2.2&&decide ((S.step p).2.1=S.cl.length+S.fl.length)) f f':=by
 unfold lX.step;split
 .refine⟨k,rfl,λj f f' h q _=>?_⟩;rw[h]at q;injection q with q;subst q
  exact eX
 .split
  .refine⟨k,rfl,λj f f' h q _=>?_⟩;rw[h]at q;injection q with q;subst q
   exact eX
  .rename_i t s;have Z:=B t s;unfold lX.n at Z;dsimp only;rw[lX.akF];by_cases c:t<S.cl.length+S.fl.length
   .obtain⟨a,b⟩:=((S.np t).amg (t:=t) c).keeps k;refine⟨a,b.len,λj f f' h q _=>⟨λhb=>b.fr j f f' h q hb,λe=>?_⟩⟩;simp at e;omega
   .rw[(S.np t).amh (t:=t) c];have w:(S.np t).H=S.H:=rfl;rw[w,afl];refine⟨afy k,afw _,λj f f' h q X=>?_⟩;rcases afx j h q with⟨P,d,R⟩|⟨P,_⟩
    .exact⟨λ_=>⟨P,by omega⟩,λ_=>d⟩
    .omega
def FI.apart(k:c.FI){i j:Nat}{f g:Fr}(a:c.fr[i]?=some f)(b:c.fr[j]?=some g)(d:0<=f.oj)(e:f.oj=g.oj):i=j:=by
 have l:=k.a i f a d;have A:=k.a j g b kh;rw[e,A]at l;injection l with l;exact l.symm
def alm(n:Nat):(kP.new n).FI:=by
 refine⟨λi f h hb=>?_,λk i h=>?_,λi f h _=>?_⟩
 .have:=nF h;rw[xe this]at hb;have:(0:Int)<= -1:=hb;omega
 .have h:(none:Option Nat)=some i:=h;cases h
 .have:=nF h;rw[xe this];rfl
section
attribute [local irreducible] kE lM AW mU lL mG mC lj lT ly kN AS lF kP.mm kP.waits kP.free BA kP.u9 mK mo kG.read lh kP.me kG.write kG.may pf kG.look kG.due yt
def acF(x:MA)(X:kY)(h:Nat)(p:va)(S:lX)(L:Int)(m:oX X h p S)(k:S.Safe):mZ prog 11 [lQ (19,h) p.b,kq L] X (.mz [kq ((S.step L).2.1:Nat),kA (S.step L).2.2]) (λC _=>yk h p.b (S.step L).1 X C):=by
 have e:=k.pk;have k2:=k.tw;have k3:=k.ev;by_cases c:20000<=S.mb
 .have a:=m.o;unfold lX.step;rw[kx c];refine kz Dh O JE O ki [_,_] O λE T N i=>?_;refine wJ ?_;exact ns O (yk.refl m) λ_=>⟨gx,gx,trivial⟩
 .exact aag x X h (3*S.mb.toNat) S.mb.toNat p S L m k.hk kh e.1 k.w k.tn (k.tb.mono kh) kh kh kh (λc u=>(k.cl c u).1) (λf z=>(k.fl f z).mono kh) (λt c1 a b=>(k.act kh a).2.2.2.2 c1 b) λt a=>⟨(k.act kh a).2.2.1,(k.act kh a).2.2.2.1⟩
def RS(X:kY)(l:nz)(A:Option (Nat×Nat))(cap:Nat)(G:List AV)(f:X l=some (.my 51 22 A cap G))(g:G.length<=1000000):mZ prog 44 [.raw l [] (sv 22 A G.length cap)] X (.sl none 22 G) (λC _=>C=X):=by
 refine nW func44 O ntmps44 O ki [_] O λE S=>hTF λN i=>?_;refine pB O f λz Z b3=>?_;cases A with
 |none=>
  exact dy
 |some A=>
  exact aN
def ahg(X:kY)(h:Nat)(p:va)(S:lX)(m:oX X h p S)(L:S.ev.length<=1000000):mZ prog 14 [lQ (19,h) p.b] X (.sl none 22 (S.ev.map xD.av)) (λC _=>C=X):=by
 have a:=m.o;have g:(S.ev.map xD.av).length<=1000000:=gp;have W:=lH func44 (RS X (22,h) p.Ae p.ce (S.ev.map xD.av) m.e g);refine kz func14 O ntmps14 O ki [_] O λE T N i=>?_;refine wJ ?_;exact ns O O λ_=>⟨gw,trivial⟩
def zj(X:kY)(h:Nat)(p:va)(S:lX)(m:oX X h p S):mZ prog 18 [lQ (19,h) p.b] X (lQ (1,h) p.hb) (λC _=>C=X):=by
 have a:=m.o;refine kz Dg O ntmps18 O ki [_] O λE T N i=>?_;exact dM
def acK(X:kY)(h:Nat)(p:va)(S:lX)(m:oX X h p S):mZ prog 45 [lQ (19,h) p.b] X (qU S.seq) (λC _=>C=X):=by
 have a:=m.o;refine kz func45 O ntmps45 O ki [_] O λE T N i=>?_;exact dM
def U7(X:kY)(h:Nat)(p:va)(S:lX)(m:oX X h p S):mZ prog 28 [lQ (19,h) p.b] X (kA S.ended) (λC _=>C=X):=by
 have a:=m.o;have b:=m.t;have V:=Jn h p.cb p.fb;have r:=m.lc;have f:=m.lf;have y:=m.n8;have hn:(yt h p.cb p.fb).length=S.n:=by unfold lX.n;omega
 refine kz func28 O ntmps28 O ki [_] O λE T N l=>?_;refine wJ ?_;refine kU (λj:Nat=>⟨[(0,lQ (19,h) p.b),(10,.raw (20,h) [] (sv 1 (some (p.bt,p.ot)) (yt h p.cb p.fb).length p.ct)),(11,kq ((yt h p.cb p.fb).length:Nat)),(12,kq (j:Nat))],[(4999,.ext (Sg X))]⟩) (λj=>j<=S.n/\ ∀i c,i<j->S.cl[i]?=some c->c.ended=true) (λj=>S.n- j) 0 ⟨kO _,λi c hi=>absurd hi (Qx _)⟩ ed (λj k=>?_);obtain⟨k,Y⟩:=k;by_cases Z:j<S.n
 .have n:j<(yt h p.cb p.fb).length:=by omega
  by_cases c1:j<S.cl.length
  .have u:S.cl[j]?=some S.cl[j]:=kQ c1;have hb:p.cb[j]?=some p.cb[j]:=kQ kh;have K:=m.cl j _ _ u hb;have L:=XY (h:=h) (fb:=p.fb) hb;unfold R4 at L;have U:=nF u;have W:=lH func64 (En X (8*h+j) p.cb[j] S.cl[j] K);generalize S.cl[j]=c at u K W U;generalize p.cb[j]=cb at hb K L W;cases e:c.ended
   .rw[e]at W
    have T:S.ended=false:=by
     unfold lX.ended;rw[List.all_eq_false];exact⟨c,U,by simp[e]⟩
    rw[T];exact dM
   .rw[e]at W;refine wJ ?_;refine⟨j+1,⟨Z,λi c' hi d=>?_⟩,by omega,ed⟩;by_cases R:i=j
    .subst R;rw[u]at d;injection d with d;subst d;exact e
    .exact Y i c' kh d
  .have next:∀i c,i<j+1->S.cl[i]?=some c->c.ended=true:=λi c hi u=>by
    by_cases R:i=j
    .subst R;have:=(mS.1 u).1;omega
    .exact Y i c kh u
   by_cases c2:j- S.cl.length<S.fl.length
   .obtain⟨i,hi⟩:∃i,j=p.cb.length+i:=⟨j- p.cb.length,by omega⟩;have hb:p.fb[i]?=some p.fb[i]:=kQ kh;have L:=XW (h:=h) (cb:=p.cb) hb;unfold R3 at L;rw[<-hi]at L;generalize p.fb[i]=fb at hb L;exact cJ
   .have hi:j=p.cb.length+p.fb.length:=by omega
    have L:=XX (h:=h) (cb:=p.cb) (fb:=p.fb);unfold tkE at L;rw[<-hi]at L;exact cJ
 .obtain rfl:j=S.n:=by omega
  have n:¬S.n<(yt h p.cb p.fb).length:=eY
  have T:S.ended=true:=by
   unfold lX.ended;rw[mq];intro c u;obtain⟨i,hi⟩:=Gk.1 u;have o:=(mS.1 hi).1;exact Y i c (by unfold lX.n;omega) hi
  rw[T];exact dM
end
