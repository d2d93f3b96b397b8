/- Part of the proof, without conditions. -/
import Derived.Test.YtfkhhohdgeckdaaGreatP8
import Derived.Test.YtfkhhohdgeckdaaGreatP5
namespace Go.Proofs.YtfkhhohdgeckdaaGreat
open Go RowKit Proofs.Tryz
set_option linter.all false
set_option maxRecDepth 100000
set_option maxHeartbeats 16000000
def nT.new:nT:=⟨[],-1,[]⟩
def ae4(X:kY)(i b:Nat)(a:X (10,i)=some (.var b (.agg 4 [kq 0,.raw (11,i) [] (.slice none 0 0),kq (-1),.raw (12,i) [] (.slice none 0 0)])))(c:X (11,i)=some (.my 3 1 none 0 []))(k:X (12,i)=some (.my 226 2 none 0 [])):sx X i b nT.new:=⟨⟨none,0,none,0,a,c,k⟩,kO _,kO _⟩
structure Fr where
 st:Int
 oj:Int
 own:Int
 pins:Int
 ref:Bool
 uO:Bool
 nd:Nd
def Fr.av(f:Fr):AV:=.agg 11 [kq f.st,kq f.oj,kq f.own,kq f.pins,kA f.ref,kA f.uO,f.nd.av]
structure kP where
 fr:List Fr
 at_:Int->Option Nat
 oE:Int->Option (List Int)
 line:List CW
 hand:Int
structure qq where
 b:Nat
 bf:Nat
 off:Nat
 cf:Nat
 ra:Nat
 ka:Nat
 ea:List oW
 rl:Nat
 kl:Nat
 el:List oW
 L:Option (Nat×Nat)
 cl:Nat
abbrev wW(h:Nat)(p:qq)(c:kP):AV:=.agg 5 [.raw (5,h) [] (sv 11 (some (p.bf,p.off)) (c.fr.map Fr.av).length p.cf),.raw (6,h) [] (.map (some p.ra)),.raw (7,h) [] (.map (some p.rl)),.raw (8,h) [] (sv 3 p.L (c.line.map Bw).length p.cl),kq c.hand]
def ake(X:kY)(h:Nat)(C:List oW)(k:Int):Option (List Int)->Prop
 |none=>nY k C=none
 |some l=>0<=k/\k<256/\ ∃A cap,nY k C=some (sv 1 A (l.map kq).length cap)/\X (9,256*h+k.toNat)=some (.my 3 1 A cap (l.map kq))
structure om(X:kY)(h:Nat)(p:qq)(c:kP):Prop where
 s:X (3,h)=none
 o:X (4,h)=some (.var p.b (wW h p c))
 f:X (5,h)=some (.my 219 11 (some (p.bf,p.off)) p.cf (c.fr.map Fr.av))
 a:X (6,h)=some (.ob p.ra (ua p.ea p.ka))
 l:X (7,h)=some (.ob p.rl (ua p.el p.kl))
 n:X (8,h)=some (.my 268 3 p.L p.cl (c.line.map Bw))
 aw:Xx p.ea p.ka
 ag:∀k,nY k p.ea=(c.at_ k).map λi=>.int .i64 (i:Nat)
 lw:Xx p.el p.kl
 lg:∀k,ake X h p.el k (c.oE k)
def EZ(h:Nat)(l:nz):Prop:=(3<=l.1/\l.1<=8/\l.2=h)∨(l.1=9/\l.2/256=h)
def oy(h:Nat)(X C:kY):Prop:=∀l,¬EZ h l->C l=X l
def oy.refl(h:Nat)(X:kY):oy h X X:=λ_ _=>rfl
variable {h:Nat}{X Y Z:kY}
def oy.trans(k:oy h X Y)(k':oy h Y Z):oy h X Z:=λl g=>(k' l g).trans (k l g)
variable {l:nz}{xb:XB}
def oy.put(k:EZ h l):oy h X (X.put l xb):=λj i=>ky _ _ (λe=>i (e▸k))
structure kP.Wf(c:kP):Prop where
 len:c.fr.length<=64
 nd:∀f∈c.fr,f.nd.es.length<=100000/\f.nd.ks.length<=100000/\f.nd.ps.length<=100000/\f.nd.ms.length<=100000
 at_:∀k i,c.at_ k=some i->i<c.fr.length
 line:c.line.length<=100
 oE:∀k l,c.oE k=some l->l.length<=100
def kP.mm(c:kP)(t:Int):Int:=lF (c.line.map (·.task)) t
def kP.waits(c:kP)(t:Int):Bool:=(List.range 256).any λk=>match c.oE (k:Nat)with
 |some l=>decide (0<=lF l t)
 |none=>false
def kP.place(c:kP)(b:Int):Int:=match c.at_ b with
 |some i=>(i:Nat)
 |none=> -1
def kP.fp(c:kP)(b d:Int):Option Nat:=match c.at_ b with
 |some i=>match c.fr[i]? with
  |some f=>if f.st=d then some i else none
  |none=>none
 |none=>none
def Bu(p:qq)(i:Option Nat):Value:=.pointer (i.map λi=>⟨p.bf,p.off*11+i*11,none⟩)
def Fr.empty:Fr:=⟨0,-1,-1,0,false,false,⟨false,[],[],[],[]⟩⟩
def kP.free(c:kP):Nat:=c.fr.countP λf=>decide (f.st=0)
def CW.arr(w:CW):Array Value:= #[.int .i64 w.task,.int .i64 w.oj,.bool w.claim]
instance :DecidableEq CW:=λa b=>decidable_of_iff (a.task=b.task/\a.oj=b.oj/\a.claim=b.claim) (by cases a;cases b;simp)
def CW.fields:(Tryz.prog.fieldsOf 268).toList.map (fun f=>(f.name== "_",f.type,f.offset))= [(false,3,0),(false,3,1),(false,4,2)]:=by kernel_rfl
def CW.under:prog.underlying 268=some (.struct (prog.fieldsOf 268)):=by kernel_rfl
def CW.eq_(d:Nat)(a b:CW)(w:World):(Op.equalIn (d+2) 268 (.agg a.arr) (.agg b.arr)).run prog w= .ok (a.task==b.task&&(a.oj==b.oj&&a.claim==b.claim)) w:=by have h:=yV CW.under j6 CW.fields (BK.cons (Xz.int (d:=d) (G:=a.arr) (J:=b.arr) mc O O) (BK.cons (Xz.int (d:=d) (G:=a.arr) (J:=b.arr) mc O O) (BK.cons (Xz.bool (d:=d) (G:=a.arr) (J:=b.arr) QT O O) BK.nil))) w;exact h.trans (by simp[QZ])
def CW.eqG:prog.eqGuardType prog.depth 268=false:=by kernel_rfl
def CW.De(a b:CW):(a.task==b.task&&(a.oj==b.oj&&a.claim==b.claim))=decide (a=b):=by
 rw[GI];cases a;cases b;simp
def CW.eql(a b:CW)(w:World):(binOp .eql 268 (.agg a.arr) (.agg b.arr)).run prog w= .ok (.bool (decide (a=b))) w:=by
 rw[QY];rw[show(10000:Nat)=9998+2 from rfl,CW.eq_,CW.De];rfl
variable {U:u0}{w:World}{B:nE}{H:Hp}
def CW.rd{m:CW}{c:List Value}:Rd U w (Bw m) B H c↔c=m.arr.toList:=by
 unfold Bw;refine Cc kj ((nm (λc=>qV O) λc=>nm (λc=>qV O) λc=>nm (λc=>qV O) λc=>yz).trans ?_);simp[CW.arr]
variable {E:su}{nt:Nat}{ops:Array Oper}{T:Nat->Option AV}{d:Option Nat}{ty t':TypeId}{pos:String}{af:Array Edge}{gd:Option (Nat×Bool)}{x y:Operand}
def ala{f C z Z:Int}{p I:Bool}(n:lK nt d=true)(j:kv T x=some (.agg 3 [kq f,kq C,kA p]))(F:kv T y=some (.agg 3 [kq z,kq Z,kA I])):
 kE prog E nt ops ⟨d,.binOp .eql 268 x y t',ty,pos,af,gd⟩ T H [] ⟨.v (.bool (decide ((⟨f,C,p⟩:CW)=⟨z,Z,I⟩))),[]⟩:=
 lO n λB T' H' A w r s D=>⟨.bool (decide ((⟨f,C,p⟩:CW)=⟨z,Z,I⟩)),by
  have a:=r.eval ((s x js).trans j);have b:=r.eval ((s y js).trans F);rw[kJ ki]at a b;obtain⟨c1,a,P⟩:=a;obtain⟨c2,b,c⟩:=b;have e:=(CW.rd (m:=⟨f,C,p⟩)).1 a;have k2:=(CW.rd (m:=⟨z,Z,I⟩)).1 b;subst e k2;have P:A.eval x= .agg (CW.arr ⟨f,C,p⟩):=by rw[P];rfl
  have c:A.eval y= .agg (CW.arr ⟨z,Z,I⟩):=by rw[c];rfl
  simp only[execOp,P,c,Sem.run_bind];simp[eqGuard,CW.eqG,CW.eql],by rw[nM];exact⟨O,rfl⟩⟩
def kP.leave(c:kP)(t:Int):kP:={c with line:=ym c.line (c.mm t)}
def kP.ask(c:kP)(w:CW):kP:=if c.mm w.task<0 then {c with line:=c.line++[w]}else c
def kP.u6(c:kP)(t:Int):Bool:=match c.line with
 | []=>true
 |w::_=>decide (w.task=t)
def kP.vw(c:kP)(t:Int):Option Nat:=if c.u6 t then c.fr.findIdx? (λf=>decide (f.st=0))else none
def kP.may(c:kP)(w:CW):Bool:=decide (0<=w.task/\w.task<8)&&(!c.waits w.task)&&(decide (c.mm w.task<0)||decide (c.line[(c.mm w.task).toNat]?=some w))
def kP.u9(c:kP)(t:Int):Bool:=decide (0<=t/\t<8)&&(!c.waits t)&&(decide (c.mm t<0)||decide (c.mm t=0)&&decide (0<c.free)||(match c.line[(c.mm t).toNat]? with|some w=>decide (0<=c.place w.oj)|none=>false))
variable {C:kY}{c c':kP}
theorem om.same{p L:qq}(u:om X h p c)(o:C (3,h)=none)(U:C (4,h)=some (.var L.b (wW h L c')))(z:C (5,h)=some (.my 219 11 (some (L.bf,L.off)) L.cf (c'.fr.map Fr.av)))(N:C (6,h)=X (6,h))(g:C (7,h)=X (7,h))(B:C (8,h)=some (.my 268 3 L.L L.cl (c'.line.map Bw)))
 (P:L.ra=p.ra) (a:L.ka=p.ka) (R:L.ea=p.ea) (S:L.rl=p.rl) (W:L.kl=p.kl) (J:L.el=p.el) (D:c'.at_=c.at_) (v:c'.oE=c.oE) (Z:∀k,C (9,k)=X (9,k)):om C h L c':=by
 refine⟨o,U,z,by rw[N,u.a,P,a,R],by rw[g,u.l,S,W,J],B,by rw[a,R];exact u.aw,λk=>by rw[R,D];exact u.ag k,by rw[W,J];exact u.lw,λk=>?_⟩;rw[J,v];have:=u.lg k;cases U:c.oE k with
 |none=>rw[U]at this;exact this
 |some l=>
  rw[U]at this;obtain⟨e,k2,A,cap,k3,m⟩:=this;exact⟨e,k2,A,cap,k3,(Z _).trans m⟩
def mV(h:Nat)(p:qq)(c':kP)(X C:kY):Prop:=oy h X C/\ ∃p':qq,p'.b=p.b/\p'.bf=p.bf/\p'.off=p.off/\om C h p' c'
def mV.refl{p:qq}(u:om X h p c):mV h p c X X:=⟨oy.refl h X,p,rfl,rfl,rfl,u⟩
def Ht(c:kP)(t:Int):c.mm t<c.line.length:=by have:=LD (c.line.map (·.task)) t;rw[kX]at this;exact this
variable {i:Nat}
def oy.M4(k:3<=i/\i<=8):oy h X (X.put (i,h) xb):=oy.put (.inl ⟨k.1,k.2,rfl⟩)
def mV.line{X C:kY}{h:Nat}{p:qq}{c:kP}(u:om X h p c)(l:List CW)(L:Option (Nat×Nat))(cl:Nat)(A:C (4,h)=some (.var p.b (wW h {p with L:=L,cl:=cl} {c with line:=l})))(d:C (8,h)=some (.my 268 3 L cl (l.map Bw)))(U:∀j,j≠(4,h)->j≠(8,h)->C j=X j):mV h p {c with line:=l} X C:=
 ⟨λj i=>U j (λe=>i iE) (λe=>i iE),{p with L:=L,cl:=cl},rfl,rfl,rfl,
  u.same ((U _ ki ki).trans u.s) A ((U _ ki ki).trans u.f) (U _ ki ki) (U _ ki ki) d O O O O O O O O λk=>U _ ki ki⟩
def mV.fr{p:qq}(u:om X h p c)(fs:List Fr)(g:fs.length=c.fr.length)(D:C (5,h)=some (.my 219 11 (some (p.bf,p.off)) p.cf (fs.map Fr.av)))(U:∀j,j≠(5,h)->C j=X j):mV h p {c with fr:=fs} X C:=
 ⟨λj i=>U j (λe=>i iE),p,rfl,rfl,rfl,
  u.same ((U _ ki).trans u.s) ((U _ ki).trans (u.o.trans (by simp only[wW,kX,g]))) D (U _ ki) (U _ ki) ((U _ ki).trans u.n) rfl rfl rfl rfl rfl rfl rfl rfl λk=>U _ ki⟩
def mV.trans{p q:qq}(k:oy h X Y)(P:q.b=p.b)(a:q.bf=p.bf)(R:q.off=p.off)(k':mV h q c' Y Z):mV h p c' X Z:=by
 obtain⟨e,p',U,f2,r,z⟩:=k';exact⟨k.trans e,p',U.trans P,f2.trans a,r.trans R,z⟩
variable {v:Value}
section
attribute [local irreducible] kE lM AW mU lL mG mC lj lT ly kN AS
def acJ(X:kY)(i:Nat):mZ prog 107 [] X (.hv 4998) (λC v=>∃b,v= .pointer (some ⟨b,0,none⟩)/\mP i X C/\sx C i b nT.new):=by
 refine kz func107 O ntmps107 O ki [_] O λE S N j=>?_
 repeat (first|(refine BC (10,i) (.agg 4 [kq 0,.raw (11,i) [] (.slice none 0 0),kq (-1),.raw (12,i) [] (.slice none 0 0)]) O O O O h8 (λH=>Wk.agg (.cons (Wk.data O) (.cons Wk.raw (.cons (Wk.data O) (.cons Wk.raw .nil))))) ?_)|refine tT ?_)
 intro b;refine l7 (lL.MR (11,i) 3 1 O kg) ?_;refine l7 (lL.MR (12,i) 226 2 O kg) ?_;refine wV ?_;exact uq (v:=.pointer (some ⟨b,0,none⟩)) (.inr O) O ⟨b,rfl,(mP.put (.inl O)).trans ((mP.put (.inr (.inl O))).trans (mP.put (.inr (.inr O)))),ae4 _ i b ij iQ jW⟩ λ_=>⟨vl O,trivial⟩
section
attribute [local irreducible] lF
def ZG(t:Int):mG prog 179 [kq t] (kA (decide (0<=t/\t<8))):=by
 refine kL func179 O ntmps179 O ki [_] O λE S N i=>?_;exact aY
def Uk(t:Int):mG prog 219 [kq t] (kA (decide (0<=t/\t<256))):=by
 refine kL func219 O ntmps219 O ki [_] O λE S N i=>?_;by_cases a:0<=t
 .by_cases b:t<256
  .rw[kW ⟨a,b⟩];refine wE ?_;exact oY ⟨Ah O b,trivial⟩
  .rw[la (λh=>b h.2)];refine wE ?_;exact oY ⟨Ew O b,trivial⟩
 .rw[la (λh=>a h.1)];exact dZ
def CS(X:kY)(h:Nat)(p:qq)(c:kP)(t:Int)(u:om X h p c)(w:c.Wf):mZ prog 181 [lQ (4,h) p.b,kq t] X (kq (c.mm t)) (λC _=>C=X):=by
 obtain⟨i,a,b,k,A,D,_,_,_,_⟩:=u;have g:=w.line;unfold kP.mm;have W:=kD func231 (agj 232 c.line t (λw=>kD func232 (abS w t) jC jC) kh);refine kz Gq O ntmps181 O ki [_] O λE S N j=>?_
 repeat (first|(refine l7 (lL.froz S 3 O) ?_;refine l7 (lL.ref 3 3 O O O) ?_)|refine tT ?_)
 exact ns O (O) λ_=>⟨gx,trivial⟩
def BQ(X:kY)(h:Nat)(p:qq)(c:kP)(k:Int)(u:om X h p c):mZ prog 183 [lQ (4,h) p.b,kq k] X (kq (c.place k)) (λC _=>C=X):=by
 obtain⟨j,a,b,l,A,D,_,ag,_,_⟩:=u;have w:=ag k;unfold kP.place;refine kz AQ O ntmps183 O ki [_] O λE S N m=>?_;cases L:c.at_ k with
 |none=>
  rw[L,Option.map_none]at w;exact dJ
 |some i=>
  rw[L,Option.map_some]at w;exact dJ
def vZ{f:Fr}(h:c.fr[i]?=some f):(c.fr.map Fr.av)[i]?=some (.agg 11 [kq f.st,kq f.oj,kq f.own,kq f.pins,kA f.ref,kA f.uO,f.nd.av]):=by rw[oI,h];rfl
def BR(X:kY)(h:Nat)(p:qq)(c:kP)(k d:Int)(u:om X h p c)(w:c.Wf):mZ prog 186 [lQ (4,h) p.b,kq k,kq d] X (.hv 4998) (λC v=>C=X/\v=Bu p (c.fp k d)):=by
 have Y:=BQ X h p c k u;obtain⟨j,a,b,l,A,D,_,ag,_,_⟩:=u;have x:=ag k;have e:=w.at_ k;unfold kP.place at Y;unfold kP.fp;refine kz Dp O ntmps186 O ki [_] O λE S N m=>?_;cases L:c.at_ k with
 |none=>
  simp only[L]at Y;have W:=lH AQ (Y);exact bT
 |some i=>
  simp only[L]at Y;have W:=lH AQ (Y);have hi:=e i L;have z:c.fr[i]?=some c.fr[i]:=kQ hi;generalize c.fr[i]=f at z;have n:=vZ z;simp only[z];have g:i<(c.fr.map Fr.av).length:=fJ;by_cases o:f.st=d
  .rw[kx o]
   repeat (first|(refine l7 (lL.HD 6 (0,0) O) ?_)|refine tT ?_)
   exact uq (v:=Bu p (some i)) iJ O (⟨O,rfl⟩) λ_=>⟨vl O,trivial⟩
  .rw[ku o];exact bT
def acS(X:kY)(h:Nat)(p:qq)(c:kP)(k:Int)(u:om X h p c)(w:c.Wf):mZ prog 188 [lQ (4,h) p.b,kq k] X (kA (c.fp k 2).isSome) (λC _=>C=X):=by have W:=kS Dp (BR X h p c k 2 u w);refine kz func188 O ntmps188 O ki [_] O λE S N i=>?_;refine wV ?_;rintro _ _ ⟨rfl,rfl⟩;refine wV ?_;exact ns O (O) λ_=>⟨B4 O O O (by simp[kA,SJ]),trivial⟩
def YM{C:List oW}{k:Int}{o:Option (List Int)}(g:ake X h C k o)(T:nY k C=some v):∃l,o=some l/\0<=k/\k<256/\ ∃A cap,v=sv 1 A (l.map kq).length cap/\X (9,256*h+k.toNat)=some (.my 3 1 A cap (l.map kq)):=by
 cases o with
 |none=>rw[show nY k C=none from g]at T;cases T
 |some l=>
  obtain⟨e,k2,A,cap,k3,m⟩:=g;rw[k3]at T;injection T with T
  exact⟨l,rfl,e,k2,A,cap,T.symm,m⟩
def aan{p:qq}(u:om X h p c)(t:Int):c.waits t=true↔ ∃e∈p.el,∃l,c.oE e.k=some l/\0<=lF l t:=by
 unfold kP.waits;rw[Xe];constructor
 .rintro⟨k,w,g⟩;cases U:c.oE (k:Nat)with
  |none=>rw[U]at g;cases g
  |some l=>
   rw[U]at g;have:=u.lg (k:Nat);rw[U]at this;obtain⟨_,_,A,cap,k3,_⟩:=this;obtain⟨e,P,a,_⟩:=Td k3;exact⟨e,P,l,by rw[a];exact U,by simpa using g⟩
 .rintro⟨e,P,l,a,R⟩;have:=u.lg e.k;rw[a]at this;obtain⟨f,k2,_⟩:=this;refine⟨e.k.toNat,EP.2 kh,?_⟩;rw[GF f,a];simpa using R
theorem TS:∀{es:List oW},(es.map (·.born)).Nodup-> ∀{x y:oW},x∈es->y∈es->x.born=y.born->x=y
 | [],_,_,_,h,_,_=>fk
 |a::es,h,x,y,j,F,e=>by
  simp only[nc,Gy]at h;rcases mf.1 j with rfl|hx'<;>rcases mf.1 F with rfl|hy'
  .rfl
  .exact absurd (show x.born∈es.map (·.born) by rw[e];exact Gx (f:=(·.born)) hy') h.1
  .exact absurd (show y.born∈es.map (·.born) by rw[<-e];exact Gx (f:=(·.born)) hx') h.1
  .exact TS h.2 hx' hy' e
theorem NU(seen:Array Nat)(e:oW)(B:e.born∉seen):∀(C:List oW),e∈C->(C.countP λx=>decide (x.born∉seen.push e.born))<C.countP λx=>decide (x.born∉seen)
 | [],he=>by cases he
 |a::C,he=>by
  have i:(C.countP λx=>decide (x.born∉seen.push e.born))<=C.countP λx=>decide (x.born∉seen):=
   List.countP_mono_left λx _ h=>by simp at h⊢;exact h.1
  simp only[Kh];rcases mf.1 he with rfl|he
  .have P:decide (e.born∉seen.push e.born)=false:=by simp
   have c:decide (e.born∉seen)=true:=by simpa using B
   rw[P,c];simp only[oQ,tu,rL];omega
  .have:=NU seen e B C he;by_cases b:decide (a.born∉seen.push e.born)=true
   .have c:decide (a.born∉seen)=true:=by simp at b⊢;exact b.1
    rw[b,c];omega
   .rw[JT.2 b];simp only[tu,rL];omega
def RQ(X:kY)(h:Nat)(p:qq)(c:kP)(t:Int)(u:om X h p c)(w:c.Wf):mZ prog 180 [lQ (4,h) p.b,kq t] X (kA (c.waits t)) (λC _=>C=X):=by
 have m:=aan u t;have r:=u;obtain⟨n,a,d,k,B,F,_,ag,V,z⟩:=u
 have y:∀e∈p.el,e.v.oneCell'=true:=λe L=>by obtain⟨l,_,_,_,A,cap,k3,_⟩:=YM (z e.k) (PY V.keys L);rw[k3];rfl
 refine kz func180 O ntmps180 O ki [_] O λE S N o=>?_
 repeat (first|(refine ajh (3,h) yL O O B O h8 ?_)|refine tT ?_)
 intro b;refine wV ?_;refine kU (λj:Array Nat=>⟨[(0,lQ (4,h) p.b),(1,kq t),(11,lQ (3,h) b)],[(4999,.ext (Sg (X.put (3,h) (.ob b (.mapIter (some p.rl) p.kl j p.kl)))))]⟩) (λj=>∀e∈p.el,e.born∈j-> ∀l,c.oE e.k=some l-> ¬0<=lF l t) (λj=>p.el.countP λx=>decide (x.born∉j)) #[] (λe _ h=>by simp at h) ed (λj i=>?_)
 repeat (first|(refine ams (l:=(7,h)) O O ((ky _ _ ki).trans B) (kC _ _ _) V.old y O h8 ?_ ?_)|refine tT ?_)
 .intro R
  have:c.waits t=false:=by
   rw[JT];intro D;obtain⟨e,P,l,g,T⟩:=m.1 D;exact i e P (R e P) l g T
  rw[this];refine l7 (lL.amT (3,h) O) ?_;rw[Y3 _ _ _ n];exact dJ
 .intro e L hn;obtain⟨l,f,k2,k3,A,cap,q,G⟩:=YM (z e.k) (PY V.keys L);have Z:l.length<=100:=w.oE _ _ f;have Y:=y e L;have J:(X.put (3,h) (.ob b (.mapIter (some p.rl) p.kl (j.push e.born) p.kl))) (9,256*h+e.k.toNat)=some (.my 3 1 A cap (l.map kq)):=(ky _ _ ki).trans G;have s:=V.born;have W:=kD Gv (yQ l t kh);unfold lJ at W;rw[w8]
  repeat (first|refine Vv (PS O O ((ky _ _ ki).trans B) (kC _ _ _) L s Y O) hP ?_|(refine l7 (lL.Cs 16 (9,256*h+e.k.toNat) [] (l0:=(0,0)) (v:=sv 1 A (l.map kq).length cap) (by rw[<-q];rfl)) ?_)|refine tT ?_)
  by_cases U:0<=lF l t
  .have:c.waits t=true:=m.2 ⟨e,L,l,f,U⟩;rw[this]
   repeat (first|(refine l7 (ops:=_) (l:=⟨some 4,.assign (.const (.bool true)),_,_,_,_⟩::_) (lL.amT (3,h) O) ?_;rw[Y3 _ _ _ n];refine tT ?_)|refine tT ?_)
   exact ns O (O) λ_=>⟨gx,trivial⟩
  .refine wV ?_;refine⟨j.push e.born,?_,NU j e hn p.el L,?_⟩
   .intro e' I hb l' H;rcases Array.mem_push.1 hb with hb|hb
    .exact i e' I hb l' H
    .have:e'=e:=TS V.born I L hb;subst this;rw[f]at H;injection H with H;subst H
     exact U
   ·(refine lL.sub ⟨?_,?_,?_⟩<;>repeat' (first|exact True.intro|rfl|apply And.intro))
def Mu(n:Nd)(h:n.es.length<=100000/\n.ks.length<=100000/\n.ps.length<=100000/\n.ms.length<=100000):mG prog 111 [n.av] n.av:=by
 obtain⟨e,k2,k3,l⟩:=h;have c1:=kD func159 (Ri n.es kh);have c2:=kD AT (Rh n.ks kh);have c3:=kD func160 (Rg n.ps kh);have g:=kD func161 (Rf n.ms kh);unfold Nd.av;refine kL Dn O ntmps111 O ki [_] O λE S N i=>?_;refine wH ?_;exact oY ⟨gu,trivial⟩
def E6(H:Hp):Wk H (pb false mF mF mF mF) (⟨false,[],[],[],[]⟩:Nd).av:=Wk.agg (.cons (Wk.data O) (.cons Wk.nil (.cons Wk.nil (.cons Wk.nil (.cons Wk.nil .nil)))))
def Mv:mG prog 138 [] Fr.empty.av:=by
 unfold Fr.av;refine kL JS O ntmps138 O ki [_] O λE S N i=>?_;refine wH ?_;exact oY ⟨⟨0,_,rfl,rfl,kM.u5 O,Wk.agg (.cons (Wk.data O) (.cons (Wk.data O) (.cons (Wk.data O) (.cons (Wk.data O) (.cons (Wk.data O) (.cons (Wk.data O) (.cons (E6 _) .nil)))))))⟩,trivial⟩
def XP(X:kY)(h:Nat)(p:qq)(c:kP)(u:om X h p c)(w:c.Wf):mZ prog 182 [lQ (4,h) p.b] X (kq (c.free:Nat)) (λC _=>C=X):=by
 obtain⟨l,a,b,k,A,D,_,ag,T,B⟩:=u;have g:=w.len;unfold kP.free;refine kz func182 O ntmps182 O ki [_] O λE S N m=>?_;refine wV ?_;refine kU (λj:Nat=>⟨[(0,lQ (4,h) p.b),(3,kq (((c.fr.take j).countP λf=>decide (f.st=0):Nat))),(9,.raw (5,h) [] (sv 11 (some (p.bf,p.off)) (c.fr.map Fr.av).length p.cf)),(10,kq (((c.fr.map Fr.av).length:Nat))),(11,kq (j:Nat))],[(4999,.ext (Sg X))]⟩) (λj=>j<=c.fr.length) (λj=>c.fr.length- j) 0 (kO _) ed (λj i=>?_);by_cases Z:j<c.fr.length
 .have n:j<(c.fr.map Fr.av).length:=by simpa using Z
  have z:c.fr[j]?=some c.fr[j]:=kQ Z
  have s:(c.fr.take (j+1)).countP (λf=>decide (f.st=0))=(c.fr.take j).countP (λf=>decide (f.st=0))+if(c.fr[j]).st=0 then 1 else 0:=by
   rw[JR,z,EN];simp[Kh]
  generalize c.fr[j]=f at z s;have q:=vZ z;have hb:(c.fr.take j).countP (λf=>decide (f.st=0))<=64:=oG (H6) jY;by_cases o:f.st=0
  .rw[kx o]at s;exact cM
  .rw[ku o]at s;exact cM
 .have n:¬j<(c.fr.map Fr.av).length:=by simpa using Z
  rw[pO kh];exact dJ
def XO(X:kY)(h:Nat)(p:qq)(c:kP)(u:om X h p c)(w:c.Wf):mZ prog 92 [lQ (4,h) p.b] X (lJ (c.line.map (·.task))) (λC _=>C=X):=by
 obtain⟨l,a,b,k,A,D,_,ag,U,F⟩:=u;have g:=w.line;refine kz func92 O ntmps92 O ki [_] O λE S N m=>?_;refine wV ?_;refine lU (lL.token 3 3 0 3 O O) ?_;refine kU (λj:Nat=>⟨[(0,lQ (4,h) p.b),(3,.sl (some 3) 1 (((c.line.take j).map (·.task)).map kq)),(9,.raw (8,h) [] (sv 3 p.L (c.line.map Bw).length p.cl)),(10,kq (((c.line.map Bw).length:Nat))),(11,kq (j:Nat))],[(4999,.ext (Sg X)),(3,.tail 3 1 ((c.line.take j).map (·.task)).length)]⟩) (λj=>j<=c.line.length) (λj=>c.line.length- j) 0 (kO _) ed (λj i=>?_);by_cases Z:j<c.line.length
 .have n:j<(c.line.map Bw).length:=by simpa using Z
  have z:c.line[j]?=some c.line[j]:=kQ Z
  have s:(c.line.take (j+1)).map (·.task)=(c.line.take j).map (·.task)++[(c.line[j]).task]:=by
   rw[JR,z,oq];rfl
  have T:((c.line.take j).map (·.task)).length<=100:=fy;generalize c.line[j]=f at z s;have o:(c.line.map Bw)[j]?=some (.agg 3 [kq f.task,kq f.oj,kA f.claim]):=f9;refine pB O D λB d b3=>?_
  obtain⟨⟨e,ol⟩,hL⟩:∃q,p.L=some q:=by
   cases hL:p.L with
   |none=>have:=(b3 hL).1;rw[this]at n;cases n
   |some q=>exact⟨q,rfl⟩
  rw[hL]at D⊢;exact cM
 .have n:¬j<(c.line.map Bw).length:=by simpa using Z
  rw[pO kh];exact dQ
section
attribute [local irreducible] kP.mm kP.waits
def KJ(X:kY)(h:Nat)(p:qq)(c:kP)(t:Int)(u:om X h p c)(w:c.Wf):mZ prog 221 [lQ (4,h) p.b,kq t] X (.mz []) (λC _=>mV h p (c.leave t) X C):=by
 have Y:=lH Gq (CS X h p c t u w);have hi:=Ht c t;have o:=w.line;have g:=u;obtain⟨i,d,e,k,A,D,_,ag,T,z⟩:=u;unfold kP.leave;refine kz JQ O ntmps221 O ki [] O λE S N l=>?_;by_cases f:0<=c.mm t
 .obtain⟨n,hn⟩:=AR f;rw[hn]at hi f Y⊢;have m:n<(c.line.map Bw).length:=fy;have q:(c.line.map Bw).length<=1000000:=fy;have c2:=kS func268 (RP X (8,h) p.L p.cl n _ D m q);refine wV ?_;intro W v x;subst x;refine wV ?_;have F:(c.line.take n++c.line.drop (n+1)).length=c.line.length- 1:=fy
  have r:∀Z:kY,Z.put (4,h) (.var p.b (.agg 5 [.raw (5,h) [] (sv 11 (some (p.bf,p.off)) (c.fr.map Fr.av).length p.cf),.raw (6,h) [] (.map (some p.ra)),.raw (7,h) [] (.map (some p.rl)),.raw (8,h) [] (sv 3 p.L ((c.line.map Bw).length- 1) p.cl),kq c.hand])) (4,h)=some (.var p.b (wW h {p with L:=p.L,cl:=p.cl} {c with line:=ym c.line (n:Int)})):=λZ=>by
   rw[kC,v5];simp only[wW,kX,F]
  exact ns O (mV.line g _ p.L p.cl (r _) (by rw[ky _ _ ki,kC,v5,oq,vP,DF]) (λj a b=>by rw[ky _ _ a,ky _ _ b])) λ_=>trivial
 .rw[LN f];refine wV ?_;exact ns O (mV.refl g) λ_=>trivial
def acY(X:kY)(h:Nat)(p:qq)(c:kP)(v:CW)(u:om X h p c)(w:c.Wf):mZ prog 223 [lQ (4,h) p.b,Bw v] X (.mz []) (λC _=>mV h p (c.ask v) X C):=by
 have W:=lH Gq (CS X h p c v.task u w);have m:=w.line;have g:=u;obtain⟨i,d,e,k,A,D,_,ag,T,z⟩:=u;unfold kP.ask Bw;refine kz func223 O ntmps223 O ki [] O λE S N l=>?_;by_cases f:c.mm v.task<0
 .rw[kx f];refine wV ?_;refine Kv iJ O λY y s=>?_;obtain⟨q,L,rfl⟩:=s;refine⟨undef,mV.line g _ q L (by rw[kC];simp only[wW,kX,lA,List.length_cons,List.length_nil];rfl) (by rw[ky _ _ ki,kC,nQ,oq];rfl) (λj a b=>by rw[ky _ _ a,ky _ _ b]),trivial⟩
 .rw[ku f];refine wV ?_;exact ns O (mV.refl g) λ_=>trivial
def NB(X:kY)(h:Nat)(p:qq)(c:kP)(t:Int)(u:om X h p c)(w:c.Wf):mZ prog 222 [lQ (4,h) p.b,kq t] X (.hv 4998) (λC v=>C=X/\v=Bu p (c.vw t)):=by
 have U:=w.line;have wf:=w.len;obtain⟨s,a,b,n,A,D,_,ag,T,K⟩:=u;unfold kP.vw;by_cases g:c.u6 t=true
 .rw[kx g];have R:∀(E:su) (B:Bool),True:=λ_ _=>trivial
  have W:∀j,j<=c.fr.length->(∀i (hi:i<c.fr.length),i<j-> ¬(c.fr[i]).st=0)->(h:¬j<c.fr.length)->c.fr.findIdx? (λf=>decide (f.st=0))=none:=λj k I hn=>by
   rw[Zg];intro x m;obtain⟨i,hi,rfl⟩:=vN.1 m;have:=I i hi kh;simpa using this
  have V:∀j (k:j<c.fr.length),(∀i (hi:i<c.fr.length),i<j-> ¬(c.fr[i]).st=0)->(c.fr[j]).st=0->c.fr.findIdx? (λf=>decide (f.st=0))=some j:=λj k I L=>by
   rw[Dm];exact⟨k,by simpa using L,λi hi=>by simpa using I i kh hi⟩
  refine kz JP O ntmps222 O ki [_] O λE S N y=>?_
  repeat (first|(refine Bi (x:=.seq (.region 1 _ _) _) (λ_:Unit=>⟨[(0,lQ (4,h) p.b),(1,kq t)],[(4999,.ext (Sg X))]⟩) (λ_=>True) ?_ ?_)|refine tT ?_)
  .unfold kP.u6 at g;obtain d|⟨q,l,d⟩:c.line= []∨ ∃q l,c.line=q::l:=by cases c.line<;>simp
   .have r:¬0<(((c.line.map Bw).length:Nat):Int):=by rw[d];simp
    exact cV
   .simp only[d]at g;have k2:q.task=t:=fU;have k3:¬q.task≠t:=ga;have Y:(c.line.map Bw)[0]?=some (.agg 3 [kq q.task,kq q.oj,kA q.claim]):=by rw[d];rfl
    have M:0<(c.line.map Bw).length:=by rw[d];simp
    have hpos2:(((c.line.map Bw).length:Nat):Int)>0:=eY;refine ajA O D λF G b3=>?_
    obtain⟨⟨J,ol⟩,hL⟩:∃q,p.L=some q:=by
     cases hL:p.L with
     |none=>have:=(b3 hL).1;rw[this]at M;cases M
     |some q=>exact⟨q,rfl⟩
    rw[hL]at D;simp only[wW,hL]at a;exact cV
  .intro _ _;refine wV ?_;refine kU (λj:Nat=>⟨[(0,lQ (4,h) p.b),(1,kq t),(27,kq (((c.fr.map Fr.av).length:Nat))),(28,kq (j:Nat))],[(4999,.ext (Sg X))]⟩) (λj=>j<=c.fr.length/\(∀i (hi:i<c.fr.length),i<j-> ¬(c.fr[i]).st=0)) (λj=>c.fr.length- j) 0 ⟨kO _,λi hi h=>by omega⟩ ed (λj k=>?_);obtain⟨k,I⟩:=k;by_cases Z:j<c.fr.length
   .have H:j<(c.fr.map Fr.av).length:=by simpa using Z
    have z:c.fr[j]?=some c.fr[j]:=kQ Z;have P:=vZ z;by_cases o:(c.fr[j]).st=0
    .rw[V j Z I o]
     repeat (first|(refine l7 (lL.HD 4 (0,0) O) ?_)|refine tT ?_)
     exact uq (v:=Bu p (some j)) iJ O (⟨O,rfl⟩) λ_=>⟨vl O,trivial⟩
    .refine wV ?_;refine⟨j+1,⟨Z,λi hi h=>?_⟩,by omega,ed⟩;by_cases e:i=j
     .subst e;exact o
     .exact I i hi kh
   .have H:¬j<(c.fr.map Fr.av).length:=by simpa using Z
    rw[W j k I Z];exact bU
 .rw[ku g];unfold kP.u6 at g;obtain d|⟨q,l,d⟩:c.line= []∨ ∃q l,c.line=q::l:=by cases c.line<;>simp
  .simp only[d]at g;exact absurd trivial g
  .simp only[d]at g;have k2:q.task≠t:=fU;have Y:(c.line.map Bw)[0]?=some (.agg 3 [kq q.task,kq q.oj,kA q.claim]):=by rw[d];rfl
   have M:0<(c.line.map Bw).length:=by rw[d];simp
   have hpos2:(((c.line.map Bw).length:Nat):Int)>0:=eY;refine kz JP O ntmps222 O ki [_] O λE S N y=>?_;refine pB O D λF G b3=>?_
   obtain⟨⟨J,ol⟩,hL⟩:∃q,p.L=some q:=by
    cases hL:p.L with
    |none=>have:=(b3 hL).1;rw[this]at M;cases M
    |some q=>exact⟨q,rfl⟩
   rw[hL]at D;simp only[wW,hL]at a;exact bU
def acV(X:kY)(h:Nat)(p:qq)(c:kP)(v:CW)(u:om X h p c)(w:c.Wf):mZ prog 220 [lQ (4,h) p.b,Bw v] X (kA (c.may v)) (λC _=>C=X):=by
 have W:=lH Gq (CS X h p c v.task u w);have B:=lH func180 (RQ X h p c v.task u w);have Z:=kD func179 (ZG v.task);have hi:=Ht c v.task;have o:=w.line;have g:=u;obtain⟨i,a,b,k,A,D,_,ag,T,G⟩:=u;unfold kP.may Bw;refine kz func220 O ntmps220 O ki [_] O λE S N j=>?_;by_cases e:0<=v.task/\v.task<8
 .rw[kW e]at Z⊢;cases k2:c.waits v.task
  .rw[k2]at B;by_cases k3:c.mm v.task<0
   .refine wV ?_;exact eG
   .obtain⟨n,hn⟩:=AR (show 0<=c.mm v.task by omega);rw[hn]at W hi k3⊢;have Y:n<c.line.length:=eY;have r:n<(c.line.map Bw).length:=by simpa using Y
    have z:c.line[n]?=some c.line[n]:=kQ Y;generalize c.line[n]=f at z;have m:(c.line.map Bw)[n]?=some (.agg 3 [kq f.task,kq f.oj,kA f.claim]):=f9;have P:((n:Nat):Int).toNat=n:=eY;rw[P,z];refine pB O D λF d b3=>?_
    obtain⟨⟨l,ol⟩,hL⟩:∃q,p.L=some q:=by
     cases hL:p.L with
     |none=>have:=(b3 hL).1;rw[this]at r;cases r
     |some q=>exact⟨q,rfl⟩
    rw[hL]at D;simp only[wW,hL]at a
    repeat (first|refine Wv (ala O O O) hP ?_|refine tT ?_)
    have s:(⟨f.task,f.oj,f.claim⟩:CW)=f:=rfl;have ev:(⟨v.task,v.oj,v.claim⟩:CW)=v:=rfl;rw[s,ev];exact eG
  .rw[k2]at B;exact dJ
 .rw[la e]at Z⊢;exact dJ
end
end
end
