/- Part of the proof, without conditions. -/
import Derived.Test.YtfkhhohdgeckdaaGreatP16
namespace Go.Proofs.YtfkhhohdgeckdaaGreat
open Go RowKit Proofs.Tryz
set_option linter.all false
set_option maxRecDepth 100000
set_option maxHeartbeats 16000000
def sQ(h:Nat)(X C:kY):Prop:=∀l,l≠(18,h)->C l=X l
variable {h:Nat}{X:kY}{xb:XB}
def sQ.put:sQ h X (X.put (18,h) xb):=λl a=>ky _ _ a
def ox.Wf.u6{s:ox}(w:s.Wf)(i c:Int):(s.u6 i c).Wf:=by
 unfold ox.u6;split
 .refine⟨w.n,by simpa using w.st,?_,w.pk⟩;dsimp only;split
  .simpa using w.wt
  .exact w.wt
 .exact w
def ox.DX(s:ox)(i:Nat):ox:={s with wt:=s.wt.set i (s.wt.getD i 0+1),pW:=if s.pW<s.wt.getD i 0+1 then s.wt.getD i 0+1 else s.pW}
def ox.qm(s:ox)(G:Nat)(l:List Nat):ox:=l.foldl (λs i=>if i=G then s else s.DX i) s
def W1(s:ox)(G:Nat)(l:List Nat)(i:Nat):s.qm G (l++[i])=if i=G then s.qm G l else(s.qm G l).DX i:=by
 unfold ox.qm;rw[GD];rfl
def D5(p:Int)(n:Nat):Nat:=((p.tmod n+n)%n).toNat
def ox.rF(s:ox)(G:Nat):ox:=let b:=s.qm G s.run
 {b with wt:=b.wt.set G 0,pk:=b.pk.set G (b.pk.getD G 0+1)}
def ox.pick(s:ox)(p:Int):Option Nat:=if s.run.length=0 then none else s.run[D5 p s.run.length]?
def ahN(p:Int){n:Nat}(B:0<n):D5 p n<n/\ -(n:Int)<p.tmod n/\p.tmod n<n/\(p.tmod n+n)%n=(D5 p n:Nat):=by
 have a: -(n:Int)<p.tmod n:=by have:=Int.lt_tmod_of_pos p (show(0:Int)<n by omega);omega
 have b:p.tmod n<n:=AN p kh;have k:0<=(p.tmod n+n)%(n:Int):=DE _ kh;have A:(p.tmod n+n)%(n:Int)<n:=DD _ kh;unfold D5;exact⟨by omega,a,b,by omega⟩
variable {i:Nat}
def VF{s:ox}(h:i∈s.run):i<s.n:=by
 unfold ox.run at h;rw[tr,EP]at h;exact h.1
theorem AE(s:ox)(G i:Nat)(l:List Nat):s.qm G (i::l)=(if i=G then s else s.DX i).qm G l:=rfl
def Cy(G:Nat)(l:List Nat):∀{s:ox},s.Wf->(s.qm G l).Wf/\(s.qm G l).pk=s.pk/\(s.qm G l).st=s.st/\(s.qm G l).n=s.n:=by
 induction l with
 |nil=>exact λw=>⟨w,rfl,rfl,rfl⟩
 |cons i l y=>
  intro s w;rw[AE];split
  .exact y w
  .exact y (s:=s.DX i) ⟨w.n,w.st,by simpa[ox.DX]using w.wt,w.pk⟩
def afT(G:Nat)(l:List Nat):∀{s:ox} {M:Int},(∀x∈s.wt,0<=x/\x<=M)->0<=M-> ∀x∈(s.qm G l).wt,0<=x/\x<=M+(l.length:Nat):=by
 induction l with
 |nil=>intro s M w _ x j;have:=w x j;simp;omega
 |cons i l A=>
  intro s M w N x j;rw[AE]at j;have g:(i::l).length=l.length+1:=rfl;rw[g];split at j
  .have:=A w N x j;omega
  .have:=A (s:=s.DX i) (M:=M+1) (λy F=>by
    unfold ox.DX at F;dsimp only at F;rcases xg F with h|h
    .have:=w y h;omega
    .subst h;rw[nI];cases c:s.wt[i]? with
     |none=>simp;omega
     |some z=>have:=w z (nF c);simp;omega) kh x j
   omega
def z8:List Int:= [0,0,0,0,0,0,0,0]
def ox.new(n:Nat):ox:=⟨n,z8,z8,z8,0⟩
structure ox.Bd(N:Int)(s:ox):Prop where
 wt:∀x∈s.wt,0<=x/\x<=N
 pk:∀x∈s.pk,0<=x/\x<=N
def aiS(s:ox)(a i:Nat)(N:a<s.wt.length):(s.DX a).wt.getD i 0=if i=a then s.wt.getD a 0+1 else s.wt.getD i 0:=by
 simp only[ox.DX,nI,AO];by_cases e:i=a
 .subst e;simp[N]
 .rw[ku (pv e),ku e]
theorem L2(G:Nat):∀(l:List Nat),l.Nodup-> ∀{s:ox},s.wt.length=8->(∀i∈l,i<8)-> ∀i,(s.qm G l).wt.getD i 0=if i∈l/\i≠G then s.wt.getD i 0+1 else s.wt.getD i 0
 | [],_,s,_,_,i=>by simp[ox.qm]
 |a::l,hn,s,f,g,i=>by
  obtain⟨b,d⟩:=Gy.1 hn;rw[AE];by_cases e:a=G
  .rw[kx e,L2 G l d f (λj k=>g j (nV _ k)) i];subst e;by_cases c:i=a
   .subst c;simp
   .simp[c]
  .rw[ku e,L2 G l d (s:=s.DX a) (by simpa[ox.DX]using f) (λj k=>g j (nV _ k)) i,aiS s a i (by rw[f];exact g a oO)];by_cases c:i=a
   .subst c;simp[b,e]
   .simp[c]
def aeX{l:List Int}{x:Int}(h:x∈l):∃i,i<l.length/\x=l.getD i 0:=by
 obtain⟨i,hi,rfl⟩:=vN.1 h;exact⟨i,hi,by simp[nI,hi]⟩
def FZ{l:List Int}{N:Int}(h:∀x∈l,0<=x/\x<=N)(j:0<=N)(i:Nat):0<=l.getD i 0/\l.getD i 0<=N:=by
 rw[nI];cases c:l[i]? with
 |none=>simpa using j
 |some z=>exact h z (nF c)
def ox.Bd.mono{s:ox}{N M:Int}(h:s.Bd N)(T:N<=M):s.Bd M:=⟨λx j=>by have:=h.wt x j;omega,λx j=>by have:=h.pk x j;omega⟩
def Pt{l:List Int}{N:Int}(h:∀x∈l,0<=x/\x<=N){y:Int}(F:0<=y/\y<=N)(i:Nat):∀x∈l.set i y,0<=x/\x<=N:=λx j=>by
 rcases xg j with q|q
 .exact h x q
 .subst q;exact F
def ox.Bd.u6{s:ox}{N:Int}(h:s.Bd N)(j:0<=N)(i c:Int):(s.u6 i c).Bd N:=by
 unfold ox.u6;split
 .refine⟨?_,h.pk⟩;dsimp only;split
  .exact Pt h.wt ⟨qH 0,j⟩ _
  .exact h.wt
 .exact h
def aaN(s:ox):s.run.Nodup:=List.nodup_range.filter _
def ox.Bd.rF{s:ox}(w:s.Wf){N:Int}(h:s.Bd N)(k:0<=N)(G:Nat):(s.rF G).Bd (N+1):=by
 obtain⟨t,P,_,_⟩:=Cy G s.run w;refine⟨Pt (λx j=>?_) kh G,?_⟩
 .obtain⟨i,_,rfl⟩:=aeX j;rw[L2 G s.run (aaN s) w.wt (λi hi=>by have:=VF hi;have:=w.n;omega) i];have:=FZ h.wt k i;split<;>omega
 .show∀x∈(s.qm G s.run).pk.set G ((s.qm G s.run).pk.getD G 0+1),_
  rw[P];have:=FZ h.pk k G;exact Pt (λx j=>by have:=h.pk x j;omega) kh G
def ox.Wf.rF{s:ox}(w:s.Wf)(G:Nat):(s.rF G).Wf:=by
 obtain⟨a,b,k,A⟩:=Cy G s.run w;exact⟨a.n,a.st,by simp[ox.rF,a.wt],by simp[ox.rF,a.pk]⟩
variable {Y Z:kY}
def sQ.trans'(k:sQ h X Y)(k':sQ h Y Z):sQ h X Z:=λl a=>(k' l a).trans (k l a)
section
attribute [local irreducible] kE lM AW mU lL mG mC lj lT ly kN AS D5 ox.rb ox.pick
def acC(X:kY)(h b:Nat)(s:ox)(i:Int)(o:CM X h b s)(w:s.Wf):mZ prog 88 [lQ (18,h) b,kq i] X (.mz []) (λC _=>sQ h X C/\CM C h b (s.u6 i 1)):=by have W:=kS JJ (O9 X h b s i 1 o w);refine kz func88 O ntmps88 O ki [] O λE S N j=>?_;exact dP
def ag8(X:kY)(h b:Nat)(s:ox)(i:Int)(o:CM X h b s)(w:s.Wf):mZ prog 86 [lQ (18,h) b,kq i] X (.mz []) (λC _=>sQ h X C/\CM C h b (s.u6 i 0)):=by have W:=kS JJ (O9 X h b s i 0 o w);refine kz func86 O ntmps86 O ki [] O λE S N j=>?_;exact dP
def akr(X:kY)(h b:Nat)(s:ox)(i:Int)(o:CM X h b s)(w:s.Wf):mZ prog 87 [lQ (18,h) b,kq i] X (.mz []) (λC _=>sQ h X C/\CM C h b (s.u6 i 2)):=by have W:=kS JJ (O9 X h b s i 2 o w);refine kz func87 O ntmps87 O ki [] O λE S N j=>?_;exact dP
def akp(X:kY)(h b:Nat)(s:ox)(o:CM X h b s)(w:s.Wf):mZ prog 65 [lQ (18,h) b] X (.sl none 1 (s.run.map wj)) (λC _=>C=X):=by
 have a:=o.o;have hn:=w.n;have g:=w.st;unfold ox.av at a;unfold ox.run;refine kz func65 O ntmps65 O ki [_] O λE S N l=>?_;refine wT ?_;refine lU (lL.token 3 3 0 3 O O) ?_;refine kU (λj:Nat=>⟨[(0,lQ (18,h) b),(3,.sl (some 3) 1 (((List.range j).filter s.rb).map wj)),(13,.raw (18,h) [1] (.slice (some ⟨b,1,none⟩) s.n 8)),(14,kq (s.n:Nat)),(15,kq (j:Nat))],[(4999,.ext (Sg X)),(3,.tail 3 1 ((List.range j).filter s.rb).length)]⟩) (λj=>j<=s.n) (λj=>s.n- j) 0 (kO _) ed (λj i=>?_);have T:((List.range j).filter s.rb).length<=256:=oG (vL _ _) jY;by_cases Z:j<s.n
 .have t:=uD s.rb j;have L:s.st[j]?=some (s.st.getD j 0):=gh;have K:s.rb j=decide (s.st.getD j 0=0):=by unfold ox.rb;rfl
  generalize s.st.getD j 0=z at L K;have V:(s.st.map kq)[j]?=some (kq z):=gi;by_cases k:z=0
  .rw[K,kx (by simp[k])]at t
   repeat (first|(refine l7 (lL.as 23 (wj j) O) ?_;refine wTs ?_)|refine wTs ?_)
   exact cS
  .rw[K,ku (by simp[k]),oT]at t;refine wT ?_;exact cS
 .obtain rfl:j=s.n:=by omega
  refine wT ?_;exact ns O (O) λ_=>⟨gw,trivial⟩
def akq(X:kY)(h n:Nat)(a:1<=n)(c:n<=8):mZ prog 63 [kq (n:Nat)] X (.mz [.hv 4998,kq 0]) (λC v=>∃b,v= .pointer (some ⟨b,0,none⟩)/\C=X.put (18,h) (.var b (ox.new n).av)):=by
 have c1:¬((n:Nat):Int)<1:=eY;have c2:¬((n:Nat):Int)>8:=eY;have c3:¬8<((n:Nat):Int):=eY;refine kz func63 O ntmps63 O ki [_,_] O λE S N i=>?_
 repeat (first|(refine BC (18,h) (ox.new n).av O O O O h8 (λH=>Wk.data O) ?_)|refine tT ?_)
 intro b;refine wV ?_;exact uq (v:=.pointer (some ⟨b,0,none⟩)) (.inr O) O ⟨b,rfl,rfl⟩ λ_=>⟨vl O,gx,trivial⟩
def ag9(X:kY)(h b:Nat)(s:ox)(p:Int)(o:CM X h b s)(w:s.Wf)(d:s.Bd 1000000)(g: -1000000000000<=s.pW/\s.pW<=1000000000000):mZ prog 36 [lQ (18,h) b,kq p] X (.mz [wj ((s.pick p).getD 0),kA (s.pick p).isSome]) (λC _=>sQ h X C/\CM C h b (match s.pick p with|some tk=>s.rF tk|none=>s)):=by
 have W:=lH func65 (akp X h b s o w);have a:=o.o;have hn:=w.n;have hl1:=w.wt;have D:=w.pk
 have hlr:s.run.length<=8:=by have:=vL s.rb (List.range s.n);rw[Gj]at this;unfold ox.run;omega
 have hrn:∀i∈s.run,i<8:=λi hi=>by have:=VF hi;omega
 have V:s.run.Nodup:=List.nodup_range.filter _;unfold ox.av at a;refine kz func36 O ntmps36 O ki [_,_] O λE S N m=>?_;by_cases k:s.run.length=0
 .have e:s.pick p=none:=by unfold ox.pick;rw[kx k]
  rw[e];have hll:(s.run.map wj).length=0:=by rw[kX];exact k
  refine wT ?_;exact ns O (⟨λ_ _=>rfl,o⟩) λ_=>⟨gx,gx,trivial⟩
 .obtain⟨v,q,F,P⟩:=ahN p (n:=s.run.length) kh;have e:s.pick p=s.run[D5 p s.run.length]? :=by unfold ox.pick;rw[ku k]
  rw[kQ v]at e;generalize t:s.run[D5 p s.run.length]=tk at e;have htk:tk<8:=hrn tk (by rw[<-t];exact ng v);rw[e];have hll:(s.run.map wj).length=s.run.length:=kX _;have J:¬((s.run.length:Nat):Int)=0:=eY;have htm:(s.run.map wj)[D5 p s.run.length]?=some (wj tk):=by rw[oI,kQ v,t];rfl
  have hrl:D5 p s.run.length<(s.run.map wj).length:=by rw[hll];exact v
  have f:((s.run.length:Nat):Int)≠0:=eY
  have T:(p.tmod (s.run.length:Nat)+(s.run.length:Nat)).tmod (s.run.length:Nat)=((D5 p s.run.length:Nat):Int):=by
   rw[af5 kh];exact P
  repeat (first|(apply Vv;(focus (first|exact t6 O O O f T|exact t6 O O O f O));(focus exact ig))|refine wTs ?_)
  refine lU (lL.as 8 (wj tk) (by rw[<-t];rfl)) ?_;refine kU (λj:Nat×kY=>⟨[(0,lQ (18,h) b),(8,wj tk),(27,.sl none 1 (s.run.map wj)),(28,kq ((s.run.length:Nat))),(29,kq (j.1:Nat))],[(4999,.ext (Sg j.2))]⟩) (λj=>j.1<=s.run.length/\sQ h X j.2/\CM j.2 h b (s.qm tk (s.run.take j.1))) (λj=>s.run.length- j.1) (0,X) ⟨kO _,λ_ _=>rfl,o⟩ ed (λj l=>?_);obtain⟨j,Y⟩:=j;dsimp only at l⊢;obtain⟨l,u,I⟩:=l;have r:=I.o;unfold ox.av at r;obtain⟨A,U,f2,f3⟩:=Cy tk (s.run.take j) w;have hsm:=afT tk (s.run.take j) (s:=s) (M:=1000000) d.wt kh;have B:(s.run.take j).length<=8:=fy;have l1:=A.wt;have l2:=A.pk;have hbp:=d.pk;rw[<-U]at hbp;by_cases Z:j<s.run.length
  .have z:j<(s.run.map wj).length:=by rw[hll];exact Z
   have hi8:s.run[j]<8:=hrn _ (ng Z);have K:s.run[j]?=some s.run[j]:=kQ Z
   have hsn:s.qm tk (s.run.take (j+1))=if s.run[j]=tk then s.qm tk (s.run.take j)else(s.qm tk (s.run.take j)).DX s.run[j]:=by rw[<-vM Z,W1]
   generalize hi:s.run[j]=i at hi8 K hsn;have hsi:some (wj s.run[j])=some (wj i):=by rw[hi]
   have him:(s.run.map wj)[j]?=some (wj i):=by rw[oI,K];rfl
   have him2:(s.run.map wj)[j]?=some (kq (i:Nat)):=him;generalize s.qm tk (s.run.take j)=R at I r A U f2 f3 hsm l1 l2 hsn hbp;by_cases c:i=tk
   .rw[kx c]at hsn;have c':(i:Int)=(tk:Int):=eY;have c2:¬((i:Nat):Int)≠((tk:Nat):Int):=eY
    repeat (first|(refine l7 (lL.as 32 (wj i) hsi) ?_;refine wTs ?_)|refine wTs ?_)
    refine⟨(j+1,Y),⟨Z,u,by rw[hsn];exact I⟩,by dsimp only;omega,ed⟩
   .rw[ku c]at hsn;have c2:((i:Nat):Int)≠((tk:Nat):Int):=eY;have L:R.wt[i]?=some (R.wt.getD i 0):=gh;have hyb:=FZ hsm kh i;have hbu:R.DX i={R with wt:=R.wt.set i (R.wt.getD i 0+1),pW:=if R.pW<R.wt.getD i 0+1 then R.wt.getD i 0+1 else R.pW}:=rfl;generalize R.wt.getD i 0=y at L hyb hbu;have hem:(R.wt.map kq)[i]?=some (kq y):=gi
    repeat (first|(refine l7 (lL.as 32 (wj i) hsi) ?_;refine wTs ?_)|refine wTs ?_)
    refine⟨(j+1,(Y.put (18,h) (.var b ?fa)).put (18,h) (.var b ?fb)),⟨Z,?k1,?k2⟩,by dsimp only;omega,?sub⟩
    case sub=>(refine lL.sub ⟨?_,?_,?_⟩<;>repeat' (first|exact True.intro|rfl|apply And.intro))
    case k1=>exact u.trans' (sQ.put.trans' sQ.put)
    case k2=>
     rw[hsn,hbu];refine⟨?_⟩;dsimp only;rw[kC];simp only[ox.av,uT];rfl
  .have z:¬j<(s.run.map wj).length:=by rw[hll];exact Z
   obtain rfl:j=s.run.length:=eY;rw[nQ]at I r hsm l1 l2 hbp U;have hpk:s.rF tk={s.qm tk s.run with wt:=(s.qm tk s.run).wt.set tk 0,pk:=(s.qm tk s.run).pk.set tk ((s.qm tk s.run).pk.getD tk 0+1)}:=rfl;generalize s.qm tk s.run=R at I r hsm l1 l2 hbp hpk;have H:R.wt[tk]?=some (R.wt.getD tk 0):=gh;have G:R.pk[tk]?=some (R.pk.getD tk 0):=gh;have hyb:=FZ hbp kh tk;generalize R.wt.getD tk 0=x at H;generalize R.pk.getD tk 0=y at G hyb hpk;have hem1:(R.wt.map kq)[tk]?=some (kq x):=gj;have hem2:(R.pk.map kq)[tk]?=some (kq y):=gk;refine wT ?_;refine ns O ?_ (λ_=>⟨gx,gx,trivial⟩);refine⟨u.trans' (sQ.put.trans' sQ.put),?_⟩;rw[hpk];refine⟨?_⟩;rw[kC];simp only[ox.av,uT];rfl
end
