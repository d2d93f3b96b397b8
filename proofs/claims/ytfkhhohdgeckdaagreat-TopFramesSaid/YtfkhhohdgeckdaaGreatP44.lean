/- Part of the proof, without conditions. -/
import Derived.Test.YtfkhhohdgeckdaaGreatP43
import Derived.Test.YtfkhhohdgeckdaaGreatP27
namespace Go.Proofs.YtfkhhohdgeckdaaGreat
open Go RowKit Proofs.Tryz
set_option linter.all false
set_option maxRecDepth 100000
set_option maxHeartbeats 16000000
def Wq(v:Int):1<=(pd v).kind/\(pd v).kind<=4:=by
 unfold pd;dsimp only;omega
structure Xw(n i:Nat)(r:List (List qn)):Prop where
 l:r.length=n
 c:∀j a,r[j]?=some a->a.length*n+j<=i+(n- 1)
 k:∀a∈r,∀o∈a,1<=o.kind/\o.kind<=4
theorem N8{n:Nat}(B:0<n):∀(vs:List Int) (i:Nat) (r:List (List qn)),Xw n i r->Xw n (i+vs.length) (qi n i r vs)
 | [],i,r,h=>h
 |v::vs,i,r,h=>by
  unfold qi;rw[sc,show i+(vs.length+1)=i+1+vs.length by omega];refine N8 B vs (i+1) _ ?_;have T:i%n<n:=AK _ B;have p:=Nat.div_add_mod i n;obtain⟨r0,t⟩:∃r0,r[i%n]?=some r0:=⟨_,kQ (by rw[h.l];exact T)⟩;have Y:r.getD (i%n) []=r0:=by rw[nI,t];rfl
  refine⟨by rw[q7];exact h.l,λj a N=>?_,λa N o U=>?_⟩
  .by_cases e:i%n=j
   .subst e;rw[vQ (by rw[h.l];exact T)]at N;injection N with N;subst N;rw[Y,lA,List.length_singleton];have b:=h.c _ _ t;generalize r0.length=q at b⊢
    have c:q<=i/n:=by refine Nat.le_of_lt_succ (Zd (a:=n) ?_);rw[sb,A3 (i/n) n];omega
    have k:q*n<=n*(i/n):=by rw[A3 n];exact mH n c
    rw[lZ];omega
   .rw[DH e]at N;have:=h.c j a N;omega
  .rcases xg N with q|q
   .exact h.k a q o U
   .subst q;rcases rJ.1 U with q|q
    .rw[Y]at q;exact h.k _ (nF t) o q
    .rw[s7.1 q];exact Wq v
def Wp(l:List Int){n:Nat}(B:0<n):∀a∈oN l n,a.length<=24/\ ∀o∈a,1<=o.kind/\o.kind<=4:=by
 have k:Xw n 0 (List.replicate n []):=by
  refine⟨pj,λj a N=>?_,λa N=>?_⟩
  .have i:=(mS.1 N).1;rw[pj]at i;rw[GQ,kx i]at N;injection N with N;subst N;simp;omega
  .rw[xe N];intro o U;cases U
 have h:=N8 B (l.take (n*24)) 0 _ k;intro a N;unfold oN at N;refine⟨?_,h.k a N⟩;obtain⟨j,i,e⟩:=vN.1 N;have b:=h.c j a (by rw[kQ i,e]);have c:(l.take (n*24)).length<=n*24:=fA;refine Nat.le_of_lt_succ (Zd (a:=n) ?_);rw[sb,A3 24 n];omega
def Ly(v:Int)(l:List Int):(uJ v l).Ok:=by
 have i:=DE v (show(1073741824:Int)≠0 by omega);have a:=DD v (show(0:Int)<1073741824 by omega);unfold uJ;dsimp only;generalize v%1073741824=k at i a⊢;have hn:((1+k%4).toNat:Int)=1+k%4:=GF kh;refine⟨?_,?_,?_,?_,?_⟩
 .dsimp only;split<;>omega
 .dsimp only;omega
 .dsimp only;rw[Lx];omega
 .dsimp only;rw[Lx,hn];omega
 .dsimp only;exact Wp l kh
variable {n:Nat}
def ahA(a:1<=n)(b:n<=8):(ox.new n).Wf:=⟨⟨a,b⟩,rfl,rfl,rfl⟩
def ahC(n:Nat):(ox.new n).Bd 0:=by
 refine⟨λx j=>?_,λx j=>?_⟩<;>
 .have:x=0:=by
   have k:x∈(List.replicate 8 (0:Int)):=j;exact xe k
  omega
def ahB(n t:Nat):(ox.new n).st[t]?≠some 2:=by
 intro h;have p:(List.replicate 8 (0:Int))[t]?=some 2:=h;rw[GQ]at p;split at p
 .injection p with p;omega
 .cases p
def aiF{c:MI}(k:c.Ok):(lX.fresh c).n=c.ops.length+c.mN.toNat+1:=by
 unfold lX.n lX.fresh;simp
def S9{c:MI}(k:c.Ok):(lX.new c).Safe:=by
 have u:=k.f;have kn:=k.n;have o:=k.r;have m:c.ops.length+c.mN.toNat+1<=8:=eY;have d:=aiF k;have w:=ahA (n:=c.ops.length+c.mN.toNat+1) kh m;have tn:(lX.fresh c).tb.n=(lX.fresh c).n:=by rw[d];rfl
 unfold lX.new;refine⟨?_,?_,lX.zo w _,?_,lX.Hm (ahC _) (qH _) _,?_,?_,?_,?_,?_,λt s=>?_⟩
 .exact FV _ _ kh
 .exact⟨qH _,by show(0:Int)<=20000;omega⟩
 .show(lX.pJ (lX.fresh c) _).n=_
  rw[lX.Fg];exact tn
 .show 0<=(lX.pJ (lX.fresh c) _).pW/\(lX.pJ (lX.fresh c) _).pW<=_
  rw[lX.z0];exact⟨qH _,by show(0:Int)<=0+8;omega⟩
 .show(lX.fresh c).n<=8
  rw[d];exact m
 .exact kO _
 .intro x j;obtain⟨l,g,rfl⟩:=sM.1 (show x∈c.ops.map λl=>(⟨l,0,none,none⟩:wa)from j);refine⟨⟨kO _,kO _,λw h=>kd,λw h=>kd,.inl O,λh=>?_⟩,(k.o l g).2⟩;rcases h with h|h<;>exact absurd O h
 .intro x j;obtain⟨i,-,rfl⟩:=sM.1 (show x∈(List.range c.mN.toNat).map λi=>qf.new ((c.ops.length+i:Nat):Int)from j);exact qf.sd.new _
 .refine X3 w tn (λt h=>absurd h (ahB _ t)) t ?_;exact s
variable {S:St}{v:Value}{g:Nat}
def aoy{a t:Nat}{x:AV}(N:S.t a=some (.ptr g 0 []))(u:S.h g=some (.var x))(o:kM.sa t=some (na x,lE x))(n:mO x=true):MD prog S v (.cell a t) x:=⟨g,x,N,u,kM.u5 o,.inl (Wk.data n)⟩
variable {R:Prop}
def BS{Q:Prop}(k:R)(h:zT R->Q:=by intro kHid;(first|(first|with_reducible refine Rr ?_|(first|(first|with_reducible refine MK ?_|with_reducible refine G5 ?_|refine zU (l:=0) O ?_|refine G6 ?_|refine CP ?_|refine zq ?_|refine Fe ?_|refine CB ?_|(apply Wc;(focus (exact pt O O O O O (CO.out iv hc) j7 O));(focus exact ig))|(refine vD O O O O O (CO.out iv hc) j7 O h8 ?_)|refine tT ?_)|((first|apply Vv|apply Wv);(focus exact gJ);(focus exact ig))|(refine vD O O O O O (sR.out iv) j7 O h8 ?_)|(apply Wc;(focus (exact pt O O O O O (sR.out iv) j7 O));(focus exact ig))|(refine DO O O O O O O iv j7 O h8 ?_)|(apply Wc;(focus (exact xS O O O O O O iv j7 O));(focus exact ig)))|((first|apply Vv|apply Wv);(focus exact gZ);(focus exact ig))|((first|apply Vb|apply Wb);(focus exact gT);(focus exact ig)))|((first|apply Vb|apply Wb);(focus (first|exact oR xF O O));(focus exact ig))|((first|apply Vv|apply Wv);(focus exact gM);(focus exact ig)));exact kHid.out):Q:=h ⟨k⟩
def MU{Q:Prop}(k:R)(h:zT R->Q:=by intro kHid;(repeat (first|refine wU1 ?_|((first|apply Vv|apply Wv);(focus exact gJ);(focus exact ig))|(refine vD O O O O O (sR.out iv) j7 O h8 ?_)|(apply Wc;(focus (exact pt O O O O O (sR.out iv) j7 O));(focus exact ig))|(refine DO O O O O O O iv j7 O h8 ?_)|(apply Wc;(focus (exact xS O O O O O O iv j7 O));(focus exact ig))|((first|apply Vv|apply Wv);(focus exact gZ);(focus exact ig))|((first|apply Vb|apply Wb);(focus exact gT);(focus exact ig))|((first|apply Vb|apply Wb);(focus (first|exact oR xF O O));(focus exact ig))|((first|apply Vv|apply Wv);(focus exact gM);(focus exact ig))));exact kHid.out):Q:=h ⟨k⟩
def wo:List (List qn):= [[⟨1,{data:= #[97]},{data:= #[49]},0#64⟩],[⟨3,{data:= #[97]},{data:= #[]},1#64⟩]]
def Nl:MI:=⟨4,9,0,wo⟩
def Qq:Nl.Ok:=by
 refine⟨by decide,by decide,by decide,by decide,λl g=>?_⟩;simp[Nl,wo]at g;rcases g with rfl|rfl<;>simp
noncomputable def rZ:Nat->lX
 |0=>lX.new Nl
 |j+1=>((rZ j).step (j:Nat)).1
theorem Gc:∀j,(rZ j).Safe
 |0=>S9 Qq
 |j+1=>(Gc j).step _
theorem alW:lX.new Nl=rZ 0:=rfl
theorem alV(j:Nat):((rZ j).step (j:Nat)).1=rZ (j+1):=rfl
variable {h:Nat}
def Ww{k d:Nat}(w:28<=k):¬Xy h (k,d):=by
 rintro(a|⟨_,a,_⟩|⟨_,a,_⟩)
 .have:=Az a;dsimp only at this;omega
 .dsimp only at a;omega
 .dsimp only at a;omega
structure amB:Prop where
 e:(rZ 60).ended=true
 l:(rZ 60).ev.length=4
 s:(rZ 60).seq=3#64
 v:∃x:mL,vB (rZ 60).H 1 [] 0= [x]/\0<x.val.n
 o:VOk (rZ 60).H 1 [] 0
 i:(rZ 60).H.idle=true
section
attribute [local irreducible] kE lM AW mU lL mG mC lj lT ly kN AS lF kP.mm kP.waits kP.free BA kP.u9 mK mo kG.read lh kP.me kG.write kG.may pf kG.look kG.due yt kG.new lX.tell
section
attribute [local irreducible] uJ qX
def aae(X:kY)(h:Nat)(v T:Int)(ops:List Int)(y: -9223372036854775808<=v/\v<=9223372036854775807)(z: -9223372036854775808<=T/\T<=9223372036854775807)(g:∀x∈ops,-9223372036854775808<=x/\x<=9223372036854775807)(U:ops.length<=17592186043904)(k:X (3,h)=none):
 mZ prog 16 [kq v,kq T,lJ ops] X (.mz [.hv 4998,(uJ v (qX (T%70).toNat ops)).av]) (λC r=>∃p:va,r= .pointer (some ⟨p.b,0,none⟩)/\pw h X C/\oX C h p (lX.new (uJ v (qX (T%70).toNat ops)))):=by
 have D:=DE T (show(70:Int)≠0 by omega);have b:=DD T (show(0:Int)<70 by omega);have B:=GX T 70 kh kh z;obtain⟨n,hn⟩:∃n:Nat,T%70=(n:Int):=⟨(T%70).toNat,by omega⟩;rw[hn]at B;rw[show(T%70).toNat=n by omega]
 have R:∀x∈qX n ops,-9223372036854775808<=x/\x<=9223372036854775807:=λx j=>by
  unfold qX at j;rcases rJ.1 j with q|q
  .have:=TE q;omega
  .exact g x q
 have w:(qX n ops).length<=1000000000000000:=by unfold qX;rw[lA,AB];omega
 have c1:=ajd n kh ops kh;have c2:=aje v y (qX n ops) R w;have u:=Ly v (qX n ops);generalize uJ v (qX n ops)=c at c2 u⊢;have W:=kD DC (B);have A:=kD func34 (c1);have Z:=kD func21 (c2);have a:=kS func24 (RL X h c u k);refine kz func16 O ntmps16 O ki [_,_] O λE S N i=>?_;refine MU ?_;rintro Y P ⟨p,rfl,t,s⟩;have V:=lH Dg (zj Y h p _ s)
 repeat (first|(refine l7 (lL.Cs 25 (19,h) [] (l0:=(0,0)) (p:= []) (v:=.pointer (some ⟨p.b,0,none⟩)) O) ?_;refine BS ?_)|(refine l7 (lL.Cs 29 (19,h) [] (l0:=(0,0)) (p:= []) (v:=.pointer (some ⟨p.b,0,none⟩)) O) ?_;refine BS ?_)|refine BS ?_)
 exact uq (v:=.pointer (some ⟨p.b,0,none⟩)) (.inr O) O ⟨p,rfl,t,s⟩ λ_=>⟨vl (l:=(0,0)) (p:= []) O,aoy O O O O,trivial⟩
end
section
attribute [local irreducible] rZ lX.step lX.new
def ahn(F:amB)(X:kY)(h:Nat)(l:X (3,h)=none)(J:∀k d,36<=k->k<=42->X (k,d)=none):mZ prog 15 [] X (kA true) (λ_ _=>True):=by
 have u:=Qq;have hnew:=RL X h Nl Qq l;have T:(AV.v (Value.int IntKind.u64 1))=qU 1#64:=by unfold qU w5;rfl
 have eav:AV.agg 4 [AV.v (.int .i64 4),AV.v (.int .i64 9),kq 0,.sl none (0+1) [.sl none (3+1) [.agg 4 [.v (.int .i64 1),.v (.string {data:= #[97]}),.v (.string {data:= #[49]}),qU qn.zero.add]],.sl none (3+1) [.agg 4 [.v (.int .i64 3),.v (.string {data:= #[97]}),Ps qn.zero.val,.v (.int .u64 1)]]]]=Nl.av:=by rw[T];rfl
 have s:=kS func24 (hnew);refine kz func15 O ntmps15 O ki [_] O λE S N o=>?_
 repeat (first|refine Vb (qo q9 O O O O O O O O) hP ?_|(refine l7 (lL.aam 7 O) ?_;refine l7 (lL.aam 9 O) ?_;refine Vb (qo vS O O O O O O O O) hP ?_;refine l7 (lL.aam 10 O) ?_)|refine BS ?_)
 refine l7 (lL.as 11 Nl.av (py some eav)) ?_;refine MU ?_;rintro Y R ⟨p,rfl,H,C⟩;have t:=lH Dg (zj Y h p _ C)
 repeat (first|(refine l7 (lL.Cs 18 (19,h) [] (l0:=(0,0)) (p:= []) (v:=.pointer (some ⟨p.b,0,none⟩)) O) ?_;refine BS ?_)|(refine l7 (lL.Cs 22 (19,h) [] (l0:=(0,0)) (p:= []) (v:=.pointer (some ⟨p.b,0,none⟩)) O) ?_;refine BS ?_)|refine BS ?_)
 refine lU (lL.Cs 1 (19,h) [] (l0:=(0,0)) (p:= []) (v:=.pointer (some ⟨p.b,0,none⟩)) O) ?_;refine kU (λj:Nat×kY=>⟨[(1,lQ (19,h) p.b),(3,kq (j.1:Nat))],[(4999,.ext (Sg j.2))]⟩) (λj=>j.1<=60/\(∃p':va,p'.b=p.b/\oX j.2 h p' (rZ j.1))/\ ∀k d,36<=k->k<=42->j.2 (k,d)=none) (λj=>60- j.1) (0,Y) ⟨kO _,⟨p,rfl,alW▸C⟩,λk d e k2=>(H _ (Ww kh)).trans (J k d e k2)⟩ ed (λj i=>?_);obtain⟨j,W⟩:=j;obtain⟨g0,⟨p',P,I⟩,B⟩:=i;dsimp only at g0 I B⊢;by_cases c:j<60
 .have m:((j:Nat):Int)<60:=by omega
  have cs:=acF adk W h p' (rZ j) ((j:Nat):Int) I (Gc j);rw[P]at cs;have D:=kS Dh (cs);refine MU ?_;rintro V R ⟨hV1,w,f,hV2⟩;refine MU ?_;refine⟨(j+1,V),⟨c,⟨w,f,alV j▸hV2⟩,λk d e k2=>(hV1 _ (Ww kh)).trans (B k d e k2)⟩,by dsimp only;omega,?_⟩;exact ed
 .obtain rfl:j=60:=by omega
  have m:¬(((60:Nat):Int)<60):=eY;have G:(rZ 60).H.Ok:=(Gc 60).hk.ok (by have:=(Gc 60).pk;omega);have fe:=F.e;have fl:=F.l;have fs:=F.s;obtain⟨x,U,fn⟩:=F.v;have fi:=F.i;have hev:((rZ 60).ev.map xD.av).length=4:=by rw[kX];exact fl
  have c1:=U7 W h p' (rZ 60) I;have c2:=ahg W h p' (rZ 60) I kh;have c3:=acK W h p' (rZ 60) I;have y:=zj W h p' (rZ 60) I;have A:=ako W h p'.hb (rZ 60).H I.hl G 1 F.o kh B;obtain⟨q,eq,g⟩:=I.hl;have K:=ahh W h q (rZ 60).H g G.w;rw[eq,fi]at K;rw[P]at c1 c2 c3 y;rw[fe]at c1;rw[fs]at c3;rw[U]at A;have Z:=lH func28 (c1);have z:=lH func14 (c2);have r:=lH func45 (c3);have L:=lH Dg (y);have d8:=lH func17 (A);have d9:=kS func46 (K);have n:w5 3#64=3:=by unfold w5;rfl
  have fl2:(((rZ 60).ev.length:Nat):Int)=4:=eY;have a:(([x]:List mL).length:Int)=1:=rfl;have b:0<([x]:List mL).length:=Nat.zero_lt_one;have h20:([x]:List mL)[0]?=some x:=rfl;refine MU ?_;rintro V R M;exact dz
def ajf(F:amB):mG prog 15 [] (kA true):=E0 O O (ahn F Nf 0 O λ_ _ _ _=>rfl)
end
end
