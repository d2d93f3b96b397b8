/- Part of the proof, without conditions. -/
import Derived.Test.YtfkhhohdgeckdaaGreatP24
namespace Go.Proofs.YtfkhhohdgeckdaaGreat
open Go RowKit Proofs.Tryz
set_option linter.all false
set_option maxRecDepth 100000
set_option maxHeartbeats 16000000
variable {X Y:kY}{h hb:Nat}
variable {l:nz}
section
attribute [local irreducible] kE lM AW mU lL mG mC lj lT ly kN AS
def abR(l:List Int)(n:Nat)(a:l.length=n+1)(g:n<=1000):mG prog 48 [lJ l] (.mz [lJ (l.take n),kq (l[n]'kh)]):=by
 have T:(l.map kq).length=n+1:=by rw[kX];exact a
 refine kR func48 O ntmps48 O ki [_,_] O λE S=>?_;refine wL ?_;refine Wri 7 ((n:Nat):Int) O kh ?_;refine wL ?_;refine Wri 12 ((n:Nat):Int) O kh ?_;refine wL ?_;exact⟨.inr O,gr,gr,trivial⟩
def agc(w:List Int)(b:Int)(g:w.length<=1000):mG prog 48 [lJ (w++[b])] (.mz [lJ w,kq b]):=by have h:=abR (w++[b]) w.length ki g;have c:(w++[b])[w.length]'ki=b:=e1;have k:(w++[b]).take w.length=w:=e1;rwa[c,k]at h
def ai7(M:List Int)(n:Nd):mG prog 50 [lJ M,n.av] (.fn (.func 95) [] [.ref n.av,.ref (lJ M)]):=by
 refine kR func50 O ntmps50 O ki [_] O λE S=>?_;exact a9
theorem LG{x:Int}:∀{l:List Int} {i:Nat},0<=n9 x i l->x∈l
 | [],i,h=>by unfold n9 at h;omega
 |y::l,i,h=>by
  unfold n9 at h;split at h
  .rename_i e;have:y=x:=by simpa using e
   exact this▸oO
  .exact nV _ (LG h)
def Tp{x:Int}{l:List Int}(h:x∈l):0<=lF l x:=by
 have H:∀(l:List Int) (i:Nat),x∈l->(i:Int)<=n9 x i l:=by
  intro l
  induction l with
  |nil=>intro i h;cases h
  |cons y l z=>
   intro i h;unfold n9;split
   .exact qH _
   .rename_i F;rcases mf.1 h with rfl|h
    .simp at F
    .have:=z (i+1) h;omega
 exact H l 0 h
def aou(l:List Int)(x:Int):0<=lF l x↔x∈l:=⟨λh=>LG (i:=0) h,λh=>Tp h⟩
noncomputable def E1(H:kG)(M:List Int)(b:Int):Nd:=if(H.look b).2=true/\b∉M then(H.look b).1 else⟨true,[],[],[],[]⟩
attribute [local irreducible] lF mK mo kG.read kG.look
def amU(X:kY)(h d:Nat)(H:kG)(M:List Int)(b:Int)(D:mY X h d H)(w:H.Wf)(g:M.length<=1000):mZ prog 49 [lQ (1,h) d,lJ M,kq b] X (E1 H M b).av (λC _=>C=X):=by
 obtain⟨p,rfl,Y⟩:=D;have W:=lH func93 (XN X h p H b Y w);have z:=kD Gv (yQ M b kh);have u:decide (0<=lF M b)=decide (b∈M):=A4.2 (aou M b);rw[u]at z;cases x:(H.look b).2
 .rw[x]at W;have e:E1 H M b=⟨true,[],[],[],[]⟩:=by unfold E1;rw[ku (by rw[x];simp)]
  rw[e];exact a7
 .rw[x]at W;by_cases c:b∈M
  .have e:E1 H M b=⟨true,[],[],[],[]⟩:=by unfold E1;rw[ku (by simp[c])]
   rw[e];have c':decide (b∈M)=true:=kW c;rw[c']at z;exact a7
  .have e:E1 H M b=(H.look b).1:=by unfold E1;rw[kx ⟨x,c⟩]
   rw[e];have c':decide (b∈M)=false:=la c;rw[c']at z;refine nW func49 O ntmps49 O ki [_] O λE S=>hTF λN i=>?_;refine wE ?_;exact BD (v:=undef) (.inr O) O O ⟨⟨_,_,rfl,rfl,kM.u5 O,.inl (Wk.data O)⟩,trivial⟩
def afR(l:List Int)(i:0<l.length)(g:l.length<=1000000):Ii prog 96 [lJ l] [] (.sl (some 5) 1 (l.map kq)) [(5,.tail 3 1 l.length)]:=by
 have T:0<(l.map kq).length:=by rw[kX];exact i
 refine nh AT O J2 O ki [_] O λE S=>hTF λN j=>?_;refine wL ?_;refine Wv (HG O O O O T) hP ?_;refine wL ?_;exact Nb ⟨⟨ii,rfl⟩,gv,trivial⟩
def ahf(M:List Int)(o:Nd)(k:0<M.length)(e:M.length<=1000)(w:o.ks.length<=1000)(l:Nat)(J:Nat->kY->Prop)(X:kY)(g:J 0 X)
 (F:∀j Y (i:j<o.ks.length),J j Y->YX prog l [kq (j:Nat),lJ (M++[o.ks[j]])] Y true (J (j+1))):
 mZ prog 95 [.fn (.yield l) [] [],.ref o.av,.ref (lJ M)] X (.mz []) (λC _=>J o.ks.length C):=by
 have T:(o.ks.map kq).length=o.ks.length:=kX _;have x:=afR M k kh;have K:=nD AT (x);refine nW func95 O ntmps95 O ki [] O λE S=>hTF λN m=>?_;unfold Nd.av;refine wE ?_;refine kU (λj:Nat×kY=>⟨[(0,.fn (.yield l) [] []),(2,.ref (lJ M)),(7,lJ o.ks),(8,kq (o.ks.length:Nat)),(9,kq (j.1:Nat))],[(4999,.ext (Sg j.2))]⟩) (λj=>j.1<=o.ks.length/\J j.1 j.2) (λj=>o.ks.length- j.1) (0,X) ⟨kO _,g⟩ (by rw[<-T];(refine lL.sub ⟨?_,?_,?_⟩<;>repeat' (first|exact True.intro|rfl|apply And.intro))) (λj i=>?_);obtain⟨j,Y⟩:=j;obtain⟨a,b⟩:=i;dsimp only at a b⊢;by_cases Z:j<o.ks.length
 .have n:(j:Int)<(o.ks.length:Nat):=by omega
  have c:j<(o.ks.map kq).length:=eY;have I:(M.map kq).length=M.length:=kX _;have R:M.map kq++[kq o.ks[j]]=(M++[o.ks[j]]).map kq:=e1
  repeat (first|(refine O0 (d:=21) [_,_,_,_,_,_,_] [_] O O O ?_)|refine Wc (n7 [(5,17)] K O O O O gV ii ii O O O) hP ?_|refine wEs ?_)
  refine Wb (xY (f:=kq) (G:=M) O O O O O iu iO iO) hP ?_;refine Jg _ ?_;refine⟨Y,l,[kq (j:Nat),.sl (some 17) 1 ((M++[o.ks[j]]).map kq)],[kq (j:Nat),lJ (M++[o.ks[j]])],true,J (j+1),rfl,rfl,rfl,rfl,λH=>by(repeat (first|exact xI|refine Io O ?_|refine MP ?_|refine MS ?_)),F j Y Z b,λC p=>?_⟩;exact cz
 .obtain rfl:j=o.ks.length:=by omega
  have n:¬((o.ks.length:Nat):Int)<(o.ks.length:Nat):=eY;refine wE ?_;exact BD (v:=undef) (.inl O) O b trivial
def agp(H:Hp){x y z:AV}(a:mO x=true:=by rfl)(b:mO y=true:=by rfl)(k:mO z=true:=by rfl):BL H [x,y,z] [x,y,z]:=Io a (Io b (Io k xI))
noncomputable def vB(H:kG):Nat->List Int->Int->List mL
 |0,_,_=> []
 |n+1,w,b=>if(E1 H w b).leaf=true then(E1 H w b).es else(List.range (E1 H w b).ks.length).flatMap λi=>tH (vB H n (w++[b]) ((E1 H w b).ks.getD i 0)) (oh (E1 H w b).ms (E1 H w b).ps i)
def VOk(H:kG):Nat->List Int->Int->Prop
 |0,_,_=>False
 |n+1,w,b=>(E1 H w b).leaf=true∨((∀i<(E1 H w b).ks.length,VOk H n (w++[b]) ((E1 H w b).ks.getD i 0)/\Lf (vB H n (w++[b]) ((E1 H w b).ks.getD i 0))/\(vB H n (w++[b]) ((E1 H w b).ks.getD i 0)).length<=1000000)/\(vB H (n+1) w b).length<=1000000)
def alx:(⟨true,[],[],[],[]⟩:Nd).In:=⟨⟨pD.gd.lf,pD.gd.bf,pD.gd.rs,by simp,by simp,by simp,by simp⟩,by simp,by simp,by simp,by simp,by simp⟩
def akA{H:kG}(o:H.Ok)(w:List Int)(b:Int):(E1 H w b).In:=by
 unfold E1;split
 .exact YL o b
 .exact alx
structure VmR(X Y:kY)(n b7 b8:Nat)(nd:Nd)(G:List mL):Prop where
 o:∀l,l≠(38,n)->l≠(39,n)->l≠(40,n)->l≠(41,n)->l≠(42,n)->Y l=X l
 nn:Y (38,n)=some (.var b7 nd.av)
 l:∃A cap,Y (39,n)=some (.var b8 (.raw (40,n) [] (sv 26 A (G.map mL.av).length cap)))/\Y (40,n)=some (.my 115 26 A cap (G.map mL.av))
abbrev aho(z Z:Nat):AV:=.fn (.func 47) [] [lQ (36,0) z,lQ (37,0) Z]
def mY.ael{H:kG}(k:mY X h hb H)(w:H.Wf)(o:∀l,uZ h l->Y l=X l):mY Y h hb H:=by
 obtain⟨p,rfl,Z⟩:=k;exact⟨p,rfl,Z.off w o⟩
def Ox(k:uZ h l):l.1<=16:=by
 rcases k with k|k|k|k
 .omega
 .rcases k with k|k<;>omega
 .have:=k.2.1;omega
 .omega
theorem XI(h g b1 b2:Nat)(H:kG)(hok:H.Ok):∀(n:Nat) (X:kY) (w:List Int) (b:Int),mY X h g H->X (36,0)=some (.var b1 (lQ (1,h) g))->X (37,0)=some (.var b2 (aho b1 b2))->(∀k d,38<=k->k<=42->d<=n->X (k,d)=none)->VOk H n w b->w.length+n<=1000->
 mZ prog 47 [lJ (w++[b]),lQ (36,0) b1,lQ (37,0) b2] X (pI (vB H n w b)) (λC _=>C=X)
 |0,X,w,b,_,_,_,_,h,_=>h.elim
 |n+1,X,w,b,I,c,f,hfree,z,x=>by
  have a1:=agc w b kh;have a2:=amU X h g H w b I hok.w kh;have hin:=akA hok w b;have a3:=ai7 (w++[b]) (E1 H w b);unfold VOk at z;have hvB:vB H (n+1) w b=if(E1 H w b).leaf=true then(E1 H w b).es else(List.range (E1 H w b).ks.length).flatMap λi=>tH (vB H n (w++[b]) ((E1 H w b).ks.getD i 0)) (oh (E1 H w b).ms (E1 H w b).ps i):=rfl
  rw[hvB]at z⊢;generalize E1 H w b=nd at*;obtain⟨lf,nes,nks,nps,nms⟩:=nd;dsimp only at z⊢;have W:=kD func48 (a1);have d2:=lH func49 (a2);have d3:=kD func50 (a3);unfold Nd.av at d2 d3;refine EV func47 O ntmps47 O ki [_] O O O λE hdf heb t U=>?_;have P:(!true)=false:=rfl;have J:(!false)=true:=rfl;refine xv ?_;refine wV ?_;refine xv ?_;refine wV ?_;refine xv ?_
  repeat (first|(refine Bc (d:=7) (38,n+1) (⟨false,[],[],[],[]⟩:Nd).av O CR O h8 (λH=>Wk.agg (.cons (Wk.data O) (.cons Wk.nil (.cons Wk.nil (.cons Wk.nil (.cons Wk.nil .nil)))))) ?_;intro b7)|refine tT ?_)
  refine xv ?_
  have oY:∀(S:St) (a:Act) (wd:World) (B:nE) (y:AV) (X1:kY),mg E 42 B S.t S.h a wd->kV 4999 S.H=some (.ext (Sg X1))->(∀j,j≠(38,n+1)->X1 j=X j)->S.t 4=some y->mO y=true->lS y=true->XA prog Tryz.f47 E (λC=>C=X) [y] .ret a wd:=λS a wd B y X1 r g1 gX g2 g3 g4=>
   afA O (by simp only[sL,g3];rfl) hdf heb t r ⟨.inr O,_,[(38,n+1)],g1,λp h=>kd,λj xb s=>by
    have hne:j≠(38,n+1):=λe=>by rw[e,hfree 38 (n+1) kh kh kh]at s;cases s
    exact⟨by simpa using hne,by rw[gX _ hne,s];rfl⟩,by
    funext j;simp only[kY.F6,s7];split
    .rename_i e;rw[e];exact(hfree 38 (n+1) kh kh kh).symm
    .rename_i e;exact gX _ e,⟨y,g2,l6 g4,.inl λH=>Wk.data g3⟩,trivial⟩
  cases lf
  .rw[ku ki]at z⊢;obtain⟨hv1,hv2⟩:=z.resolve_left ki;refine wV ?_;refine xv ?_
   repeat (first|(refine Bc (d:=8) (39,n+1) (.raw (40,n+1) [] (.slice none 0 0)) O Im O h8 (λH=>Wk.raw) ?_;intro b8;refine l7 (lL.MR (40,n+1) 115 26 O kg) ?_)|refine tT ?_)
   refine UB ?_;refine wV ?_;have hlk:nks.length<=4:=hin.ks;have hlw:(w++[b]).length=w.length+1:=e1;have hms:nms.length<=200:=hin.ms;have hps:nps.length<=3:=hin.ps;have hkp:nks.length<=nps.length+1:=hin.kp;have hbf:Bf nms:=hin.gd.bf
   let vLs:Nat->List mL:=λj=>(List.range j).flatMap λi=>tH (vB H n (w++[b]) (nks.getD i 0)) (oh nms nps i)
   have vLs_s:∀j,vLs (j+1)=vLs j++tH (vB H n (w++[b]) (nks.getD j 0)) (oh nms nps j):=λj=>by simp only[vLs,EO,GA,Dw,QF,oT]
   refine O3 (X0:=X) (M:=λC=>C=X) (rv:= [_]) (N:=λC=>VmR X C (n+1) b7 b8 ⟨false,nes,nks,nps,nms⟩ (vLs nks.length)) (R:=λ_=>False) (41,n+1) (42,n+1) [(2,lQ (37,0) b2),(7,lQ (38,n+1) b7),(8,lQ (39,n+1) b8)] O O hdf heb t O ki O O func95 jC jC ?held ?hit ?hN ?hR
   case held=>
    intro p Y;simp only[mf,s6,tX]at Y;rcases Y with rfl|rfl|rfl<;>exact⟨O,rfl⟩
   case hR=>intro D C _ h;exact h.elim
   case hN=>
    intro D C hD hR;obtain⟨r1,r2,A,cap,r3,r4⟩:=hR;refine wV ?_
    have hdl:∀j,j∈[((38,n+1):nz),(39,n+1),(40,n+1),(41,n+1),(42,n+1)]->X j=none:=λj s=>by
     simp only[mf,s6,tX]at s;rcases s with rfl|rfl|rfl|rfl|rfl<;>exact hfree _ _ kh kh kh
    have hno:∀j,j∉[((38,n+1):nz),(39,n+1),(40,n+1),(41,n+1),(42,n+1)]->C j=X j:=λj s=>by
     simp only[mf,s6,tX,not_or]at s;exact r1 j s.1 s.2.1 s.2.2.1 s.2.2.2.1 s.2.2.2.2
    refine⟨.inr O,C,[(38,n+1),(39,n+1),(40,n+1),(41,n+1),(42,n+1)],rfl,λp h=>ip,λj xb s=>?_,?_,⟨_,rfl,by simp,.inr ⟨(40,n+1),[],_,_,_,_,_,by simp,rfl,r4,rfl⟩⟩,trivial⟩
    .have hne:j∉[((38,n+1):nz),(39,n+1),(40,n+1),(41,n+1),(42,n+1)]:=λe=>by rw[hdl j e]at s;cases s
     exact⟨hne,by rw[hno j hne,s];rfl⟩
    .funext j;unfold kY.F6;split
     .rename_i e;exact(hdl j e).symm
     .rename_i e;exact hno j e
   case hit=>
    intro fnr l D tm htm hheld
    have key:∀rc:Loop,(∀j Z (s:j<nks.length),(Z (42,n+1)=some (.ob D (.deferred (some [])))/\Z (41,n+1)=some (.ob l (.loop rc))/\VmR X Z (n+1) b7 b8 ⟨false,nes,nks,nps,nms⟩ (vLs j))->
     YX prog l [kq (j:Nat),lJ (w++[b]++[nks[j]])] Z true (λZ=>Z (42,n+1)=some (.ob D (.deferred (some [])))/\Z (41,n+1)=some (.ob l (.loop rc))/\VmR X Z (n+1) b7 b8 ⟨false,nes,nks,nps,nms⟩ (vLs (j+1))))->
     ∀Z,(Z (42,n+1)=some (.ob D (.deferred (some [])))/\Z (41,n+1)=some (.ob l (.loop rc))/\VmR X Z (n+1) b7 b8 ⟨false,nes,nks,nps,nms⟩ (vLs 0))->
     mZ prog 95 [.fn (.yield l) [] [],.ref (⟨false,nes,nks,nps,nms⟩:Nd).av,.ref (lJ (w++[b]))] Z (.mz [])
     (λC _=>C (42,n+1)=some (.ob D (.deferred (some [])))/\agx (41,n+1) l rc (λC=>VmR X C (n+1) b7 b8 ⟨false,nes,nks,nps,nms⟩ (vLs nks.length)) (λ_=>False) C):=by
     intro rc hy Z hZ;refine mZ.aam (ahf (w++[b]) ⟨false,nes,nks,nps,nms⟩ kh kh (by show nks.length<=1000;omega) l (λj Z=>Z (42,n+1)=some (.ob D (.deferred (some [])))/\Z (41,n+1)=some (.ob l (.loop rc))/\VmR X Z (n+1) b7 b8 ⟨false,nes,nks,nps,nms⟩ (vLs j)) Z hZ hy) ?_;rintro C v ⟨o,k2,k3,L,A,cap,k5,k6⟩;exact⟨o,.inl ⟨k2,λl g1 g2 g3 g4 g5=>(uP _ g4).trans (k3 l g1 g2 g3 g4 g5),(uP _ ki).trans L,A,cap,(uP _ ki).trans k5,(uP _ ki).trans k6⟩⟩
    refine key _ ?hy _ ⟨?_,kC _ _ _,?_,?_,none,0,?_,?_⟩
    case hy=>
     rintro j Z s ⟨o,k2,k3,L,A,cap,k5,k6⟩;have hf1:∀d,d≠n+1-> ∀k,Z (k,d)=X (k,d):=λd u k=>k3 _ j9 j9 j9 j9 j9;refine DN (nt:=42) (Th:= [(2,lQ (37,0) b2),(7,lQ (38,n+1) b7),(8,lQ (39,n+1) b8)]) (λX2=>X2 (42,n+1)=some (.ob D (.deferred (some [])))/\VmR X X2 (n+1) b7 b8 ⟨false,nes,nks,nps,nms⟩ (vLs (j+1))) k2 htm O kg kg hheld ki (λX2 ⟨T,e2,e3,A',cap',e4,e5⟩=>?_) (λF n' E' ob hF hE'=>?_)
     .exact⟨(ky _ _ ki).trans T,kC _ _ _,λl g1 g2 g3 g4 g5=>(ky _ _ g4).trans (e2 l g1 g2 g3 g4 g5),(ky _ _ ki).trans e3,A',cap',(ky _ _ ki).trans e4,(ky _ _ ki).trans e5⟩
     refine wAR ?_;refine wV ?_;refine wAR ?_;refine wV ?_;refine⟨O,rfl,?_⟩;dsimp only[CE,List.cons_append,List.nil_append];generalize hZ1:Z.put (41,n+1) (.ob l ob)=Z1;have z2:Z1 (42,n+1)=some (.ob D (.deferred (some []))):=by rw[<-hZ1];exact(ky _ _ ki).trans o
     have z3:∀l,l≠(38,n+1)->l≠(39,n+1)->l≠(40,n+1)->l≠(41,n+1)->l≠(42,n+1)->Z1 l=X l:=λl g1 g2 g3 g4 g5=>by rw[<-hZ1,ky _ _ g4];exact k3 l g1 g2 g3 g4 g5
     have z4:Z1 (38,n+1)=some (.var b7 (⟨false,nes,nks,nps,nms⟩:Nd).av):=by rw[<-hZ1];exact(ky _ _ ki).trans L
     have z5:Z1 (39,n+1)=some (.var b8 (.raw (40,n+1) [] (sv 26 A ((vLs j).map mL.av).length cap))):=by rw[<-hZ1];exact(ky _ _ ki).trans k5
     have z6:Z1 (40,n+1)=some (.my 115 26 A cap ((vLs j).map mL.av)):=by rw[<-hZ1];exact(ky _ _ ki).trans k6
     have z7:Z1 (37,0)=some (.var b2 (aho b1 b2)):=(z3 _ ki ki ki ki ki).trans f;have z8:Z1 (36,0)=some (.var b1 (lQ (1,h) g)):=(z3 _ ki ki ki ki ki).trans c
     have z9:mY Z1 h g H:=I.ael hok.w λl q=>by
      have:=Ox q;exact z3 l (λe=>by rw[e]at this;simp at this) (λe=>by rw[e]at this;simp at this) (λe=>by rw[e]at this;simp at this) (λe=>by rw[e]at this;simp at this) (λe=>by rw[e]at this;simp at this)
     obtain⟨q1,K,q3⟩:=hv1 j s;have hkj:nks.getD j 0=nks[j]:=by rw[nI,kQ s];rfl
     rw[hkj]at q1 K q3;have c5:=XI h g b1 b2 H hok n Z1 (w++[b]) nks[j] z9 z8 z7 (λk d g1 g2 g3=>(z3 _ jY jY jY jY jY).trans (hfree k d g1 g2 kh)) q1 kh;have d6:=kD yN (zR nms nps j hbf.DV kh kh kh);have hpk:∀m∈oh nms nps j,m.ok=true:=λm V=>hbf.ok m (GC (List.mem_of_mem_drop V));have hpl:(oh nms nps j).length<=nms.length:=by unfold oh;simp;omega
     have d7:=kD func51 (OO (vB H n (w++[b]) nks[j]) (oh nms nps j) K hpk kh kh)
     have hvl:((vLs j).map mL.av).length<=1000000:=by
      rw[kX]
      have T:vLs nks.length=vLs j++(List.range (nks.length- j)).flatMap λi=>tH (vB H n (w++[b]) (nks.getD (j+i) 0)) (oh nms nps (j+i)):=by
       simp only[vLs];rw[show nks.length=j+(nks.length- j) by omega,List.range_add,GA,List.flatMap_map];simp
      have:=py List.length T;rw[lA]at this;have h9:(vLs nks.length).length<=1000000:=hv2;omega
     have hll:((tH (vB H n (w++[b]) nks[j]) (oh nms nps j)).map mL.av).length<=2000000:=by
      rw[kX];have:=DM (oh nms nps j) (vB H n (w++[b]) nks[j]);omega
     have c6:=λH=>(agp H:BL H [lJ (w++[b]++[nks[j]]),lQ (36,0) b1,lQ (37,0) b2] [lJ (w++[b]++[nks[j]]),lQ (36,0) b1,lQ (37,0) b2]);refine O1 ?_;refine Z0 hF zD O gN ?_
     repeat (first|refine Wv (Lg (G:= [_]) (caps:= [_,_]) O c5 O O func47 jC jC O O O c6) hP ?_|refine tT ?_)
     refine⟨.inl ⟨O,rfl⟩,_,rfl,?_⟩;rintro X2 z ⟨A',cap',rfl⟩;have z1:Z1 (41,n+1)=some (.ob l ob):=by rw[<-hZ1];exact kC _ _ _
     refine⟨(ky _ _ ki).trans ((ky _ _ ki).trans z1),(ky _ _ ki).trans ((ky _ _ ki).trans z2),λl g1 g2 g3 g4 g5=>(ky _ _ g2).trans ((ky _ _ g3).trans (z3 l g1 g2 g3 g4 g5)),(ky _ _ ki).trans ((ky _ _ ki).trans z4),A',cap',?_,?_⟩
     .rw[kC,vLs_s,hkj];simp
     .rw[ky _ _ ki,kC,vLs_s,hkj,nQ,oq]
    .exact(ky _ _ ki).trans (kC _ _ _)
    .exact λl g1 g2 g3 g4 g5=>(ky _ _ g4).trans ((ky _ _ g5).trans ((ky _ _ g3).trans ((ky _ _ g2).trans ((ky _ _ g1).trans (ky _ _ g1)))))
    .exact(ky _ _ ki).trans ((ky _ _ ki).trans ((ky _ _ ki).trans ((ky _ _ ki).trans (kC _ _ _))))
    .exact(ky _ _ ki).trans ((ky _ _ ki).trans ((ky _ _ ki).trans (kC _ _ _)))
    .exact(ky _ _ ki).trans ((ky _ _ ki).trans (kC _ _ _))
  .rw[kx O];refine wV ?_;exact λB a wd r=>oY _ a wd B _ _ r O (λj s=>by rw[w8];exact ky _ _ s) O O O
def UH:lB prog 116 (.v .nilFunc):=lR (v:=.nilFunc) (n:=1) j6 λU w=>(qV O).2 O
def ako(X:kY)(h c:Nat)(H:kG)(f:mY X h c H)(F:H.Ok)(n:Nat)(y:VOk H n [] 0)(D:n<=900)(u:∀k d,36<=k->k<=42->X (k,d)=none):mZ prog 17 [lQ (1,h) c] X (pI (vB H n [] 0)) (λC _=>C=X):=by
 refine EV func17 O ntmps17 O ki [_] O O O λE V t m S=>?_;have N:(!true)=false:=rfl;have o:(!false)=true:=rfl;refine amD ?_
 repeat (first|(refine BC (36,0) (lQ (1,h) c) O O O O h8 (λH=>Wk.data O) ?_;intro z)|(refine Bc (d:=3) (37,0) (.v .nilFunc) O UH O h8 (λH=>Wk.data O) ?_;intro Z)|refine Vv (Am rfl rfl rfl) hP ?_|refine tT ?_)
 have J:∀j,j∈[((36,0):nz),(37,0)]->X j=none:=λj i=>by
  simp only[mf,s6,tX]at i;rcases i with rfl|rfl<;>exact u _ _ kh kh
 have w:∀j,j∉[((36,0):nz),(37,0)]->(((X.put (36,0) (XB.var z (lQ (1,h) c))).put (37,0) (XB.var Z (AV.v Value.nilFunc))).put (37,0) (XB.var Z (aho z Z))) j=X j:=λj i=>by
  simp only[mf,s6,tX,not_or]at i;exact(ky _ _ i.2).trans ((ky _ _ i.2).trans (ky _ _ i.1))
 have Y:=XI h c z Z H F n (((X.put (36,0) (XB.var z (lQ (1,h) c))).put (37,0) (XB.var Z (AV.v Value.nilFunc))).put (37,0) (XB.var Z (aho z Z))) [] 0
  (f.ael F.w λl g=>by
   have:=Ox g;exact w l (λe=>by simp only[mf,s6,tX]at e;rcases e with rfl|rfl<;>simp at this))
  ((ky _ _ kg).trans ((ky _ _ kg).trans (kC _ _ _))) (kC _ _ _)
  (λk d v s I=>(w _ jY).trans (u k d kh s)) y jY
 refine Vv (Lg (G:= [_]) (caps:= [_,_]) O Y O O func47 jC jC O O O (λH=>MP (Io O (Io O xI)))) hP ?_;refine wV ?_
 exact λB a wd r=>afA O O V t m r ⟨.inr O,_,[(36,0),(37,0)],rfl,λp h=>kd,λj xb i=>by
  have q:j∉[((36,0):nz),(37,0)]:=λe=>by rw[J j e]at i;cases i
  exact⟨q,by rw[w j q,i];rfl⟩,by
  funext j;unfold kY.F6;split
  .rename_i e;exact(J j e).symm
  .rename_i e;exact w j e,⟨_,rfl,l6 O,.inl λH=>Wk.data O⟩,trivial⟩
end
