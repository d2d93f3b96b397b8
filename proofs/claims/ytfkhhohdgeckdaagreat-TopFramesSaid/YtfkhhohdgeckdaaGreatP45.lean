/- Part of the proof, without conditions. -/
import Derived.Test.YtfkhhohdgeckdaaGreatP44
namespace Go.Proofs.YtfkhhohdgeckdaaGreat
open Go RowKit Proofs.Tryz
set_option linter.all false
set_option maxRecDepth 100000
set_option maxHeartbeats 16000000
section
def anZ:List qn:= [⟨1,{data:= #[97]},{data:= #[49]},0#64⟩]
def al6:List qn:= [⟨3,{data:= #[97]},{data:= #[]},1#64⟩]
def v8:lq:=zC ⟨1,{data:= #[97]},{data:= #[49]},0#64⟩
def yn:lq:=zC ⟨3,{data:= #[97]},{data:= #[]},1#64⟩
def awF(s p:Int)(d:Bool)(n:Nd):Fr:=⟨s,0,-1,p,true,d,n⟩
def Mb:Int->Option Nat:=λj=>if j=0 then some 0 else none
def an0:Int->Option (List Int):=λj=>if j=0 then some [1]else none
def Gf:Int->Option (List Int):=λj=>if j=0 then none else an0 j
def al5:Int->Option Int:=λj=>if j=0 then some 0 else none
def Ge:Int->Option Int:=λj=>if j=0 then none else al5 j
def Xa(f:Fr)(a:Int->Option Nat)(i:Int->Option (List Int))(rd:Int->Option Int)(L:nT)(P:List (List (BitVec 8))):kG:=
 ⟨⟨f::List.replicate 8 Fr.empty,a,i,[],0⟩,⟨P,[true,false,false,false]⟩,L::List.replicate 8 nT.new,rd⟩
def Qr:xD:=⟨0,0,false,wG.zero⟩
def T1:xD:=⟨1,0,false,wG.zero⟩
def Hc(t:Int)(m:lq)(A:Int)(p:Bool):o9:=⟨t,m,A,p,none,0⟩
def Nq(w:Option o9):wa:=⟨anZ,0,none,w⟩
def Qs(w:Option o9):wa:=⟨al6,0,none,w⟩
def Nm(c x T:List Int)(w:Int):ox:=⟨3,c,x,T,w⟩
variable (B:List (List (BitVec 8)))(N:Nd)
def al4:lX:=⟨Xa Fr.empty (λ_=>none) (λ_=>none) (λ_=>none) nT.new B,Nm [0,0,1,0,0,0,0,0] z8 z8 0,[Nq none,Qs none],[],wo,[],1#64,0⟩
def al3:lX:=⟨Xa Fr.empty (λ_=>none) (λ_=>none) (λ_=>none) nT.new B,Nm [0,0,1,0,0,0,0,0] [0,1,0,0,0,0,0,0] [1,0,0,0,0,0,0,0] 1,[Nq (some (Hc 0 v8 0 false)),Qs none],[],wo,[Qr],1#64,1⟩
def al2:lX:=⟨Xa Fr.empty (λ_=>none) (λ_=>none) (λ_=>none) nT.new B,Nm [0,0,1,0,0,0,0,0] [1,0,0,0,0,0,0,0] [1,1,0,0,0,0,0,0] 1,[Nq (some (Hc 0 v8 0 false)),Qs (some (Hc 1 yn 0 false))],[],wo,[Qr,T1],1#64,2⟩
def al1:lX:=⟨Xa (awF 1 1 false ⟨false,[],[],[],[]⟩) Mb (λ_=>none) al5 nT.new B,Nm [0,0,1,0,0,0,0,0] [0,1,0,0,0,0,0,0] [2,1,0,0,0,0,0,0] 1,[Nq (some (Hc 0 v8 1 true)),Qs (some (Hc 1 yn 0 false))],[],wo,[Qr,T1],1#64,3⟩
def abN:lX:=⟨Xa (awF 1 2 false ⟨false,[],[],[],[]⟩) Mb an0 al5 nT.new B,Nm [0,1,1,0,0,0,0,0] [1,0,0,0,0,0,0,0] [2,2,0,0,0,0,0,0] 1,[Nq (some (Hc 0 v8 1 true)),Qs (some (Hc 1 yn 2 true))],[],wo,[Qr,T1],1#64,4⟩
def al0:lX:=⟨Xa (awF 2 2 false N) Mb Gf Ge nT.new B,Nm [0,0,1,0,0,0,0,0] [0,0,0,0,0,0,0,0] [3,2,0,0,0,0,0,0] 1,[Nq (some (Hc 0 v8 2 true)),Qs (some (Hc 1 yn 2 true))],[],wo,[Qr,T1],1#64,5⟩
def alZ:lX:=⟨Xa (awF 2 2 false N) Mb Gf Ge ⟨[],1,[]⟩ B,Nm [0,0,1,0,0,0,0,0] [1,0,0,0,0,0,0,0] [3,3,0,0,0,0,0,0] 1,[Nq (some (Hc 0 v8 2 true)),Qs (some (Hc 1 yn 3 true))],[],wo,[Qr,T1],1#64,6⟩
def Np:lX:=⟨Xa (awF 2 2 false N) Mb Gf Ge ⟨[],1,[(0,true)]⟩ B,Nm [1,0,1,0,0,0,0,0] [0,1,0,0,0,0,0,0] [4,3,0,0,0,0,0,0] 1,[Nq (some (Hc 0 v8 3 true)),Qs (some (Hc 1 yn 3 true))],[],wo,[Qr,T1],1#64,7⟩
def Nn:lX:=⟨Xa (awF 2 1 true N) Mb Gf Ge ⟨[],0,[]⟩ B,Nm [0,2,1,0,0,0,0,0] [0,0,0,0,0,0,0,0] [4,4,0,0,0,0,0,0] 1,[Nq (some (Hc 0 v8 3 true)),⟨al6,1,none,none⟩],[],wo,[Qr,T1,⟨1,0,true,⟨0,false,Vl.zero⟩⟩],2#64,8⟩
def Ma:lX:=⟨Xa (awF 2 0 true N) Mb Gf Ge nT.new B,Nm [2,2,1,0,0,0,0,0] [0,0,0,0,0,0,0,0] [5,4,0,0,0,0,0,0] 1,[⟨anZ,1,none,none⟩,⟨al6,1,none,none⟩],[],wo,[Qr,T1,⟨1,0,true,⟨0,false,Vl.zero⟩⟩,⟨0,0,true,⟨0,false,Vl.zero⟩⟩],3#64,9⟩
theorem anX:((al4 B).step 0).1=al3 B:=by kernel_rfl
theorem anW:((al3 B).step 1).1=al2 B:=by kernel_rfl
theorem anV:((al2 B).step 2).1=al1 B:=by kernel_rfl
theorem anU:((al1 B).step 3).1=abN B:=by kernel_rfl
theorem anT:((abN B).step 4).1=al0 B ((abN B).H.read 0).1:=by kernel_rfl
theorem anS:((al0 B N).step 5).1=alZ B N:=by kernel_rfl
theorem anR:((alZ B N).step 6).1=Np B N:=by kernel_rfl
end
variable {H':kG}
section
def xd(es:List mL):Nd:=⟨true,es,[],[],[]⟩
def Df{es:List mL}(h:Lf es)(o:es.length<=9):lh (xd es)=true:=by
 have x:rX es<=248:=by have:=h.ok.bd.sum;omega
 have E:Ar lx (xd es)=true:=by
  unfold Ar ED;rw[kx (show(xd es).leaf=true from rfl)];rw[show xa lx (xd es).es=true from F4 h.aoL];rfl
 unfold lh C5;rw[E,kx (show(xd es).leaf=true from rfl),kx (show(xd es).leaf=true from rfl),xl,nO];exact x
def alX:∃B,lX.new Nl=al4 B/\((abN B).H.read 0).1=xd []:=by
 have z:lh YE=true:=Df (es:= []) Aw kg;have L:mo YE=(qz YE,0):=by unfold mo;rw[kx z]
 have g:(qz YE).length=256:=F5 z;refine⟨[qz YE,L4,L4,L4],?_,?_⟩
 .have i:kG.new 4 9=Xa Fr.empty (λ_=>none) (λ_=>none) (λ_=>none) nT.new [qz YE,L4,L4,L4]:=by
   unfold kG.new kG.write;rw[show(⟨true,[],[],[],[]⟩:Nd)=YE from rfl,L,kx O];unfold sO.write;rw[kx ⟨O,g⟩];rfl
  unfold lX.new lX.fresh;rw[show kG.new Nl.blocks.toNat Nl.uM.toNat=kG.new 4 9 from rfl,i]
  show _=_
  kernel_rfl
 .unfold kG.read;rw[show(abN [qz YE,L4,L4,L4]).H.s.read 0=some (qz YE)from rfl];dsimp only;rw[WM z];rfl
def X7{S:lX}{p:Int}{t:Nat}(a:¬20000<=S.mb)(b:S.tb.pick p=some t):(S.step p).1=((S.np t).act t).tell:=by
 unfold lX.step;rw[ku a,b]
def OD{S:lX}{t:Nat}{c:wa}{w w':o9}{b:Bool}(u:S.cl[t]?=some c)(I:c.read=none)(e:c.write=some w)(L:w.step S.H S.seq=((w',H'),b)):
 S.act t=if w'.pc=5 then({S with H:=H',cl:=S.cl.set t {c with write:=some w'},seq:=if b=true then S.seq+1#64 else S.seq}:lX).answer t ⟨w'.e,false,Vl.zero⟩
  else {S with H:=H',cl:=S.cl.set t {c with write:=some w'},seq:=if b=true then S.seq+1#64 else S.seq}:=by
 unfold lX.act;rw[u];dsimp only;unfold lX.client;rw[u];dsimp only;rw[I];dsimp only;rw[e];dsimp only;rw[L]
variable (B:List (List (BitVec 8)))(N M:Nd)
theorem anN(h:x6 N {yn with seq:=1#64}=(M,true))(z:lh M=true):(Hc 1 yn 3 true).step (Np B N).H 1#64=((⟨1,yn,5,false,none,0⟩,Xa (awF 2 1 true M) Mb Gf Ge ⟨[],0,[]⟩ B),true):=by
 have i:(Hc 1 yn 3 true).step (Np B N).H 1#64=(Hc 1 yn 3 true).insert (Np B N).H 1#64:=by kernel_rfl
 have P:x6 ((Np B N).H.nd 0) {(Hc 1 yn 3 true).m with seq:=1#64}=(M,true):=h
 have a:(Np B N).H.set 1 0 M=Xa (awF 2 2 true M) Mb Gf Ge ⟨[],1,[(0,true)]⟩ B:=by
  have R:(Np B N).H.fits 1 0 M=true:=by
   unfold kG.fits;rw[z]
   show _=_
   kernel_rfl
  unfold kG.set;rw[kx R]
  show _=_
  kernel_rfl
 rw[i];unfold o9.insert;rw[P,kx O];rw[show(Hc 1 yn 3 true).t=1 from rfl,a]
 show _=_
 kernel_rfl
theorem anM(h:x6 N {v8 with seq:=2#64}=(M,true))(z:lh M=true):(Hc 0 v8 3 true).step (Nn B N).H 2#64=((⟨0,v8,5,false,none,0⟩,Xa (awF 2 0 true M) Mb Gf Ge nT.new B),true):=by
 have i:(Hc 0 v8 3 true).step (Nn B N).H 2#64=(Hc 0 v8 3 true).insert (Nn B N).H 2#64:=by kernel_rfl
 have P:x6 ((Nn B N).H.nd 0) {(Hc 0 v8 3 true).m with seq:=2#64}=(M,true):=h
 have a:(Nn B N).H.set 0 0 M=Xa (awF 2 1 true M) Mb Gf Ge ⟨[],0,[]⟩ B:=by
  have R:(Nn B N).H.fits 0 0 M=true:=by
   unfold kG.fits;rw[z]
   show _=_
   kernel_rfl
  unfold kG.set;rw[kx R]
  show _=_
  kernel_rfl
 rw[i];unfold o9.insert;rw[P,kx O];rw[show(Hc 0 v8 3 true).t=0 from rfl,a]
 show _=_
 kernel_rfl
theorem anQ(h:x6 N {yn with seq:=1#64}=(M,true))(z:lh M=true):((Np B N).step 7).1=Nn B M:=by
 rw[X7 (t:=1) (by show¬(20000:Int)<=7;omega) j6];rw[OD (S:=(Np B N).np 1) (c:=Qs (some (Hc 1 yn 3 true))) (w:=Hc 1 yn 3 true) O O O (anN B N M h z)]
 show _=_
 kernel_rfl
theorem anP(h:x6 N {v8 with seq:=2#64}=(M,true))(z:lh M=true):((Nn B N).step 8).1=Ma B M:=by
 rw[X7 (t:=0) (by show¬(20000:Int)<=8;omega) j6];rw[OD (S:=(Nn B N).np 0) (c:=Nq (some (Hc 0 v8 3 true))) (w:=Hc 0 v8 3 true) O O O (anM B N M h z)]
 show _=_
 kernel_rfl
theorem anO(p:Int):((Ma B N).step p).1=Ma B N:=by
 unfold lX.step;rw[ku (by show¬(20000:Int)<=9;omega)];rw[show(Ma B N).tb.pick p=none from by unfold ox.pick;rw[kx j6]]
def awK:kH:=(qk {data:= #[97]}).1
def Za:Vl:=(zZ {data:= #[49]}).1
theorem af1{es:List mL}(h:Lf es){m:lq}(T:m.ok=true)(g:(ui es m).length<=9):x6 (xd es) m=(xd (ui es m),true):=by have e:oA (xd es) [m]=xd (ui es m):=rfl;unfold x6;rw[e,kx (Df (EC h T) g)]
theorem OK(s:BitVec 64):({v8 with seq:=s}:lq).ok=true:=by
 rw[VV];exact Ln kg kg
theorem Y9(s:BitVec 64):({yn with seq:=s}:lq).ok=true:=by
 rw[VV];exact Ln kg kg
theorem Yj{m:lq}{v:Vl}(h:ap m none=some v):ui [] m= [⟨m.key,v⟩]:=by
 unfold ui yC;have e:oc m.key ([]:List mL)=none:=rfl;rw[e,h];rfl
theorem W9:ui (ui [] {yn with seq:=1#64}) {v8 with seq:=2#64}= [⟨awK,Za⟩]:=by
 have l1:=EC Aw (Y9 1#64);have e:ui [] {v8 with seq:=2#64}= [⟨awK,Za⟩]:=Yj O;have l2:=EC Aw (OK 2#64);rw[<-e];refine alw (EC l1 (OK 2#64)) l2 λx j=>?_;rw[Qb l1 (OK 2#64) j,Qb Aw (OK 2#64) j,Qb Aw (Y9 1#64) j];by_cases c:x=awK
 .rw[kx (show x=({v8 with seq:=2#64}:lq).key from c),kx (show x=({v8 with seq:=2#64}:lq).key from c)];rfl
 .rw[ku (show¬x=({v8 with seq:=2#64}:lq).key from c),ku (show¬x=({v8 with seq:=2#64}:lq).key from c),ku (show¬x=({yn with seq:=1#64}:lq).key from c)]
theorem anY:Za.n=1:=by
 unfold Za zZ;rw[kx kg];rfl
theorem alY:∃B,rZ 9=Ma B (xd [⟨awK,Za⟩]):=by
 obtain⟨B,i,H⟩:=alX;refine⟨B,?_⟩;have l1:=EC Aw (Y9 1#64);have t:ui [] {yn with seq:=1#64}= [⟨awK,F3 1#64⟩]:=Yj O;have u:=af1 Aw (Y9 1#64) (by rw[t];decide);have E:=af1 l1 (OK 2#64) (by rw[W9];decide);have U:=Df l1 (by rw[t];decide);have f2:=Df (EC l1 (OK 2#64)) (by rw[W9];decide);have F:rZ 0=al4 B:=i;have V:rZ 1=al3 B:=by rw[<-anX B,<-F];rfl
 have e:rZ 2=al2 B:=by rw[<-anW B,<-V];rfl
 have q:rZ 3=al1 B:=by rw[<-anV B,<-e];rfl
 have W:rZ 4=abN B:=by rw[<-anU B,<-q];rfl
 have G:rZ 5=al0 B (xd []):=by rw[<-H,<-anT B,<-W];rfl
 have I:rZ 6=alZ B (xd []):=by rw[<-anS B,<-G];rfl
 have J:rZ 7=Np B (xd []):=by rw[<-anR B,<-I];rfl
 have K:rZ 8=Nn B (xd (ui [] {yn with seq:=1#64})):=by rw[<-anQ B _ _ u U,<-J];rfl
 have L:rZ 9=Ma B (xd (ui (ui [] {yn with seq:=1#64}) {v8 with seq:=2#64})):=by rw[<-anP B _ _ E f2,<-K];rfl
 rw[L,W9]
theorem Y8{B:List (List (BitVec 8))}{N:Nd}(h:rZ 9=Ma B N):∀j,rZ (9+j)=Ma B N
 |0=>h
 |j+1=>by
  show((rZ (9+j)).step _).1=_
  rw[Y8 h j,anO]
theorem aoP:amB:=by
 obtain⟨B,h⟩:=alY;have h:=Y8 h 51;rw[show 9+51=60 from rfl]at h
 have i:E1 (Ma B (xd [⟨awK,Za⟩])).H [] 0=xd [⟨awK,Za⟩]:=by
  unfold E1
  have e:(Ma B (xd [⟨awK,Za⟩])).H.look 0=(xd [⟨awK,Za⟩],true):=by
   unfold kG.look;rw[show(Ma B (xd [⟨awK,Za⟩])).H.c.node 0=some (xd [⟨awK,Za⟩])from by kernel_rfl]
  rw[e,kx ⟨O,by simp⟩]
 refine⟨?_,?_,?_,⟨⟨awK,Za⟩,?_,?_⟩,?_,?_⟩
 .rw[h];rfl
 .rw[h];rfl
 .rw[h];rfl
 .rw[h];unfold vB;rw[i,kx (show(xd [⟨awK,Za⟩]).leaf=true from rfl)];rfl
 .show 0<Za.n
  rw[anY];decide
 .rw[h];unfold VOk;rw[i];exact .inl O
 .rw[h]
  show _=_
  kernel_rfl
theorem Rk:mG prog 15 [] (kA true):=ajf aoP
end
variable {R:Prop}
def wTf{Q:Prop}(k:R)(h:zT R->Q:=by intro kHid;(first|(apply Wv;(focus (first|exact Yr O O|exact Lj O O O O jh O|exact HH O O O O|exact V7 O O jh jh O O O O|exact oB O O));(focus exact ig))|(refine sN gS O ?_)|refine Mx O O jh ?_|refine My O O jh ?_|(refine Mz O O jh ?_));exact kHid.out):Q:=h ⟨k⟩
def yc(S:lX)(t:Nat)(a:wG):(S.answer t a).cl.length=S.cl.length/\(S.answer t a).fl=S.fl:=by
 unfold lX.answer;split
 .exact⟨q7,rfl⟩
 .exact⟨O,rfl⟩
def abK(S:lX)(t:Nat):(S.begin t).cl.length=S.cl.length/\(S.begin t).fl=S.fl:=by
 unfold lX.begin;split
 .split
  .split
   .exact yc _ _ _
   .split
    .exact⟨q7,rfl⟩
    .exact⟨q7,rfl⟩
  .exact⟨O,rfl⟩
 .exact⟨O,rfl⟩
def LV(S:lX)(t:Nat):(S.client t).cl.length=S.cl.length/\(S.client t).fl=S.fl:=by
 unfold lX.client;split
 .split
  .split
   .refine⟨(yc _ _ _).1.trans q7,(yc _ _ _).2⟩
   .exact⟨q7,rfl⟩
  .split
   .split
    .refine⟨(yc _ _ _).1.trans q7,(yc _ _ _).2⟩
    .exact⟨q7,rfl⟩
   .exact abK S t
 .exact⟨O,rfl⟩
def ai5(S:lX)(t:Nat):(S.act t).cl.length=S.cl.length/\(S.act t).fl.length=S.fl.length:=by
 unfold lX.act;split
 .exact⟨(LV S t).1,by rw[(LV S t).2]⟩
 .split
  .exact⟨O,q7⟩
  .exact⟨O,rfl⟩
def adn(S:lX)(p:Int):(S.step p).1.cl.length=S.cl.length/\(S.step p).1.fl.length=S.fl.length:=by
 unfold lX.step;split
 .exact⟨O,rfl⟩
 .split
  .exact⟨O,rfl⟩
  .exact ai5 (S.np _) _
def ahT{s:ox}{p:Int}{t:Nat}(h:s.pick p=some t):t<s.n:=by
 unfold ox.pick at h;split at h
 .cases h
 .have:=nF h;unfold ox.run at this;exact EP.1 (tr.1 this).1
variable {i:Nat}
def Qc{H:kG}{f:Fr}(h:H.c.fr[i]?=some f):∃x y z,H.M7[i]?=some (.agg 13 [kq f.st,kq f.oj,kq f.pins,kA f.ref,kA f.uO,f.nd.av,x,y,z]):=by
 unfold kG.M7 Ch;rw[sn,h];simp only[Option.map_some];split
 .split
  .exact⟨_,_,_,rfl⟩
  .exact⟨_,_,_,rfl⟩
 .exact⟨_,_,_,rfl⟩
def YZ(H:kG):H.M7.length=H.c.fr.length:=by unfold kG.M7 Ch;simp
def aiA(b f:Nat):(kG.new b f).c=kP.new f:=by
 unfold kG.new kG.write;split<;>rfl
structure FrI(c:MI)(S:lX):Prop where
 sf:S.Safe
 fi:S.H.c.FI
 len:S.H.c.fr.length=c.uM.toNat
 cl:S.cl.length=c.ops.length
 fl:S.fl.length=c.mN.toNat
def FrI.new{c:MI}(k:c.Ok):FrI c (lX.new c):=by
 have e:(lX.new c).H.c=kP.new c.uM.toNat:=aiA _ _;refine⟨S9 k,by rw[e];exact alm _,by rw[e];exact pj,?_,?_⟩
 .show(c.ops.map _).length=_
  rw[kX]
 .show((List.range c.mN.toNat).map _).length=_
  rw[kX,Gj]
def FrI.step{c:MI}{S:lX}(k:FrI c S)(p:Int):FrI c (S.step p).1/\ ∀(j:Nat) (f f':Fr),S.H.c.fr[j]?=some f->(S.step p).1.H.c.fr[j]?=some f'->agA ((S.step p).2.2&&decide ((S.step p).2.1=c.ops.length+c.mN.toNat)) f f':=by
 have h:=Sb S p k.fi λt s=>by have:=ahT s;rw[k.sf.tn]at this;exact this
 have g:=adn S p;rw[k.cl,k.fl]at h;exact⟨⟨k.sf.step p,h.1,h.2.1.trans k.len,g.1.trans k.cl,g.2.trans k.fl⟩,h.2.2⟩
variable {P:Program}{E:su}{nt:Nat}{S:St}{Q:Exit->St->Prop}{ι:Type}
def ZY{x:Code}(I:ι->St)(J:ι->Prop)(h:AW P E nt x S (mC (λS'=>∃j,J j/\lL E nt S' (I j)) (λ_ _=>False)))(k:∀S' j,J j->lL E nt S' (I j)->Q .normal S'):AW P E nt x S Q:=
 h.mono λe S' q=>by
  cases e with
  |normal=>obtain⟨j,i,g⟩:=q;exact k S' j i g
  |outgrown=>exact absurd q id
  |_=>exact absurd q id
variable {X:kY}{h:Nat}{lb:nz}{xb:XB}
variable {mb:List Int}{hb tk n cap cap2 ab ao ab2 ao2:Nat}{ev ok:Bool}{W2:kY}{F2:List AV}{f2:Fr}{y1 z1 y2 z2:AV}
variable {b:Nat}
section
attribute [local irreducible] kE lM AW mU lL mG mC lj lT ly kN AS lF kP.mm kP.waits kP.free BA kP.u9 mK mo kG.read lh kP.me kG.write kG.may pf kG.look kG.due yt kG.new lX.tell uJ qX lX.step lX.new kG.M7
def ajW(h i:Nat):¬uZ h (50,i):=λe=>by have:=Az e;dsimp only at this;omega
def oX.ang{p:va}{S:lX}(k:oX X h p S)(j:28<=lb.1):oX (X.put lb xb) h p S:=by
 have U:∀a b:Nat,a<28->(X.put lb xb) (a,b)=X (a,b):=λa b N=>ky _ _ λe=>by rw[<-e]at j;dsimp only at j;omega
 exact⟨(U _ _ kh).trans k.o,(U _ _ kh).trans k.t,(U _ _ kh).trans k.e,k.hl.put kh,⟨(U _ _ kh).trans k.tb.o⟩,k.lc,k.lf,λi c b d g=>(k.cl i c b d g).off λa l A=>U a _ kh,λi f b d g=>(k.fl i f b d g).off λa l A=>U a _ kh,k.n8⟩
def aaG(n:Nat):Code->Option Code
 | .seq (.region k a b) y=>if k=n then some (.seq (.region k a b) y)else aaG n y
 | .seq a b=>match aaG n a with
  |some x=>some x
  |none=>aaG n b
 | .block _ b=>aaG n b
 | .loop b=>aaG n b
 |_=>none
noncomputable def HU(n:Nat):Code:=((Tryz.f8.body).bind (aaG n)).getD .skip
theorem aoJ{a A:Nat}{c:MI}{F:List AV}{f:Fr}{L I:AV}
 (t:W2 (50,i)=some (.my 85 13 (some (ab,ao)) cap F)) (J:W2 (50,i+1)=some (.my 85 13 (some (ab2,ao2)) cap2 F2)) (M:a<n)
 (H:F[a]?=some (.agg 13 [kq f.st,kq f.oj,kq f.pins,kA f.ref,kA f.uO,f.nd.av,L,y1,z1])) (G:F2[a]?=some (.agg 13 [kq f2.st,kq f2.oj,kq f2.pins,kA f2.ref,kA f2.uO,f2.nd.av,I,y2,z2])) (w:agA ev f f2):
 AW prog E 172 (HU 16) ⟨[(3,lJ mb),(9,lQ (19,0) hb),(10,.ptr 10 0 []),(12,kq (i:Nat)),(11,.raw (50,i) [] (sv 13 (some (ab,ao)) n cap)),(13,kq (tk:Nat)),(14,kA ok),(15,.raw (50,i+1) [] (sv 13 (some (ab2,ao2)) n cap2)),(16,kq (a:Nat)),(17,kA ev)],[(10,.var c.av),(4999,.ext (Sg W2))]⟩
  (mC (λS'=>∃j:Unit,True/\lL E 172 S' ⟨[(3,lJ mb),(9,lQ (19,0) hb),(10,.ptr 10 0 []),(12,kq (i:Nat)),(11,.raw (50,i) [] (sv 13 (some (ab,ao)) n cap)),(13,kq (tk:Nat)),(14,kA ok),(15,.raw (50,i+1) [] (sv 13 (some (ab2,ao2)) n cap2)),(16,kq (a:Nat)),(17,kA ev)],[(10,.var c.av),(4999,.ext (Sg W2))]⟩) Q):=by
 have N:(!true)=false:=rfl;have k:(!false)=true:=rfl
 conv in HU 16=>whnf
 unfold agA at w;by_cases c1:0<f.pins
 .have w:=w c1;cases ev with
  |false=>
   exact aB
  |true=>
   have U:¬f2.st≠f.st:=λe=>e (w.2 O);exact aB
 .cases ev with
  |false=>
   exact cw
  |true=>
   exact cw
def aoH{a:Nat}{c:MI}{l:Fr}{L F:AV}
 (I:W2 (50,i+1)=some (.my 85 13 (some (ab2,ao2)) cap2 F2)) (M:a<n) (r:b<n)
 (G:F2[a]?=some (.agg 13 [kq f2.st,kq f2.oj,kq f2.pins,kA f2.ref,kA f2.uO,f2.nd.av,F,y2,z2])) (H:F2[b]?=some (.agg 13 [kq l.st,kq l.oj,kq l.pins,kA l.ref,kA l.uO,l.nd.av,L,y1,z1])) (w:0<=f2.oj-> ¬f2.oj=l.oj):
 AW prog E 172 (HU 21) ⟨[(3,lJ mb),(9,lQ (19,0) hb),(10,.ptr 10 0 []),(12,kq (i:Nat)),(11,.raw (50,i) [] (sv 13 (some (ab,ao)) n cap)),(13,kq (tk:Nat)),(14,kA ok),(15,.raw (50,i+1) [] (sv 13 (some (ab2,ao2)) n cap2)),(16,kq (a:Nat)),(18,kq (b:Nat))],[(10,.var c.av),(4999,.ext (Sg W2))]⟩
  (mC (λS'=>∃j:Unit,True/\lL E 172 S' ⟨[(3,lJ mb),(9,lQ (19,0) hb),(10,.ptr 10 0 []),(12,kq (i:Nat)),(11,.raw (50,i) [] (sv 13 (some (ab,ao)) n cap)),(13,kq (tk:Nat)),(14,kA ok),(15,.raw (50,i+1) [] (sv 13 (some (ab2,ao2)) n cap2)),(16,kq (a:Nat)),(18,kq (b:Nat))],[(10,.var c.av),(4999,.ext (Sg W2))]⟩) Q):=by
 have N:(!true)=false:=rfl;have k:(!false)=true:=rfl
 conv in HU 21=>whnf
 by_cases c1:0<=f2.oj
 .have t:=w c1;exact cw
 .repeat (first|refine wTf ?_|refine MT ?_)
  refine⟨(),trivial,?_⟩
  (refine lL.sub ⟨?_,?_,?_⟩<;>repeat' (first|exact True.intro|rfl|apply And.intro))
def aoI{a:Nat}{c:MI}{C:kP}{H:kG}(u:H.c=C)(B:C.fr.length=n)(m:C.FI)
 (J:W2 (50,i+1)=some (.my 85 13 (some (ab2,ao2)) cap2 H.M7)) (M:a<n) (K:n<=64):
 AW prog E 172 (HU 18) ⟨[(3,lJ mb),(9,lQ (19,0) hb),(10,.ptr 10 0 []),(12,kq (i:Nat)),(11,.raw (50,i) [] (sv 13 (some (ab,ao)) n cap)),(13,kq (tk:Nat)),(14,kA ok),(15,.raw (50,i+1) [] (sv 13 (some (ab2,ao2)) n cap2)),(16,kq (a:Nat)),(17,kA ev)],[(10,.var c.av),(4999,.ext (Sg W2))]⟩
  (mC (λS'=>∃j:Unit,True/\lL E 172 S' ⟨[(3,lJ mb),(9,lQ (19,0) hb),(10,.ptr 10 0 []),(12,kq (i:Nat)),(11,.raw (50,i) [] (sv 13 (some (ab,ao)) n cap)),(13,kq (tk:Nat)),(14,kA ok),(15,.raw (50,i+1) [] (sv 13 (some (ab2,ao2)) n cap2)),(16,kq (a:Nat))],[(10,.var c.av),(4999,.ext (Sg W2))]⟩) Q):=by
 have N:(!true)=false:=rfl;have k:(!false)=true:=rfl
 conv in HU 18=>whnf
 obtain⟨f2,o⟩:∃f,C.fr[a]?=some f:=⟨_,kQ kh⟩;obtain⟨x2,y2,z2,G⟩:=Qc (H:=H) (by rw[u];exact o)
 repeat (first|refine wTf ?_|refine MT ?_)
 refine kU (λb:Nat=>⟨[(3,lJ mb),(9,lQ (19,0) hb),(10,.ptr 10 0 []),(12,kq (i:Nat)),(11,.raw (50,i) [] (sv 13 (some (ab,ao)) n cap)),(13,kq (tk:Nat)),(14,kA ok),(15,.raw (50,i+1) [] (sv 13 (some (ab2,ao2)) n cap2)),(16,kq (a:Nat)),(18,kq (b:Nat))],[(10,.var c.av),(4999,.ext (Sg W2))]⟩) (λb=>b<=a) (λb=>a- b) 0 (kO _) ed (λb t=>?_);by_cases s:b<a
 .have L:((b:Nat):Int)<(a:Nat):=by omega
  obtain⟨l,D⟩:∃f,C.fr[b]?=some f:=⟨_,kQ kh⟩;obtain⟨V,r,v,P⟩:=Qc (H:=H) (by rw[u];exact D);have I:0<=f2.oj-> ¬f2.oj=l.oj:=λq e=>by have:=FI.apart m o D q e;omega
  repeat (first|(refine lU (c:=HU 21) (S':=⟨[(3,lJ mb),(9,lQ (19,0) hb),(10,.ptr 10 0 []),(12,kq (i:Nat)),(11,.raw (50,i) [] (sv 13 (some (ab,ao)) n cap)),(13,kq (tk:Nat)),(14,kA ok),(15,.raw (50,i+1) [] (sv 13 (some (ab2,ao2)) n cap2)),(16,kq (a:Nat)),(18,kq (b:Nat))],[(10,.var c.av),(4999,.ext (Sg W2))]⟩) ed ?_;refine ZY (x:=HU 21) (λ_:Unit=>⟨[(3,lJ mb),(9,lQ (19,0) hb),(10,.ptr 10 0 []),(12,kq (i:Nat)),(11,.raw (50,i) [] (sv 13 (some (ab,ao)) n cap)),(13,kq (tk:Nat)),(14,kA ok),(15,.raw (50,i+1) [] (sv 13 (some (ab2,ao2)) n cap2)),(16,kq (a:Nat)),(18,kq (b:Nat))],[(10,.var c.av),(4999,.ext (Sg W2))]⟩) (λ_=>True) (aoH J M (QD s M) G P I) ?_)|refine wTf ?_|refine MT ?_)
  intro S' _ _ g;refine x9 ?_;refine oz ?_;refine lU g ?_
  repeat (first|refine wTf ?_|refine MT ?_)
  refine⟨b+1,s,by omega,?_⟩;exact ed
 .obtain rfl:b=a:=by omega
  have L:¬((b:Nat):Int)<(b:Nat):=eY;exact cw
theorem aoK{c:MI}{H y:kG}(C:1<=c.ops.length/\c.ops.length<=4)(B:0<=c.mN/\c.mN<=3)(l:H.c.fr.length=n)(z:y.c.fr.length=n)(m:y.c.FI)(K:n<=64)
 (M:∀(j:Nat) (f f':Fr),H.c.fr[j]?=some f->y.c.fr[j]?=some f'->agA (ok&&decide (tk=c.ops.length+c.mN.toNat)) f f')
 (t:W2 (50,i)=some (.my 85 13 (some (ab,ao)) cap H.M7)) (J:W2 (50,i+1)=some (.my 85 13 (some (ab2,ao2)) cap2 y.M7)):
 AW prog E 172 (HU 12) ⟨[(3,lJ mb),(9,lQ (19,0) hb),(10,.ptr 10 0 []),(12,kq (i:Nat)),(11,.raw (50,i) [] (sv 13 (some (ab,ao)) n cap)),(13,kq (tk:Nat)),(14,kA ok),(15,.raw (50,i+1) [] (sv 13 (some (ab2,ao2)) n cap2))],[(10,.var c.av),(4999,.ext (Sg W2))]⟩
  (mC (λS'=>∃j:Unit,True/\lL E 172 S' ⟨[(3,lJ mb),(9,lQ (19,0) hb),(10,.ptr 10 0 []),(12,kq (i:Nat)),(11,.raw (50,i) [] (sv 13 (some (ab,ao)) n cap)),(13,kq (tk:Nat)),(14,kA ok),(15,.raw (50,i+1) [] (sv 13 (some (ab2,ao2)) n cap2))],[(10,.var c.av),(4999,.ext (Sg W2))]⟩) Q):=by
 have N:(!true)=false:=rfl;have k:(!false)=true:=rfl
 conv in HU 12=>whnf
 repeat (first|refine wTf ?_|refine MT ?_)
 refine kU (λa:Nat=>⟨[(3,lJ mb),(9,lQ (19,0) hb),(10,.ptr 10 0 []),(12,kq (i:Nat)),(11,.raw (50,i) [] (sv 13 (some (ab,ao)) n cap)),(13,kq (tk:Nat)),(14,kA ok),(15,.raw (50,i+1) [] (sv 13 (some (ab2,ao2)) n cap2)),(16,kq (a:Nat))],[(10,.var c.av),(4999,.ext (Sg W2))]⟩) (λa=>a<=n) (λa=>n- a) 0 (kO _) ed (λa P=>?_);by_cases R:a<n
 .obtain⟨f,S⟩:∃f,H.c.fr[a]?=some f:=⟨_,kQ kh⟩;obtain⟨f2,o⟩:∃f,y.c.fr[a]?=some f:=⟨_,kQ kh⟩;obtain⟨x1,y1,z1,I⟩:=Qc S;obtain⟨x2,y2,z2,G⟩:=Qc o;have w:=M a f f2 S o;clear M;have T:((a:Nat):Int)<(n:Nat):=eY
  repeat (first|(refine Bi (x:=.region 15 _ _) (λ_:Unit=>⟨[(3,lJ mb),(9,lQ (19,0) hb),(10,.ptr 10 0 []),(12,kq (i:Nat)),(11,.raw (50,i) [] (sv 13 (some (ab,ao)) n cap)),(13,kq (tk:Nat)),(14,kA ok),(15,.raw (50,i+1) [] (sv 13 (some (ab2,ao2)) n cap2)),(16,kq (a:Nat)),(17,kA (ok&&decide (tk=c.ops.length+c.mN.toNat)))],[(10,.var c.av),(4999,.ext (Sg W2))]⟩) (λ_=>True) ?j15 ?_)|refine wTf ?_|refine MT ?_)
  case j15=>
   cases ok with
   |false=>
    exact cP
   |true=>
    have e:(true&&decide (tk=c.ops.length+c.mN.toNat))=decide (((tk:Nat):Int)=(c.ops.length:Nat)+c.mN):=by
     rw[xl];exact A4.2 kh
    rw[e];exact cP
  intro _ _;refine Bi (x:=HU 16) (λ_:Unit=>⟨[(3,lJ mb),(9,lQ (19,0) hb),(10,.ptr 10 0 []),(12,kq (i:Nat)),(11,.raw (50,i) [] (sv 13 (some (ab,ao)) n cap)),(13,kq (tk:Nat)),(14,kA ok),(15,.raw (50,i+1) [] (sv 13 (some (ab2,ao2)) n cap2)),(16,kq (a:Nat)),(17,kA (ok&&decide (tk=c.ops.length+c.mN.toNat)))],[(10,.var c.av),(4999,.ext (Sg W2))]⟩) (λ_=>True) (aoJ (A:=0) t J R I G w) ?_;intro _ _;refine ZY (x:=HU 18) (λ_:Unit=>⟨[(3,lJ mb),(9,lQ (19,0) hb),(10,.ptr 10 0 []),(12,kq (i:Nat)),(11,.raw (50,i) [] (sv 13 (some (ab,ao)) n cap)),(13,kq (tk:Nat)),(14,kA ok),(15,.raw (50,i+1) [] (sv 13 (some (ab2,ao2)) n cap2)),(16,kq (a:Nat))],[(10,.var c.av),(4999,.ext (Sg W2))]⟩) (λ_=>True) (aoI O z m J R K) ?_;intro S' _ _ g;refine x9 ?_;refine oz ?_;refine lU g ?_
  repeat (first|refine wTf ?_|refine MT ?_)
  refine⟨a+1,R,by omega,?_⟩;exact ed
 .obtain rfl:a=n:=by omega
  have T:¬((a:Nat):Int)<(a:Nat):=eY;exact cw
end
