/- Part of the proof, without conditions. -/
import Derived.Test.YtfkhhohdgeckdaaGreatP4
import Derived.Test.YtfkhhohdgeckdaaGreatP3
namespace Go.Proofs.YtfkhhohdgeckdaaGreat
open Go RowKit Proofs.Tryz
set_option linter.all false
set_option maxRecDepth 100000
set_option maxHeartbeats 16000000
@[irreducible] def Vl.E9(k:Vl):List (BitVec 8):=if k.ok then cut k.b k.n.toNat else[]
def Vl.BV{k:Vl}(h:k.ok=true):k.E9=cut k.b k.n.toNat:=by unfold Vl.E9;rw[kx h]
def Vl.Hk{k:Vl}(h:k.ok=false):k.E9= []:=by unfold Vl.E9;rw[ku (by rw[h];simp)]
def Ss(k:kH)(w:World):Calls prog 101 #[.agg k.arr] w (Is w (.string (lW k.E9))):=by
 cases E:k.ok
 .have R:=kH.Hk E
  go_enter func101,ntmps101
  go_wp2_with fail
  refine(Bm _ _).mono ?_;exact bz
 .have R:=kH.BV E;obtain⟨i,c,-⟩:=(kH.rm k).1 E;obtain⟨kn,x⟩:=k;obtain⟨n,rfl⟩:∃n:Nat,kn=(n:Int):=⟨kn.toNat,by simp at i;omega⟩;have l:n<=8:=fH;have K:(n:Int)<=8:=eY;have P:=mE R;clear R
  go_enter func101,ntmps101
  go_wp2_with fail
  refine(Bm _ _).mono ?_;exact ar
def Px(k:Vl)(w:World):Calls prog 103 #[.agg k.arr] w (Is w (.string (lW k.E9))):=by
 cases E:k.ok
 .have R:=Vl.Hk E
  go_enter func103,ntmps103
  go_wp2_with fail
  refine(Cb _ _).mono ?_;exact bz
 .have R:=Vl.BV E;obtain⟨i,c,-⟩:=(Vl.rm k).1 E;obtain⟨kn,x⟩:=k;obtain⟨n,rfl⟩:∃n:Nat,kn=(n:Int):=⟨kn.toNat,by simp at i;omega⟩;have l:n<=16:=fH;have K:(n:Int)<=16:=eY;have P:=mE R;clear R
  go_enter func103,ntmps103
  go_wp2_with fail
  refine(Cb _ _).mono ?_;rintro e J ⟨rfl,I⟩;have H:mQ J w.heap.size 0 17=some (Vl.mk (n:Int) x).arr:=I.row jD;have u:=B9 H (j:=0) kh (Vl.zN _);have p:=Ac (g:=w.heap.size) (o:=1) (w:=J) (b:=x) (by rw[<-oa 1,yx H 1 16 kh];exact Vl.uA _) n 16 l l jp;have v:=K2 s8 pz uU p;clear p;simp only[oa]at u
  go_wp2
  go_ret;exact⟨by rw[P.out];rfl,gP⟩
def abU(k:kH):mG prog 101 [k.av] (Ps (lW k.E9)):=λU w vs h=>by
 obtain⟨N,J,rfl,a,h⟩:=oo h;obtain rfl:=rE h;rw[WN.rdv.1 a];exact PI (Ss k w) λw'=>nM.2 ⟨O,rfl⟩
def Xl(k:Vl):mG prog 103 [k.av] (Ps (lW k.E9)):=λU w vs h=>by
 obtain⟨N,J,rfl,a,h⟩:=oo h;obtain rfl:=rE h;rw[dVl.rdv.1 a];exact PI (Px k w) λw'=>nM.2 ⟨O,rfl⟩
variable {E:su}{nt:Nat}{ops:Array Oper}{T:Nat->Option AV}{H:Hp}{d:Option Nat}{ty:TypeId}{pos:String}{af:Array Edge}{gd:Option (Nat×Bool)}
variable {t t':TypeId}{x y:Operand}
section
def ale{a b:ByteArray}(n:lK nt d=true)(j:kv T x=some (.v (.string a)))(F:kv T y=some (.v (.string b)))(c:Nat.ble b.size 1000=true)(N:a.size<=1000000):kE prog E nt ops ⟨d,.binOp .add t x y t',ty,pos,af,gd⟩ T H [] ⟨.v (.string (a++b)),[]⟩:=
 th n j F (λw=>by
  have e:=A8 c;have p:¬((a.size+b.size:Nat):Int)>9223372036854775807:=eY;have U:IntKind.i64.max=9223372036854775807:=by decide
  simp only[eqGuard,binOp,Op.stringOp,Sem.run_bind,U,ku p];rfl) O
end
def anr:ByteArray:={data:= #[49,50,51,52,53,54,55,56,57]}
def NR:ByteArray:={data:= #[115,101,118,101,110,116,101,101,110,32,98,121,116,101,115,32,46,46]}
def pd(v:Int):qn:=
 let k:=v%1099511627776
 ⟨1+k%4,if k/8%64=7 then lW (za (k/4)).E9++anr else lW (za (k/4)).E9,
  if k%4=0 then(if k/8%64=9 then lW (IJ (k/64)).E9++NR else lW (IJ (k/64)).E9)else .empty,
  if k%4=2 then BitVec.ofInt 64 (k/4096)*4099#64 else 0#64⟩
def Vl.xK(k:Vl):k.E9.length<=16:=by
 cases h:k.ok
 .rw[Vl.Hk h];simp
 .rw[Vl.BV h];unfold cut;simp;omega
variable {R:Prop}
def wR{Q:Prop}(k:R)(h:zT R->Q:=by intro kHid;(repeat (first|refine Ip ?_|(first|(apply Wv;(focus (first|exact oB O O|exact vW O O O O iP|exact wg O O O O iP|exact tl O O O|exact vV O O O|exact xV O O O|exact xU O O|exact rW O O O kh|exact xZ O O O kh|exact uh O O O kh|exact sG O O O kh|exact vf O O O kh|exact Cm O O O kh|exact Ck O O O kh|exact t6 O O O kg O|exact vI O O O|exact vH O O O|exact Ao O O O|exact qx O O O O j5|exact An O O O|exact wh O O O O kh|exact wi O O O O kh|exact uF O O O O kh|exact uG O O O O kh|exact sH O O O O O O O kh kh|exact sI q9 O O O O O O O|exact sI tv O O O O O O O|exact ale O O O O kh|exact wQ O O O|exact zc O O|exact t5 O O O O O|exact vb O O O O O O O|exact y7 O O O|exact PQ O O O kg|exact C4 ⟨_,mc⟩ pz O O|exact C2 ⟨_,mc⟩ vO O O|exact C3 s8 pz uU O O|exact t9 O O O O jd|exact BN O O O O O O O O O|exact Cn O O O O O O|exact Cl O O O kh|exact FD O O O kh));(focus exact ig))|(apply Wb;(focus (first|exact zB O O O O|exact xY O O O O O iu iO iO|exact xW O O O O O iu iO iO|exact xX O O O O O iu iO iO|exact y6 O O O|exact xH O O O O O O O O O|exact tQ O O O|exact oR q9 O O|exact oR tv O O|exact qo tv O O O O O O O|exact qo q9 O O O O O O O O));(focus exact ig))|(apply Ws;(focus (exact nX kM (d:=none) O O O O O O O O O O));(focus exact ig))|(refine sN gS O ?_)|refine Mx O O iK ?_|refine My O O iK ?_|(refine Mz O O jh ?_)|(refine tc _ j5 ?_))));exact kHid.out):Q:=h ⟨k⟩
variable {cmp:kH->kH->Int}{j:Nat}
def WJ{l:List mL}(h:j<l.length)(e:l[j].key.ok=false):¬vF cmp l:=λk=>by have:=(k j h).1;rw[e]at this;cases this
def WI{l:List mL}(h:j<l.length)(e:l[j].val.ok=false):¬vF cmp l:=λk=>by have:=(k j h).2.1;rw[e]at this;cases this
variable {i:Nat}
def WK{l:List mL}(h:i+1<l.length)(e:0<=cmp l[i].key l[i+1].key):¬vF cmp l:=λk=>by have:=(k (i+1) h).2.2 i O;omega
def D6(l:List lq)(r:List kH)(i:Int):List lq:=if 0<=i/\i<=r.length then oh l r i.toNat else[]
def SB(l:List lq)(r:List kH)(n:Nat):(oh l r n).length<=l.length:=by
 unfold oh;rw[q8,n5];omega
def Xo(l:List lq)(r:List kH)(i:Int)(h:uv l)(g:l.length<=100000000)(j:r.length<=100000000):mG prog 52 [nk l,rp r,kq i] (nk (D6 l r i)):=by
 unfold D6;by_cases c:0<=i/\i<=r.length
 .rw[kx c];have:=zR l r i.toNat h kh g j;rwa[GF c.1]at this
 .rw[ku c];exact Rj l r i kh
structure Nd where
 leaf:Bool
 es:List mL
 ks:List Int
 ps:List kH
 ms:List lq
deriving DecidableEq
def Nd.av(n:Nd):AV:=pb n.leaf (pI n.es) (lJ n.ks) (rp n.ps) (nk n.ms)
noncomputable def ED(s:kH->kH->Int)(n:Nd):Bool:=xa s n.es&&decide (n.ks.length+n.ps.length+n.ms.length=0)
noncomputable def FR(s:kH->kH->Int)(n:Nd):Bool:=decide (n.es.length=0)&&sY s n.ks n.ps&&As s n.ms
noncomputable def Ar(s:kH->kH->Int)(n:Nd):Bool:=if n.leaf=true then ED s n else FR s n
def C5(n:Nd):Int:=if n.leaf=true then rX n.es else s5 n.ms
noncomputable def lh(n:Nd):Bool:=Ar lx n&&decide (C5 n<=if n.leaf=true then 248 else 205)
def We{n:Nd}(h:Ar lx n=true)(g:n.leaf=true):EBd n.es:=by
 unfold Ar at h;rw[kx g]at h;unfold ED at h;rw[l5]at h
 have a:vF lx n.es:=by
  apply Dy;intro hn;rw[tL hn]at h;cases h.1
 intro e L;obtain⟨j,i,rfl⟩:=QI L;exact⟨kH.EA (a j i).1,Vl.EA (a j i).2.1⟩
def pf(n:Nd):Bool:= !n.leaf&&decide (205<=2*s5 n.ms)
def Bj(n:Nd)(j:Nat):List Int:=(List.range j).map λi=>s5 (oh n.ms n.ps i)
def Vd(n:Nd)(j:Nat):Bj n (j+1)=Bj n j++[s5 (oh n.ms n.ps j)]:=by simp[Bj,EO]
def aal(n:Nd)(j:Nat):(Bj n j).length=j:=by simp[Bj]
def HR(i:Nat)(s:Int×Int)(x:Int):Int×Int:=if s.2<x then((i:Int),x)else s
def Ay(w:List Int):Nat->Int×Int
 |0=>(-1,0)
 |j+1=>match w[j]? with
  |some x=>HR j (Ay w j) x
  |none=>Ay w j
def afj(w:List Int):Int:=(Ay w w.length).1
def HS(w:List Int)(j:Nat)(h:j<w.length):Ay w (j+1)=HR j (Ay w j) w[j]:=by
 show(match w[j]? with|some x=>HR j (Ay w j) x|none=>Ay w j)=_
 rw[kQ h]
theorem aiz(w:List Int)(b:Int)(c:∀x∈w,x<=b)(i:0<=b):∀j,j<=w.length->0<=(Ay w j).2/\(Ay w j).2<=b/\ -1<=(Ay w j).1/\(Ay w j).1<(j:Int)
 |0,_=>by simp[Ay];exact i
 |j+1,h=>by
  have y:=aiz w b c i j kh;rw[HS w j kh];unfold HR;split
  .have:=c _ (ng (by omega:j<w.length));refine⟨by omega,this,?_,?_⟩
   .show-1<=(j:Int);omega
   .show(j:Int)<((j+1:Nat):Int);omega
  .exact⟨y.1,y.2.1,y.2.2.1,by omega⟩
theorem YT(w:List Int):∀j,j<=w.length->((Ay w j).1= -1/\(Ay w j).2=0/\ ∀i (h:i<w.length),i<j->w[i]<=0)∨(∃a,∃h:a<w.length,a<j/\(Ay w j).1=(a:Int)/\(Ay w j).2=w[a]/\0<w[a]/\(∀i (h:i<w.length),i<j->w[i]<=w[a])/\ ∀i (h:i<w.length),i<a->w[i]<w[a])
 |0,_=>.inl ⟨O,rfl,λi h k=>absurd k (Qx _)⟩
 |j+1,h=>by
  have l:j<w.length:=h;rw[HS w j l];unfold HR;rcases YT w j (Nat.le_of_lt l)with⟨P,d,R⟩|⟨a,N,b,P,d,R,S,W⟩
  .rw[d];split
   .rename_i c;refine .inr ⟨j,l,GB _,rfl,rfl,c,λi hi k=>?_,λi hi k=>?_⟩
    .by_cases x:i=j
     .subst x;exact qH _
     .have:=R i hi kh;omega
    .have:=R i hi k;omega
   .rename_i c;refine .inl ⟨P,d,λi hi k=>?_⟩;by_cases x:i=j
    .subst x;omega
    .exact R i hi kh
  .rw[d];split
   .rename_i c;refine .inr ⟨j,l,GB _,rfl,rfl,by show 0<w[j];omega,λi hi k=>?_,λi hi k=>?_⟩
    .by_cases x:i=j
     .subst x;exact qH _
     .have:=S i hi kh;omega
    .have:=S i hi k;omega
   .rename_i c;refine .inr ⟨a,N,by omega,P,d,R,λi hi k=>?_,W⟩;by_cases x:i=j
    .subst x;omega
    .exact S i hi kh
def wY1{Q:Prop}(k:R)(h:zT R->Q:=by intro kHid;(first|(apply Wv;(focus exact gy);(focus exact ig))|(apply Wb;(focus exact gz);(focus exact ig))|(apply Ws;(focus exact gH);(focus exact ig))|(refine sN gS O ?_)|refine Mx O O iK ?_|refine My O O iK ?_|(refine Mz O O jh ?_)|(refine tc _ j5 ?_));exact kHid.out):Q:=h ⟨k⟩
def wY{Q:Prop}(k:R)(h:zT R->Q:=by intro kHid;(repeat (first|refine Ip ?_|refine wY1 ?_));exact kHid.out):Q:=h ⟨k⟩
def wRG{Q:Prop}(k:R)(h:zT R->Q:=by intro kHid;(repeat (first|(first|refine Jg _ ?_|refine Ij ?_|refine XC ?_|refine MM zD ?_|refine CQ ?_|refine x9 ?_|refine CA ?_|refine Fc ?_|refine Cz ?_|refine BZ ?_|refine Ff ?_|refine CC O ?_|refine G7 ?_|refine MJ ?_|refine G4 ?_|refine agM O ?_|with_reducible refine afK ?_|with_reducible refine afL ?_|with_reducible refine LY jd ?_|with_reducible refine TN jd ?_|refine And.intro jC ?_)|refine wY1 ?_));exact kHid.out):Q:=h ⟨k⟩
def wSY{Q:Prop}(k:R)(h:zT R->Q:=by intro kHid;(first|refine Ip ?_|refine wY1 ?_);exact kHid.out):Q:=h ⟨k⟩
def wZ{Q:Prop}(k:R)(h:zT R->Q:=by intro kHid;(repeat (first|refine Ip ?_|(first|(apply Wv;(focus exact gy);(focus exact ig))|(apply Wb;(focus (first|exact zB O O O O|exact aes O O O O O hQ h7 iD iD|exact PD O O O O O hQ iD iD|exact xY O O O O O hQ iD iD|exact xW O O O O O hQ iD iD|exact xX O O O O O hQ iD iD|exact PU O O O|exact tQ O O O|exact Yu O O O O O h7 h7 h7 h7|exact SS (f:=lN) (z:=0#8) mc O O O O O O kh h7 iD iD));(focus exact ig))|(apply Ws;(focus exact gH);(focus exact ig))|(refine sN gS O ?_)|refine Mx O O iK ?_|refine My O O iK ?_|(refine Mz O O jh ?_)|(refine tc _ j5 ?_))));exact kHid.out):Q:=h ⟨k⟩
abbrev bxO(G:List (BitVec 8)):List (Nat×Bx):= [(1000,.own 5 1 (G.map lN))]
abbrev rwO(G:List (BitVec 8)):AV:=.own 1000 1 G.length .row
def lL.afo{T:List (Nat×AV)}{H:List (Nat×Bx)}(g:Nat){x:AV}(t:kV g H=some (.var x)):lL E nt ⟨T,H⟩ ⟨T,(g,.froz x)::H⟩:=λB a w r=>by exact dg
def tx(s:List (BitVec 8)):List (BitVec 8):= [BitVec.ofInt 8 (s.length:Nat)]++s
def vj(s:List (BitVec 8)):(tx s).length=1+s.length:=by simp[tx];omega
def HP(k:kH):List (BitVec 8):=k.b.toList.take k.n.toNat
def Vi(k:Vl):List (BitVec 8):=k.b.toList.take k.n.toNat
def zb(e:mL):List (BitVec 8):=tx (HP e.key)++tx (Vi e.val)
def Ct(i:Int):List (BitVec 8):=ni (BitVec.ofInt 64 i) 4
def BE(k:kH):List (BitVec 8):=tx (HP k)
def yy(m:lq):List (BitVec 8):=if m.kind=1 then tx (Vi m.val)else if m.kind=3 then ni m.add 8 else[]
def wm(m:lq):List (BitVec 8):= [BitVec.ofInt 8 m.kind]++ni m.seq 8++tx (HP m.key)++yy m
def v7(n:Nd):List (BitVec 8):=n.es.flatMap zb++n.ks.flatMap Ct++n.ps.flatMap BE++n.ms.flatMap wm
def Ro(k:kH):Prop:=0<=k.n/\k.n<=8
def UD(k:Vl):Prop:=0<=k.n/\k.n<=16
structure NdR(n:Nd):Prop where
 es:∀e∈n.es,Ro e.key/\UD e.val
 ps:∀k∈n.ps,Ro k
 ms:∀m∈n.ms,Ro m.key/\UD m.val
 le:n.es.length<=100000
 lk:n.ks.length<=100000
 lp:n.ps.length<=100000
 lm:n.ms.length<=100000
def uK{k:kH}(h:Ro k):(HP k).length=k.n.toNat/\(HP k).length<=8:=by
 obtain⟨a,b⟩:=h;unfold HP;rw[n5,Zj];omega
def yr{k:Vl}(h:UD k):(Vi k).length=k.n.toNat/\(Vi k).length<=16:=by
 obtain⟨a,b⟩:=h;unfold Vi;rw[n5,Zj];omega
def afz{e:mL}(h:Ro e.key/\UD e.val):(zb e).length<=40:=by
 unfold zb;rw[lA,vj,vj];have:=(uK h.1).2;have:=(yr h.2).2;omega
def LB(i:Int):(Ct i).length=4:=lP _ _
def adU{k:kH}(h:Ro k):(BE k).length<=40:=by unfold BE;rw[vj];have:=(uK h).2;omega
def aaU{m:lq}(h:UD m.val):(yy m).length<=17:=by
 unfold yy;split
 .rw[vj];have:=(yr h).2;omega
 .split
  .rw[lP];omega
  .simp
def aeR{m:lq}(h:Ro m.key/\UD m.val):(wm m).length<=40:=by
 unfold wm;have:=(uK h.1).2;have:=aaU h.2;simp only[lA,vj,lP,List.length_singleton];omega
variable {α:Type}
def fl(f:α->List (BitVec 8))(G:List (BitVec 8))(l:List α)(j:Nat):List (BitVec 8):=G++(l.take j).flatMap f
def aiI(f:α->List (BitVec 8))(G:List (BitVec 8))(l:List α):fl f G l 0=G:=by simp[fl]
def Qg(f:α->List (BitVec 8))(G:List (BitVec 8))(l:List α):fl f G l l.length=G++l.flatMap f:=by simp[fl]
def Jy(f:α->List (BitVec 8))(G:List (BitVec 8))(l:List α)(j:Nat)(h:j<l.length):fl f G l (j+1)=fl f G l j++f l[j]:=by
 unfold fl;rw[<-vM h,GA,oH];simp
def Qf(f:α->List (BitVec 8))(G:List (BitVec 8))(l:List α)(e:∀a∈l,(f a).length<=40)(j:Nat):(fl f G l j).length<=G.length+40*l.length:=by
 unfold fl;rw[lA]
 have c:∀m:List α,(∀a∈m,(f a).length<=40)->(m.flatMap f).length<=40*m.length:=by
  intro m
  induction m with
  |nil=>simp
  |cons a m y=>
   intro h;rw[Dw,lA,sc];have:=h a oO;have:=y (λb e=>h b (nV _ e));omega
 have d:=c (l.take j) (λa N=>e a (GC N));have k:(l.take j).length<=l.length:=fA;omega
def Wl(J:List (BitVec 8))(m:lq):J++wm m=J++[BitVec.ofInt 8 m.kind]++ni m.seq 8++[BitVec.ofInt 8 ((HP m.key).length:Nat)]++HP m.key++yy m:=by
 unfold wm tx;simp only[oH]
def WL(J:List (BitVec 8))(e:mL):J++zb e=J++[BitVec.ofInt 8 ((HP e.key).length:Nat)]++HP e.key++[BitVec.ofInt 8 ((Vi e.val).length:Nat)]++Vi e.val:=by
 unfold zb tx;simp only[oH]
def VL(J:List (BitVec 8))(k:kH):J++BE k=J++[BitVec.ofInt 8 ((HP k).length:Nat)]++HP k:=by
 unfold BE tx;simp only[oH]
structure Nd.Sm(n:Nd):Prop where
 es:n.es.length<=100000000
 ks:n.ks.length<=100000000
 ps:n.ps.length<=100000000
 ms:n.ms.length<=100000000
variable {S:St}{g n:Nat}{J:List AV}
def ri{a t:Nat}{fs:List AV}(N:S.t a=some (.ptr g 0 []))(u:S.h g=some (.var (.agg n fs)))(o:kM.sa t=some (true,n))(e:∀H,BL H fs J):Rm prog S (.cell a t) (.agg n J):=⟨g,.agg n fs,N,u,kM.u5 o,Wk.agg (e _)⟩
def Qi(l:List mL):Nat->Nat->Nat
 |0,a=>a
 |f+1,a=>if a+1<l.length/\2*rX (l.take a)<rX l then Qi l f (a+1)else a
def yD(l:List mL):Nat:=Qi l l.length 1
def aiO{l:List mL}{f a:Nat}(b:a+1<l.length)(c:2*rX (l.take a)<rX l):Qi l (f+1) a=Qi l f (a+1):=by rw[Qi,kx ⟨b,c⟩]
def TK{l:List mL}{f a:Nat}(h:¬(a+1<l.length/\2*rX (l.take a)<rX l)):Qi l (f+1) a=a:=by rw[Qi,ku h]
def Ot(l:List mL)(i:Nat):kH:=((l[i]?).map (·.key)).getD kH.zero
def afb{l:List mL}(h:i<l.length):Ot l i=l[i].key:=by simp[Ot,h]
variable {e:TypeId}{es len cap:Nat}{ea:Bool}
section
def Oe{f:α->AV}{tx:TypeId}{bytes:Nat}{m:Nat}{tok:Option Nat}{G J:List α}(n:lK nt d=true)(o:kM.ti t=some (.sl e es bytes ea))(j:kv T x=some (.seg g 0 es [] len cap))(F:kv T y=some (.sl tok es (J.map f)))
 (u:H g=some (.var (.arr m es (G.map f)))) (i:G.length=len) (q:len<=J.length) (R:∀a,mO (f a)=true):
 kE prog E nt ops ⟨d,.call {callee:=.builtin .copy,args:= #[x,y],argTypes:= #[t,tx]},ty,pos,af,gd⟩ T H [g] ⟨.v (.int .i64 (len:Nat)),[(g,.var (.arr m es ((J.take len).map f)))]⟩:=by
 have K:min (J.map f).length len=len:=fX
 have h:=Js kM (E:=E) (nt:=nt) (ops:=ops) (T:=T) (H:=H) (d:=d) (ty:=ty) (pos:=pos) (af:=af) (gd:=gd) (x:=x) (y:=y) (t:=t) (tx:=tx) (g:=g) (off:=0) (len:=len) (cap:=cap) (m:=m) (p:= []) (z:=.arr m es (G.map f)) (z':=.arr m es ((J.take len).map f)) (src:=.sl tok es (J.map f)) (G:=G.map f) (J:=J.map f) n o j F Aa u O O jb (by
  rw[K];simp only[xM];rw[ub jb,oT,<-vP])
 rwa[K]at h
end
structure Nd.Gd(n:Nd):Prop where
 lf:Lf n.es
 bf:Bf n.ms
 rs:ajn n.ps
 es:n.es.length<=100000
 ks:n.ks.length<=100000
 ps:n.ps.length<=100000
 ms:n.ms.length<=100000
def vq:Nd:=⟨false,[],[],[],[]⟩
def oA(n:Nd)(l:List lq):Nd:=if n.leaf=true then⟨n.leaf,tH n.es l,n.ks,n.ps,n.ms⟩else⟨n.leaf,n.es,n.ks,n.ps,ya n.ms l⟩
noncomputable def x6(n:Nd)(m:lq):Nd×Bool:=if lh (oA n [m])=true then(oA n [m],true)else(n,false)
def nC(p:Nd)(i:Int):List lq:=(D6 p.ms p.ps i).take (Qp (D6 p.ms p.ps i))
def zF(p:Nd)(g:List lq):Nd:=⟨p.leaf,p.es,p.ks,p.ps,EJ p.ms g⟩
def Jq(p:Nd)(i:Int):Prop:=p.leaf=false/\0<=i/\i<p.ks.length
instance (p:Nd) (i:Int):Decidable (Jq p i):=by unfold Jq;infer_instance
noncomputable def ta(p c:Nd)(i:Int):Nd×Nd×Bool:=
 if Jq p i then(if(nC p i).length=0∨lh (oA c (nC p i))=false then(p,c,false)else(zF p (nC p i),oA c (nC p i),true))else(p,c,false)
def BH(n:Int):Prop:=1<=n/\n<256
instance (n:Int):Decidable (BH n):=by unfold BH;infer_instance
def pK(p:Nd)(i id:Int):Prop:=p.leaf=false/\p.ks.length<4/\0<=i/\i<p.ks.length/\BH id/\lF p.ks id<0
instance (p:Nd) (i id:Int):Decidable (pK p i id):=by unfold pK;infer_instance
def x4(es:List mL):Nd:=⟨true,es,[],[],[]⟩
def tJ(es:List mL):Nd×Nd×kH×Bool:=if 2<=es.length then(x4 (es.take (yD es)),x4 (es.drop (yD es)),Ot es (yD es),true)else(vq,vq,kH.zero,false)
def vi(n:Nd):Nd×Nd×kH×Bool:=
 let h:=o5 n.ks n.ps
 if h.2.2.2.2.2=true then(⟨false,[],h.1,h.2.1,oh n.ms [h.2.2.1] 0⟩,⟨false,[],h.2.2.2.1,h.2.2.2.2.1,oh n.ms [h.2.2.1] 1⟩,h.2.2.1,true)else(vq,vq,kH.zero,false)
def uL(n:Nd):Nd×Nd×kH×Bool:=if n.leaf=true then tJ n.es else vi n
def zY(p:Nd)(i:Int)(x:kH)(id:Int):Nd:=⟨p.leaf,p.es,(vx p.ks p.ps i x id).1,(vx p.ks p.ps i x id).2,p.ms⟩
def rU(p c:Nd)(i id:Int):Nd×Nd×Nd×Bool:=
 if pK p i id/\c.leaf=true then
  (let h:=tJ (oA c (nC p i)).es
   if h.2.2.2=true then(zY (zF p (nC p i)) i h.2.2.1 id,h.1,h.2.1,true)else(p,c,vq,false))
 else(p,c,vq,false)
def rV(p c:Nd)(i id:Int):Nd×Nd×Nd×Bool:=
 if pK p i id/\c.leaf=false then
  (let h:=vi c
   if h.2.2.2=true then(zY p i h.2.2.1 id,h.1,h.2.1,true)else(p,c,vq,false))
 else(p,c,vq,false)
def rD(r:Nd)(a b:Int):Nd×Nd×Nd×Bool:=
 if a≠b/\BH a/\BH b then
  (let h:=uL r
   if h.2.2.2=true then(⟨false,[],[a,b],[h.2.2.1],[]⟩,h.1,h.2.1,true)else(r,vq,vq,false))
 else(r,vq,vq,false)
def zm(r:Nd×Nd×Nd×Bool):AV:=.mz [r.1.av,r.2.1.av,r.2.2.1.av,kA r.2.2.2]
def Po(r:Nd×Nd×kH×Bool):AV:=.mz [r.1.av,r.2.1.av,r.2.2.1.av,kA r.2.2.2]
def K7:ajn []:=⟨λe L=>absurd L s6,List.Pairwise.nil⟩
def alo:vq.Gd:=⟨Aw,afW,K7,kO _,kO _,kO _,kO _⟩
def Bf.sub{l b:List lq}(h:Bf l)(s:List.Sublist b l):Bf b:=⟨λm T=>h.ok m (s.subset T),h.DV.sublist s⟩
def N4(l:List lq)(r:List kH)(i:Int):List.Sublist (D6 l r i) l:=by
 unfold D6;split
 .unfold oh;exact(List.drop_sublist _ _).trans (List.take_sublist _ _)
 .exact List.nil_sublist _
def Tv(p:Nd)(i:Int):List.Sublist (nC p i) p.ms:=(List.take_sublist _ _).trans (N4 _ _ _)
def YU{p:Nd}(h:p.Gd)(i:Int):Bf (nC p i):=h.bf.sub (Tv p i)
def FY(p:Nd)(i:Int):(nC p i).length<=p.ms.length:=(Tv p i).length_le
def Ln{o:qn}(a:1<=o.kind)(k:o.kind<=3):(zC o).ok=true:=by
 have w:(zC o).key.ok=true:=afa _;unfold lq.ok;rw[w];unfold zC;by_cases e:o.kind=1
 .simp[e,ahp]
 .by_cases k3:o.kind=3
  .simp[k3]
  .simp[e,k3,a,k]
section
attribute [local irreducible] kE lM AW mU lL mG mC lj lT ly kN
def ZE(v:Int)(y: -9223372036854775808<=v/\v<=9223372036854775807):mG prog 58 [kq v] (pd v).av:=by
 refine kR Gz O ntmps58 O ki [_] O λE S=>?_;have i:=DE v (show(1099511627776:Int)≠0 by omega);have a:=DD v (show(0:Int)<1099511627776 by omega);have c1:=GX v 1099511627776 kh kh y;unfold pd;dsimp only;generalize v%1099511627776=k at i a c1⊢;have W:=kD DC (c1);have Z:=kD func102 (amn (k/4) kh);have Y:=kD func104 (aml (k/64) kh);have V:=kD func101 (abU (za (k/4)));have n:=kD func103 (Xl (IJ (k/64)));have z1:=rG (za (k/4)).E9;have z2:=kH.xK (za (k/4));have w:=rG (IJ (k/64)).E9;have m:=Vl.xK (IJ (k/64));have l:anr.size=9:=rfl;have s:NR.size=18:=rfl;by_cases o:k%4=0
 .have P:1+k%4=1:=by omega
  have R:¬1+k%4=3:=eY;rw[kx o,ku (show¬k%4=2 by omega)];by_cases q:k/8%64=7
  .have p:¬k/8%64=9:=by omega
   rw[kx q,ku p];exact dS
  .rw[ku q];by_cases p:k/8%64=9
   .rw[kx p];exact dS
   .rw[ku p];exact dS
 have P:¬1+k%4=1:=eY;rw[ku o];by_cases j:k%4=2
 .have R:1+k%4=3:=by omega
  rw[kx j];by_cases q:k/8%64=7
  .have p:¬k/8%64=9:=by omega
   rw[kx q];exact dS
  .rw[ku q];exact cF
 have R:¬1+k%4=3:=eY;rw[ku j];by_cases q:k/8%64=7
 .have p:¬k/8%64=9:=by omega
  rw[kx q];exact dS
 rw[ku q];exact cF
def Ue(l:List mL)(g:l.length<=100000000):mG prog 329 [pI l] (kA (xa lx l)):=by
 refine kR func329 O ntmps329 O ki [_] O λE S=>?_;have k':(!true)=false:=rfl;have k'':(!false)=true:=rfl;refine wL ?_;refine kU (λj:Nat=>⟨[(0,pI l),(5,pI l),(6,kq l.length),(7,kq j)],[]⟩) (λj=>j<=l.length/\ ∀i (hi:i<l.length),i<j->l[i].key.ok=true/\l[i].val.ok=true/\ ∀a (N:a+1=i),lx (l[a]'kh).key l[i].key<0) (λj=>l.length- j) 0 ⟨kO _,λi _ h=>by omega⟩ ed (λj k=>?_);obtain⟨b,A⟩:=k;by_cases c:j<l.length
 .have W:=ES l[j].key;have z:=ON l[j].val;cases w:l[j].key.ok with
  |false=>
   rw[w]at W;rw[tL (WJ c w)];have U:=kD A6 (W);exact dX
  |true=>
   rw[w]at W;cases y:l[j].val.ok with
   |false=>
    rw[y]at z;rw[tL (WI c y)];have U:=kD A6 (W);have f2:=kD GJ (z);exact dX
   |true=>
    rw[y]at z;have U:=kD A6 (W);have f2:=kD GJ (z);cases j with
    |zero=>
     refine wL ?_;refine⟨1,⟨c,λi hi x=>?_⟩,by omega,?_⟩
     .obtain rfl:i=0:=by omega
      exact⟨w,y,λa N=>by omega⟩
     .exact ed
    |succ m=>
     have r:=kD A5 (zQ l[m].key l[m+1].key);by_cases q:0<=lx l[m].key l[m+1].key
     .rw[tL (WK c q)];exact dX
     .refine wL ?_;refine⟨m+1+1,⟨c,λi hi x=>?_⟩,by omega,?_⟩
      .by_cases e:i=m+1
       .subst e
        exact⟨w,y,λa N=>by
         have e:a=m:=eY;subst e;exact Int.not_le.1 q⟩
       .exact A i hi kh
      .exact ed
 .rw[F4 (λi hi=>A i hi kh)];exact dX
def LZ(G s:List (BitVec 8))(j:G.length<=1000000000)(o:s.length<=1000000000):
 Ii prog 260 [rwO G,tp s] (bxO G) (rwO (G++[BitVec.ofInt 8 (s.length:Nat)]++s)) (bxO (G++[BitVec.ofInt 8 (s.length:Nat)]++s)):=by
 refine nh Dv O ntmps260 O ki [_] O λE S=>hTF λN i=>?_;exact dh
def afQ(G:List (BitVec 8)):Ii prog 210 [rwO G] (bxO G) (tp (ni ((adm G).setWidth 64) 4)) (bxO G):=by
 refine nh Du O ntmps210 O ki [_] O λE S=>hTF λN i=>?_;have K:=nD func262 (anG G);have W:=kD GL (age ((adm G).setWidth 64) 4 kh kh);refine wY ?_;refine Wc (n7 [(1000,1000)] K O O O O gV ii ii O O O) hP ?_;refine wY ?_;exact Nb ⟨⟨ii,rfl⟩,ajJ O,trivial⟩
def alQ(G:List (BitVec 8))(n:Nd)(k:G.length<=1000)(B:NdR n):
 Ii prog 209 [rwO G,n.av] (bxO G) (rwO (G++v7 n)) (bxO (G++v7 n)):=by
 obtain⟨u,es,p,ps,ms⟩:=n;obtain⟨g,M,X,r,x,hlp,P⟩:=B;dsimp only at g M X r x hlp P
 have t:G++v7 ⟨u,es,p,ps,ms⟩=fl wm (fl BE (fl Ct (fl zb G es es.length) p p.length) ps ps.length) ms ms.length:=by
  rw[Qg,Qg,Qg,Qg];unfold v7;simp only[oH]
 rw[t];have A:=Qf zb G es (λe L=>afz (g e L));generalize T:fl zb G es es.length=C;have b1':C.length<=1000+40*100000:=by have:=A es.length;rw[T]at this;omega
 have c:=Qf Ct C p (λe L=>by rw[LB];omega);generalize J:fl Ct C p p.length=I;have b2':I.length<=1000+80*100000:=by have:=c p.length;rw[J]at this;omega
 have b3:=Qf BE I ps (λe L=>adU (M e L));generalize d:fl BE I ps ps.length=F;have b3':F.length<=1000+120*100000:=by have:=b3 ps.length;rw[d]at this;omega
 have D:=Qf wm F ms (λe L=>aeR (X e L));clear t;refine nh func209 O ntmps209 O ki [_] O λE S=>hTF λN l=>?_;refine wY ?_;refine kU (λj:Nat=>⟨[(0,rwO (fl zb G es j)),(3,.ptr 3 0 []),(14,pI es),(15,.v (.int .i64 es.length)),(16,.v (.int .i64 (j:Nat)))],[(3,.var (Nd.av ⟨u,es,p,ps,ms⟩)),(1000,.own 5 1 ((fl zb G es j).map lN))]⟩) (λj=>j<=es.length) (λj=>es.length- j) 0 (kO _) gY (λj i=>?_);by_cases Z:j<es.length
 .have v:(j:Int)<(es.length:Nat):=by omega
  have H:=g es[j] (ng Z);have hb:=A j;have w:=uK H.1;have y:=yr H.2;obtain⟨⟨q,m⟩,U,R⟩:=H;have K:=LZ (fl zb G es j) (HP es[j].key) kh kh;have W:=LZ (fl zb G es j++[BitVec.ofInt 8 ((HP es[j].key).length:Nat)]++HP es[j].key) (Vi es[j].val) ic kh;have o:=Jy zb G es j Z;rw[WL]at o;have z:=nD Dv (K);have a:=nD Dv (W);refine wRG ?_;refine oz ?_;refine wRG ?_;refine oz ?_;refine wRG ?_;refine oz ?_;refine lU (lL.afo 6 O) ?_;refine wY ?_;apply BJ [1000] [1000];exact n7 [(1000,1000)] z O O O O gV ii ii O O O;exact O;exact O;exact ig;refine wY ?_;apply BJ [1000] [1000];exact n7 [(1000,1000)] a O O O O gV ii ii O O O;exact O;exact O;exact ig;refine wY ?_;refine⟨j+1,by omega,by omega,?_⟩;exact dC
 .obtain rfl:j=es.length:=by omega
  have v:¬(es.length:Int)<(es.length:Nat):=eY;rw[T];refine wY ?_;refine kU (λj:Nat=>⟨[(0,rwO (fl Ct C p j)),(3,.ptr 3 0 []),(37,lJ p),(38,.v (.int .i64 p.length)),(39,.v (.int .i64 (j:Nat)))],[(3,.var (Nd.av ⟨u,es,p,ps,ms⟩)),(1000,.own 5 1 ((fl Ct C p j).map lN))]⟩) (λj=>j<=p.length) (λj=>p.length- j) 0 (kO _) gY (λj i=>?_);by_cases Z:j<p.length
  .have v:(j:Int)<(p.length:Nat):=by omega
   have hb:=c j;have K:=afO (fl Ct C p j) (BitVec.ofInt 64 p[j]) 4 kh kh kh;have o:fl Ct C p (j+1)=fl Ct C p j++ni (BitVec.ofInt 64 p[j]) 4:=Jy Ct C p j Z;have z:=nD GL (K);exact ay
  .obtain rfl:j=p.length:=by omega
   have v:¬(p.length:Int)<(p.length:Nat):=eY;rw[J];refine wY ?_;refine kU (λj:Nat=>⟨[(0,rwO (fl BE I ps j)),(3,.ptr 3 0 []),(49,rp ps),(50,.v (.int .i64 ps.length)),(51,.v (.int .i64 (j:Nat)))],[(3,.var (Nd.av ⟨u,es,p,ps,ms⟩)),(1000,.own 5 1 ((fl BE I ps j).map lN))]⟩) (λj=>j<=ps.length) (λj=>ps.length- j) 0 (kO _) gY (λj i=>?_);by_cases Z:j<ps.length
   .have v:(j:Int)<(ps.length:Nat):=by omega
    have H:=M ps[j] (ng Z);have hb:=b3 j;have w:=uK H;obtain⟨q,m⟩:=H;have K:=LZ (fl BE I ps j) (HP ps[j]) kh kh;have o:=Jy BE I ps j Z;rw[VL]at o;have z:=nD Dv (K);refine wRG ?_;refine oz ?_;refine wRG ?_;refine oz ?_;refine wRG ?_;refine oz ?_;refine lU (lL.afo 10 O) ?_;exact ay
   .obtain rfl:j=ps.length:=by omega
    have v:¬(ps.length:Int)<(ps.length:Nat):=eY;rw[d];refine wY ?_;refine kU (λj:Nat=>⟨[(0,rwO (fl wm F ms j)),(3,.ptr 3 0 []),(63,nk ms),(64,.v (.int .i64 ms.length)),(65,.v (.int .i64 (j:Nat)))],[(3,.var (Nd.av ⟨u,es,p,ps,ms⟩)),(1000,.own 5 1 ((fl wm F ms j).map lN))]⟩) (λj=>j<=ms.length) (λj=>ms.length- j) 0 (kO _) gY (λj i=>?_);by_cases Z:j<ms.length
    .have v:(j:Int)<(ms.length:Nat):=by omega
     have H:=X ms[j] (ng Z);have hb:=D j;have w:=uK H.1;have y:=yr H.2;obtain⟨⟨q,m⟩,U,R⟩:=H;have K:=afO (fl wm F ms j++[BitVec.ofInt 8 ms[j].kind]) ms[j].seq 8 ic kh kh;have W:=LZ (fl wm F ms j++[BitVec.ofInt 8 ms[j].kind]++ni ms[j].seq 8) (HP ms[j].key) (by simp only[lA,List.length_singleton,lP];omega) kh;have o:=Jy wm F ms j Z;rw[Wl]at o;obtain⟨Y,s⟩:∃Y,fl wm F ms j++[BitVec.ofInt 8 ms[j].kind]++ni ms[j].seq 8++[BitVec.ofInt 8 ((HP ms[j].key).length:Nat)]++HP ms[j].key=Y:=⟨_,rfl⟩;have hYl:Y.length<=17000000:=by rw[<-s];simp only[lA,List.length_singleton,lP];omega
     rw[s]at W o;clear s;have z:=nD GL (K);have a:=nD Dv (W);refine wRG ?_;refine oz ?_;refine wRG ?_;refine oz ?_;refine wRG ?_;refine oz ?_;refine lU (lL.afo 12 O) ?_;by_cases f:ms[j].kind=1
     .have b:=LZ Y (Vi ms[j].val) kh kh;have V:=nD Dv (b);refine wY ?_;apply BJ [1000] [1000];exact n7 [(1000,1000)] z O O O O gV ii ii O O O;exact O;exact O;exact ig;refine wY ?_;apply BJ [1000] [1000];exact n7 [(1000,1000)] a O O O O gV ii ii O O O;exact O;exact O;exact ig;refine wY ?_;apply BJ [1000] [1000];exact n7 [(1000,1000)] V O O O O gV ii ii O O O;exact O;exact O;exact ig;refine wY ?_;refine⟨j+1,by omega,by omega,?_⟩;have L:yy ms[j]= [BitVec.ofInt 8 ((Vi ms[j].val).length:Nat)]++Vi ms[j].val:=by unfold yy tx;rw[kx f]
      rw[o,L,<-oH Y];exact ed
     .by_cases k3:ms[j].kind=3
      .have b:=afO Y ms[j].add 8 kh kh kh;have V:=nD GL (b);refine wY ?_;apply BJ [1000] [1000];exact n7 [(1000,1000)] z O O O O gV ii ii O O O;exact O;exact O;exact ig;refine wY ?_;apply BJ [1000] [1000];exact n7 [(1000,1000)] a O O O O gV ii ii O O O;exact O;exact O;exact ig;refine wY ?_;apply BJ [1000] [1000];exact n7 [(1000,1000)] V O O O O gV ii ii O O O;exact O;exact O;exact ig;refine wY ?_;refine⟨j+1,by omega,by omega,?_⟩;have L:yy ms[j]=ni ms[j].add 8:=by unfold yy;rw[ku f,kx k3]
       rw[o,L];exact ed
      .refine wY ?_;apply BJ [1000] [1000];exact n7 [(1000,1000)] z O O O O gV ii ii O O O;exact O;exact O;exact ig;refine wY ?_;apply BJ [1000] [1000];exact n7 [(1000,1000)] a O O O O gV ii ii O O O;exact O;exact O;exact ig;refine wY ?_;refine⟨j+1,by omega,by omega,?_⟩;have L:yy ms[j]= []:=by unfold yy;rw[ku f,ku k3]
       rw[o,L,oT];exact ed
    .obtain rfl:j=ms.length:=by omega
     have v:¬(ms.length:Int)<(ms.length:Nat):=eY;exact dh
def Ud(n:Nd)(h:n.Sm):mG prog 328 [n.av] (kA (ED lx n)):=by
 obtain⟨X,es,l,ps,ms⟩:=n;dsimp only[Nd.av];refine kR func328 O ntmps328 O ki [_] O λE S=>?_;obtain⟨a,b,k,A⟩:=h;unfold ED;dsimp only at a b k A⊢;have c1:=Ue es a;cases q:xa lx es with
 |false=>
  rw[q]at c1;have W:=kD func329 (c1);exact dY
 |true=>
  rw[q]at c1;have W:=kD func329 (c1);by_cases c:l.length+ps.length+ms.length=0
  .rw[kW c];refine wI ?_;exact oY ⟨Ah O kh,trivial⟩
  .rw[la c];refine wI ?_;exact oY ⟨Ew O kh,trivial⟩
def Rc(n:Nd)(h:n.Sm):mG prog 331 [n.av] (kA (FR lx n)):=by
 obtain⟨X,es,l,ps,ms⟩:=n;dsimp only[Nd.av];refine kR func331 O ntmps331 O ki [_] O λE S=>?_;obtain⟨a,b,k,A⟩:=h;unfold FR;dsimp only at a b k A⊢;have c1:=Xn l ps;have c2:=Xp ms A;by_cases c:es.length=0
 .rw[kW c];cases q:sY lx l ps with
  |false=>
   rw[q]at c1;have W:=kD func332 (c1);exact dY
  |true=>
   rw[q]at c1;have W:=kD func332 (c1);have z:=kD func333 (c2);exact dY
 .rw[la c];exact dY
def Rb(n:Nd)(h:n.Sm)(c:EBd n.es):mG prog 327 [n.av] (kq (rX n.es)):=by
 refine kR func327 O ntmps327 O ki [_] O λE S=>?_;have W:=kD func295 (IW n.es c h.es);exact dY
def Ns(n:Nd)(h:n.Sm):mG prog 330 [n.av] (kq (s5 n.ms)):=by
 refine kR func330 O ntmps330 O ki [_] O λE S=>?_;have W:=kD func275 (Mw n.ms h.ms);exact dY
def zP(es:List mL)(k:List Int)(t:List kH)(ms:List lq):mG prog 244 [Nd.av ⟨true,es,k,t,ms⟩] (.ifc 354 (Nd.av ⟨true,es,k,t,ms⟩)):=by exact cD
def yh(es:List mL)(k:List Int)(t:List kH)(ms:List lq):mG prog 244 [Nd.av ⟨false,es,k,t,ms⟩] (.ifc 355 (Nd.av ⟨false,es,k,t,ms⟩)):=by exact cD
def Ua(n:Nd)(h:n.Sm):mG prog 259 [n.av] (kA (Ar lx n)):=by
 obtain⟨X,es,k,ps,ms⟩:=n;dsimp only[Nd.av];refine kR func259 O ntmps259 O ki [_] O λE S=>?_;cases X with
 |true=>
  have W:=kD uS (zP es k ps ms);have z:=YJ (t:=354) (name:= "orangery/node.right") Tryz.func328 (Ud _ h) jC jC jC jC;exact dY
 |false=>
  have W:=kD uS (yh es k ps ms);have z:=YJ (t:=355) (name:= "orangery/node.right") Tryz.func331 (Rc _ h) jC jC jC jC;exact dY
def IU(n:Nd)(h:n.Sm)(c:n.leaf=true->EBd n.es):mG prog 191 [n.av] (kq (C5 n)):=by
 obtain⟨X,es,k,ps,ms⟩:=n;dsimp only[Nd.av];refine kR func191 O ntmps191 O ki [_] O λE S=>?_;cases X with
 |true=>
  have W:=kD uS (zP es k ps ms);have z:=YJ (t:=354) (name:= "orangery/node.bytes") Tryz.func327 (Rb _ h (c O)) jC jC jC jC;exact dY
 |false=>
  have W:=kD uS (yh es k ps ms);have z:=YJ (t:=355) (name:= "orangery/node.bytes") Tryz.func330 (Ns _ h) jC jC jC jC;exact dY
def yi(n:Nd)(h:n.Sm):mG prog 208 [n.av] (kA (lh n)):=by
 refine kR xi O ntmps208 O ki [_] O λE S=>?_;have c1:=Ua n h;have c2:=λhb=>IU n h hb;unfold lh;have c:=We (n:=n);cases q:Ar lx n with
 |false=>
  rw[q]at c1;have P:=kD func259 (c1);obtain⟨X,es,k,ps,ms⟩:=n;cases X with
  |true=>
   have W:=kD uS (zP es k ps ms);exact dY
  |false=>
   have W:=kD uS (yh es k ps ms);exact dY
 |true=>
  rw[q]at c1;have c3:=c2 (c q);have P:=kD func259 (c1);have a:=kD func191 (c3);obtain⟨X,es,k,ps,ms⟩:=n;cases X with
  |true=>
   have W:=kD uS (zP es k ps ms);exact dY
  |false=>
   have W:=kD uS (yh es k ps ms);exact dY
def Mr(l:List mL)(h:l.length<2):mG prog 283 [pI l] (.mz [pI [],pI [],kH.zero.av,kA false]):=by
 refine kR func283 O ntmps283 O ki [_,_,_,_] O λE S=>?_;refine wL ?_;exact oY ⟨si O,si O,gu,gr,trivial⟩
def Uc(l:List mL)(d:EBd l)(h:2<=l.length)(g:l.length<=100000000):mG prog 283 [pI l] (.mz [pI (l.take (yD l)),pI (l.drop (yD l)),(Ot l (yD l)).av,kA true]):=by
 refine kR func283 O ntmps283 O ki [_,_,_,_] O λE S=>?_;have J:=d.sum;have W:=kD func295 (IW l d g);refine wL ?_;refine kU (λj:Nat=>⟨[(0,pI l),(4,.ptr 4 0 []),(6,kq j),(7,kq (rX (l.take j))),(8,kq (rX l))],[(4,.var kH.zero.av)]⟩) (λj=>j<l.length/\(j=0∨Qi l (l.length- j+1) j=yD l)) (λj=>l.length- j) 0 ⟨by omega,.inl O⟩ ed (λj i=>?_);obtain⟨A,j3⟩:=i;have s:=d.take j;have w:=s.sum;rw[n5]at w;have o:=OC l j A;have L:=d l[j] (ng A);have k:l[j].size=2+l[j].key.n+l[j].val.n:=rfl;have t:j=0->rX (l.take j)=0:=λe=>by subst e;rfl
 have z:=kD func296 (Ms l[j] L);by_cases c:j+1<l.length
 .by_cases q:2*rX (l.take j)<rX l
  .refine wL ?_;refine⟨j+1,⟨c,.inr ?_⟩,by omega,?_⟩
   .rcases j3 with j3|j3
    .subst j3
     show Qi l (l.length- 1+1) 1=yD l
     rw[show l.length- 1+1=l.length by omega];rfl
    .rw[aiO c q]at j3;rw[<-j3,show l.length-(j+1)+1=l.length- j by omega]
   .rw[o];exact ed
  .have j3:=j3.resolve_left (λe=>by have:=t e;omega);rw[TK (λh=>q h.2)]at j3;exact aj
 .have j3:=j3.resolve_left (λe=>by omega);rw[TK (λh=>c h.1)]at j3;exact aj
end
