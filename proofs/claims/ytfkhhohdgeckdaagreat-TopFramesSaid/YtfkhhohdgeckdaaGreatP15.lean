/- Part of the proof, without conditions. -/
import Derived.Test.YtfkhhohdgeckdaaGreatP14
namespace Go.Proofs.YtfkhhohdgeckdaaGreat
open Go RowKit Proofs.Tryz
set_option linter.all false
set_option maxRecDepth 100000
set_option maxHeartbeats 16000000
def kP.new(n:Nat):kP:=⟨List.replicate n Fr.empty,λ_=>none,λ_=>none,[],0⟩
abbrev Oh(h c H:Nat)(A:Option (Nat×Nat))(len cap:Nat):AV:=.agg 5 [.raw (5,h) [] (sv 11 A len cap),.raw (6,h) [] (.map (some c)),.raw (7,h) [] (.map (some H)),.raw (8,h) [] (.slice none 0 0),kq 0]
def pG(v:List Bool)(n f:Nat):Nat->Nat->List Bool->Int×Int×List Bool
 |0,_,left=>(-1,(f:Nat),left)
 |k+1,i,left=>if v.getD ((f+i)%n) false then
  (if left.getD ((f+i)%n) false then pG v n f k (i+1) (left.set ((f+i)%n) false)
   else(((f+i)%n:Nat),(((f+i)%n+1)%n:Nat),left))
  else pG v n f k (i+1) left
def Iq(v b:List Bool)(n:Int):Int×Int×List Bool:=
 if v.length=0∨b.length≠v.length then(-1,0,[])else pG v v.length ((n.tmod v.length+v.length).tmod v.length).toNat (2*v.length) 0 b
theorem Hr(v:List Bool)(n f:Nat):∀(k i:Nat) (left:List Bool),(pG v n f k i left).2.2.length=left.length
 |0,_,_=>rfl
 |k+1,i,left=>by
  unfold pG;split
  .split
   .rw[Hr v n f k];simp
   .rfl
  .exact Hr v n f k _ _
theorem KU(v:List Bool)(n f:Nat)(B:0<n):∀(k i:Nat) (left:List Bool),(pG v n f k i left).1<n/\(0<=(pG v n f k i left).1->v.getD (pG v n f k i left).1.toNat false=true)
 |0,_,_=>by simp only[pG];exact⟨by omega,λh=>by omega⟩
 |k+1,i,left=>by
  unfold pG;split
  .rename_i u;split
   .exact KU v n f B k _ _
   .have:=AK (f+i) B;exact⟨by dsimp only;omega,λ_=>by dsimp only;rw[pP];exact u⟩
  .exact KU v n f B k _ _
def MA:Prop:=∀(v b:List Bool) (n:Int),v.length<=100->b.length<=100-> -1000000<=n->n<=1000000->mG prog 137 [Jc v,Jc b,kq n] (.mz [kq (Iq v b n).1,kq (Iq v b n).2.1,Jc (Iq v b n).2.2])
def Fr.can(f:Fr):Bool:=decide (f.st=2)&&decide (f.pins=0)
def kP.Ha(c:kP):Int×Int×List Bool:=Go.Proofs.YtfkhhohdgeckdaaGreat.Iq (c.fr.map Fr.can) (c.fr.map (·.ref)) c.hand
def kP.me(c:kP):kP×Option (Int×Nd×Bool):=
 if c.Ha.1<0 then(c,none)
 else match(c.fr[c.Ha.1.toNat]?)with
  |none=>(c,none)
  |some f=>({c with fr:=(c.fr.mapIdx λi f=>{f with ref:=c.Ha.2.2.getD i false}).set c.Ha.1.toNat Fr.empty,hand:=c.Ha.2.1,at_:=λk=>if k=f.oj then none else c.at_ k},some (f.oj,f.nd,f.uO))
variable {X:kY}{e:TypeId}{n b off cap i:Nat}{l lb:nz}{p:List Nat}{G J:List AV}
def adq{m:Nat}{o c:Nat}(t:X l=some (.my e n (some (b,o)) cap G))(hi:G[i]?=some (.arr n 1 J))(U:off=o*n+i*n)(T:m=J.length):IZ X 1 (.raw lb p (.slice (some ⟨b,off,none⟩) m c)) J:=λE B H w v j r k y=>by
 obtain⟨_,rfl⟩:=qI.1 y;have F:=r l _ t;obtain⟨cur,e',A,f,k2,k3,x⟩:=KD F (show vc (.my e n (some (b,o)) cap G)=some (b,o*n,.arr (G.length*n) n G)from rfl);obtain⟨c1,c2,c3,rfl,z,u,_⟩:=wz [i] x (Vp hi O);rw[aek hi]at z;simp only[tj,Nat.add_zero]at z;simp only[Rd]at u;obtain⟨u,V⟩:=u;have g:=lG V;rw[uR]at g;have s:=qK j V;rw[uR]at s;refine⟨by simp[Builtin.lenOf,T],c2.take j,?_,s⟩;have R:(c2.take j).length=j*1:=fA;refine xm (P:=prog) w 1 j ⟨b,off,none⟩ m c _ R ?_
 have S:mQ w b off (c2.take j).length=some (c2.take j).toArray:=yW f (by simp at k2⊢;omega) λq d=>by
  rw[n5]at d;rw[show off+q=o*n+(i*n+q) by omega,k3 _ jY,oH,o7 kh,pF kh,yP kh]
  congr 1;omega
 exact pg S
variable {E:su}{nt:Nat}{ops:Array Oper}{T:Nat->Option AV}{H:Hp}{d:Option Nat}{ty:TypeId}{pos:String}{af:Array Edge}{gd:Option (Nat×Bool)}
variable {t:TypeId}{tn len es:Nat}{ea:Bool}{x:Operand}
variable {y:Operand}{et:TypeId}{src:AV}
variable {g:Nat}
section
def Oc(o:kM.ti t=some (.arr tn (len+1) es ea e))(j:kv T x=some (.raw l p (.pointer (some ⟨b,off,none⟩))))(g:Nat.blt len 9223372036854775807=true)(n:lK nt d=true):
 kE prog E nt ops ⟨d,.slice t x none none none,ty,pos,af,gd⟩ T H [] ⟨.raw l p (.slice (some ⟨b,off,none⟩) (len+1) (len+1)),[]⟩:=
 lO n λB T' H' a w r s D=>by have f:=r.pe ((s x js).trans j);have g:len<9223372036854775807:=fU;obtain⟨_,hu,L⟩:=kM.ok t _ o;have i:=lC L w;have M:=rH (P:=prog) (isS:=false) (len:=len+1) (cap:=len+1) r (show se T' none 0 0 from rfl) (show se T' none (len+1) (len+1)from rfl) (show se T' none (len+1) (len+1)from rfl) ki (kO _) (kK _) (kK _);refine⟨.slice (some ⟨b,off,none⟩) (len+1) (len+1),?_,Bn O⟩;simp at M;simp[execOp,f,Instr.sliceAt,lu hu,Instr.sureAddr,M,i,Addr.add]
def aez{tx:TypeId}{bytes:Nat}{o m c:Nat}{Z:List AV}(s:kM.ti t=some (.sl e 1 bytes ea))(k:kv T x=some (.raw l p (.slice (some ⟨b,off,none⟩) m c)))(F:kv T y=some src)(C:H 4999=some (.ext (Sg X)))(j:X l=some (.my et n (some (b,o)) cap G))(hi:G[i]?=some (.arr n 1 Z))(V:off=o*n+i*n)
 (hsrc:IZ X 1 src J) (U:m=n) (hym:J.length=n) (q:lK nt d=true):
 kE prog E nt ops ⟨d,.call {callee:=.builtin .copy,args:= #[x,y],argTypes:= #[t,tx]},ty,pos,af,gd⟩ T H [4999] ⟨.v (.int .i64 (J.length:Nat)),[(4999,.ext (Sg (X.put l (.my et n (some (b,o)) cap (G.set i (.arr n 1 J))))))]⟩:=
 oC q λB T' H' a w r u D A=>by
  have Y:H' 4999=some (.ext (Sg X)):=(D 4999 ki).trans C;have h:=r.pe ((u x iV).trans k);obtain⟨W,R,S,s3⟩:=hsrc E B H' w _ J.length (λl xb j=>r.El Y j) (kK _) (r.eval ((u y iV).trans F));rw[nQ]at s3;have hnl:=lG s3;rw[uR,hym]at hnl;have hil:i<G.length:=(mS.1 hi).1;have N:=r.El Y j;obtain⟨I,f,_⟩:=N
  have z:ov (kI E B H') w n [.arr n 1 J] B0 H0 R:=by
   have g:=s3;simp only[ov];refine⟨R,[],by simp,hnl,?_,rfl⟩;simp only[Rd];exact⟨hnl,g⟩
  obtain⟨M,K⟩:=r.amR Y j z (Nat.le_of_lt hil) jY
  have P:G.take i++([AV.arr n 1 J]++G.drop (i+[AV.arr n 1 J].length))=G.set i (.arr n 1 J):=by
   rw[List.set_eq_take_append_cons_drop,kx hil];rfl
  rw[P]at K;have v:(o+i)*n=off:=by rw[V,lZ]
  rw[v]at M K;obtain⟨_,hu,L,_⟩:=kM.ok t _ s;have hzz:=lC L w;have hmin:Nat.min J.length m=J.length:=AX kh;have hmin':min J.length m=J.length:=hmin;refine⟨.int .i64 (J.length:Nat),_,B,?_,K,by rw[nM];exact⟨O,rfl⟩⟩;simp[execOp,resolve,invoke,builtin,Builtin.copy_,h,lu hu,W,hmin,hmin',hzz,S,M,goInt]
def abj{tx:TypeId}{bytes:Nat}{m:Nat}(o:kM.ti t=some (.sl e 1 bytes ea))(k:kv T x=some (.seg g 0 1 [] len cap))(F:kv T y=some src)(z:H 4999=some (.ext (Sg X)))(K:IZ X 1 src J)
 (u:H g=some (.var (.arr m 1 G))) (j:len=G.length) (W:J.length=len) (n:lK nt d=true):
 kE prog E nt ops ⟨d,.call {callee:=.builtin .copy,args:= #[x,y],argTypes:= #[t,tx]},ty,pos,af,gd⟩ T H [g,4999] ⟨.v (.int .i64 (len:Nat)),[(g,.var (.arr m 1 J))]⟩:=
 oC n λB T' H' a w r s D v=>by
  have Y:H' g=some (.var (.arr m 1 G)):=(D g ki).trans u;have I:H' 4999=some (.ext (Sg X)):=(D 4999 ki).trans z;have h:=ml ki (r.eval ((s x iV).trans k)) O;obtain⟨V,A,C,N⟩:=K E B H' w _ J.length (λl xb j=>r.El I j) (kK _) (r.eval ((s y iV).trans F));rw[nQ]at N;simp only[Rd]at h;obtain⟨_,b,c,_,_,f⟩:=h;injection f with f;obtain⟨b',cs,tt,i,k2,k3,_⟩:=r.box g _ Y;rw[c]at i;injection i with i;subst i
  simp only[Rd]at k3;have Z:=lG N;have R:=lG k3.2;rw[uR]at Z R;obtain⟨_,hu,L,_⟩:=kM.ok t _ o;have hzz:=lC L w;have M:=oM (P:=prog) w b 0 A k2 jY (vR 1 _ N)
  have S:lY cs.toArray 0 A.toArray=A.toArray:=by
   apply qB;intro q;by_cases p:q<A.length
   .rw[mn jY];rw[kx jY];simp
   .rw[ru (by rw[oL _ _ _ jY];simp;omega),ru jY]
  have hst2:=r.store (x':=.arr m 1 J) (cs':=A) Y c k2 (oZ (off:=0) (cs:=A.toArray)) (by rw[mB k2,S]) kh
   (by simp only[Rd];exact⟨by have:=k3.1;omega,N⟩)
  rw[W]at V C;have U:Nat.min len len=len:=Nat.min_self len;have hmin':min len len=len:=U;refine⟨.int .i64 (len:Nat),mw w b 0 A.toArray,B,?_,hst2,by rw[nM];exact⟨O,rfl⟩⟩;simp[execOp,resolve,invoke,builtin,Builtin.copy_,f,lu hu,V,U,hmin',hzz,C,M,goInt,W]
end
def H3(l:List (BitVec 8)):AV:=.arr 256 1 (l.map lN)
structure sO where
 oj:List (List (BitVec 8))
 used:List Bool
structure Ib where
 b:Nat
 bb:Nat
 ob:Nat
 cb:Nat
 bu:Nat
 ou:Nat
 cu:Nat
abbrev X6(h:Nat)(p:Ib)(s:sO):AV:=.agg 2 [.raw (14,h) [] (sv 256 (some (p.bb,p.ob)) (s.oj.map H3).length p.cb),.raw (15,h) [] (sv 1 (some (p.bu,p.ou)) (s.used.map kA).length p.cu)]
structure zS(X:kY)(h:Nat)(p:Ib)(s:sO):Prop where
 o:X (13,h)=some (.var p.b (X6 h p s))
 bl:X (14,h)=some (.my 278 256 (some (p.bb,p.ob)) p.cb (s.oj.map H3))
 us:X (15,h)=some (.my 4 1 (some (p.bu,p.ou)) p.cu (s.used.map kA))
 len:s.oj.length=s.used.length
 n:s.used.length<=256
 by_:∀l∈s.oj,l.length=256
def MB(h:Nat)(l:nz):Prop:=13<=l.1/\l.1<=15/\l.2=h
def ry(h:Nat)(X C:kY):Prop:=∀l,¬MB h l->C l=X l
def ry.refl(h:Nat)(X:kY):ry h X X:=λ_ _=>rfl
variable {h:Nat}{Y Z:kY}
def ry.trans(k:ry h X Y)(k':ry h Y Z):ry h X Z:=λl g=>(k' l g).trans (k l g)
variable {xb:XB}
def ry.put(k:13<=i/\i<=15):ry h X (X.put (i,h) xb):=λj l=>ky _ _ (λe=>l (e▸⟨k.1,k.2,rfl⟩))
def sO.ok(s:sO)(i:Int):Bool:=if 0<=i then s.used.getD i.toNat false else false
def sO.read(s:sO)(i:Int):Option (List (BitVec 8)):=if s.ok i then s.oj[i.toNat]? else none
def sO.write(s:sO)(i:Int)(l:List (BitVec 8)):sO:=if s.ok i/\l.length=256 then {s with oj:=s.oj.set i.toNat l}else s
def sO.next(s:sO):Option Nat:=s.used.findIdx? λu=> !u
def sO.alloc(s:sO)(i:Nat):sO:=⟨s.oj.set i (List.replicate 256 0#8),s.used.set i true⟩
def ahy(v b:List Bool)(n:Int)(h:0<=(Iq v b n).1):(Iq v b n).2.2.length=v.length:=by
 unfold Iq at h⊢;split
 .rename_i u;rw[kx u]at h;simp at h
 .rename_i u;rw[Hr];omega
def akG(v b:List Bool)(n:Int)(h:0<=(Iq v b n).1):(Iq v b n).1<v.length:=by
 unfold Iq at h⊢;split
 .rename_i u;rw[kx u]at h;simp at h
 .rename_i u;exact(KU v _ _ kh _ _ _).1
def PX(fs:List Fr)(l:List Bool)(j:Nat):List Fr:=fs.mapIdx λi f=>if i<j then {f with ref:=l.getD i false}else f
def YF(fs:List Fr)(l:List Bool)(j:Nat):(PX fs l j).length=fs.length:=by simp[PX]
def ant(fs:List Fr)(l:List Bool):PX fs l 0=fs:=by
 apply wv;intro i;simp[PX]
def YG(fs:List Fr)(l:List Bool):PX fs l fs.length=fs.mapIdx λi f=>{f with ref:=l.getD i false}:=by
 apply wv;intro i;simp only[PX,sn];by_cases hi:i<fs.length
 .rw[kQ hi];simp[hi]
 .rw[pN kh];rfl
variable {j:Nat}
def alq{fs:List Fr}{l:List Bool}{f:Fr}(h:fs[j]?=some f):(PX fs l j)[j]?=some f:=by simp[PX,sn,h]
def ail{fs:List Fr}{l:List Bool}{f:Fr}(h:fs[j]?=some f)(b:Bool)(d:l.getD j false=b):((PX fs l j).map Fr.av).set j ({f with ref:=b}:Fr).av=(PX fs l (j+1)).map Fr.av:=by
 rw[<-uT]
 congr 1
 apply wv;intro i;rw[AO,YF];have k:=(mS.1 h).1;by_cases e:j=i
 .subst e;rw[kx O,kx k];rw[nI]at d;simp[PX,sn,h,d]
 .rw[ku e];simp only[PX,sn];by_cases c:i<j
  .simp[c,show i<j+1 by omega]
  .simp[c,show¬i<j+1 by omega]
def akR(h:X l=some xb):X.put l xb=X:=by
 funext j;by_cases e:j=l
 .subst e;rw[kC,h]
 .exact ky _ _ e
variable {C:kY}{c:kP}
theorem om.me{p:qq}(u:om X h p c)(fs:List Fr)(g:fs.length=c.fr.length)(k n:Int)(B:C (4,h)=some (.var p.b (.agg 5 [.raw (5,h) [] (sv 11 (some (p.bf,p.off)) (c.fr.map Fr.av).length p.cf),.raw (6,h) [] (.map (some p.ra)),.raw (7,h) [] (.map (some p.rl)),.raw (8,h) [] (sv 3 p.L (c.line.map Bw).length p.cl),kq n])))(D:C (5,h)=some (.my 219 11 (some (p.bf,p.off)) p.cf (fs.map Fr.av)))(P:C (6,h)=some (.ob p.ra (ua (y9 k p.ea) p.ka)))(U:∀j,j≠(4,h)->j≠(5,h)->j≠(6,h)->C j=X j):
 mV h p {c with fr:=fs,hand:=n,at_:=λj=>if j=k then none else c.at_ j} X C:=by
 refine⟨λj i=>U j (λe=>i iE) (λe=>i iE) (λe=>i iE),{p with ea:=y9 k p.ea},rfl,rfl,rfl,?_⟩;refine⟨(U _ ki ki ki).trans u.s,by rw[B];simp only[wW,kX,g],D,P,(U _ ki ki ki).trans u.l,(U _ ki ki ki).trans u.n,u.aw.del _,λj=>?_,u.lw,λj=>?_⟩
 .have n:=FJ k j p.ea u.aw.keys;dsimp only;rw[n];split
  .rfl
  .exact u.ag j
 .have:=u.lg j;dsimp only;cases d:c.oE j with
  |none=>rw[d]at this;exact this
  |some l=>
   rw[d]at this;obtain⟨f,k2,A,cap,k3,m⟩:=this;exact⟨f,k2,A,cap,k3,(U _ ki ki ki).trans m⟩
def kP.ev0:Int×Nd×Bool:=(0,⟨false,[],[],[],[]⟩,false)
variable {b3 b6 b7 b8 b9:Nat}{left:List Bool}{pl nx:Int}
section
attribute [local irreducible] kE lM AW mU lL mG mC lj lT ly kN AS
section
attribute [local irreducible] lF kP.mm kP.waits kP.free BA
def akx(X:kY)(h n:Nat)(a:1<=n)(c:n<=64)(k:X (3,h)=none):mZ prog 106 [kq (n:Nat)] X (.mz [.hv 4998,kq 0]) (λC v=>oy h X C/\ ∃p,v= .pointer (some ⟨p.b,0,none⟩)/\om C h p (kP.new n)):=by
 have W:=kD JS (Mv);refine kz func106 O ntmps106 O ki [_,_] O λE S N l=>?_;have c1:¬((n:Nat):Int)<1:=eY;have c2:¬((n:Nat):Int)>64:=eY;have c3:¬64<((n:Nat):Int):=eY
 repeat (first|(refine Rl (t:=151) (6,h) O O h8 ?_;intro g)|(refine Rl (t:=214) (7,h) O O h8 ?_;intro J)|(refine BC (4,h) (Oh h g J none 0 0) rfl rfl rfl rfl h8 (λH=>Wk.agg (.cons Wk.raw (.cons (Wk.data O) (.cons (Wk.data O) (.cons Wk.raw (.cons (Wk.data O) .nil)))))) ?_;intro b;refine l7 (lL.MR (5,h) 219 11 O kg) ?_;refine l7 (lL.MR (8,h) 268 3 O kg) ?_)|refine tT ?_)
 have D:oy h X (((((X.put (6,h) (.ob g (ua [] 0))).put (7,h) (.ob J (ua [] 0))).put (4,h) (.var b (Oh h g J none 0 0))).put (5,h) (.my 219 11 none 0 [])).put (8,h) (.my 268 3 none 0 [])):=(oy.M4 kh).trans ((oy.M4 kh).trans ((oy.M4 kh).trans ((oy.M4 kh).trans (oy.M4 kh))))
 refine kU (λj:Nat×(Option (Nat×Nat)×Nat)×kY=>⟨[(4,lQ (4,h) b),(15,kq (n:Nat)),(16,kq (j.1:Nat))],[(4999,.ext (Sg j.2.2))]⟩) (λj=>j.1<=n/\j.2.2 (4,h)=some (.var b (Oh h g J j.2.1.1 (List.replicate j.1 Fr.empty.av).length j.2.1.2))/\j.2.2 (5,h)=some (.my 219 11 j.2.1.1 j.2.1.2 (List.replicate j.1 Fr.empty.av))/\j.2.2 (6,h)=some (.ob g (ua [] 0))/\j.2.2 (7,h)=some (.ob J (ua [] 0))/\j.2.2 (8,h)=some (.my 268 3 none 0 [])/\j.2.2 (3,h)=none/\oy h X j.2.2) (λj=>n- j.1)
  (0,(none,0),(((((X.put (6,h) (.ob g (ua [] 0))).put (7,h) (.ob J (ua [] 0))).put (4,h) (.var b (Oh h g J none 0 0))).put (5,h) (.my 219 11 none 0 [])).put (8,h) (.my 268 3 none 0 [])))
  ⟨kO _,by simp[ky,kC],by simp[ky,kC],by simp[ky,kC],by simp[ky,kC],by simp[kC],by simp[ky,k],D⟩ ed (λj i=>?_)
 obtain⟨j,⟨A,cap⟩,Y⟩:=j;obtain⟨u,w,o,F,T,f,V,s⟩:=i;dsimp only at u w o F T f V s⊢;by_cases d:j<n
 .have r:((j:Nat):Int)<((n:Nat):Int):=by omega
  have U:(List.replicate j Fr.empty.av).length<=64:=fy
  repeat (first|(refine xr (M:=OZ _ _ _ _ _ _ _ _) O λZ y m=>?_;obtain⟨R,L,m⟩:=m)|refine tT ?_)
  rw[nQ,<-List.replicate_succ']at m;refine⟨(j+1,(R,L),Z),⟨d,?_,?_,?_,?_,?_,?_,?_⟩,by dsimp only;omega,ed⟩
  .dsimp only;rw[m,kC];simp only[Oh,pj];rfl
  .dsimp only;rw[m,ky _ _ ki,kC]
  .dsimp only;rw[m,ky _ _ ki,ky _ _ ki];exact F
  .dsimp only;rw[m,ky _ _ ki,ky _ _ ki];exact T
  .dsimp only;rw[m,ky _ _ ki,ky _ _ ki];exact f
  .dsimp only;rw[m,ky _ _ ki,ky _ _ ki];exact V
  .dsimp only;rw[m];exact s.trans ((oy.M4 kh).trans (oy.M4 kh))
 .have r:¬((j:Nat):Int)<((n:Nat):Int):=by omega
  have x:j=n:=eY;subst x;refine pB O o λz e b3=>?_
  obtain⟨⟨B,off⟩,rfl⟩:∃q,A=some q:=by
   cases A with
   |none=>
    have P:=py List.length (b3 O).1;rw[pj]at P;simp at P;omega
   |some q=>exact⟨q,rfl⟩
  have G:(kP.new j).fr.map Fr.av=List.replicate j Fr.empty.av:=xj;have I:om Y h ⟨b,B,off,cap,g,0,[],J,0,[],none,0⟩ (kP.new j):=⟨V,by rw[w];simp only[wW,Oh,G];rfl,by rw[o,G],F,T,f,Xx.nil,λ_=>rfl,Xx.nil,λ_=>rfl⟩;refine wV ?_;exact uq (v:=.pointer (some ⟨b,0,none⟩)) (.inr O) O ⟨s,_,rfl,I⟩ λ_=>⟨vl O,gx,trivial⟩
end
def ajC(X:kY)(h:Nat)(p:Ib)(s:sO)(i:Int)(o:zS X h p s):mZ prog 211 [lQ (13,h) p.b,kq i] X (kA (s.ok i)) (λC _=>C=X):=by
 obtain⟨a,b,k,A,D,R⟩:=o;unfold sO.ok;refine kz func211 O ntmps211 O ki [_] O λE S N j=>?_;by_cases e:0<=i
 .rw[kx e];obtain⟨n,rfl⟩:=AR e;by_cases k2:n<s.used.length
  .have k3:((n:Nat):Int)<(((s.used.map kA).length:Nat):Int):=by rw[kX];omega
   have l:n<(s.used.map kA).length:=ga;have hu:s.used[n]?=some s.used[n]:=kQ k2;have f:(s.used.map kA)[n]?=some (kA s.used[n]):=by rw[oI,hu];rfl
   have P:s.used.getD (n:Int).toNat false=s.used[n]:=by rw[pP,nI,hu];rfl
   rw[P];exact dJ
  .have k3:¬((n:Nat):Int)<(((s.used.map kA).length:Nat):Int):=by rw[kX];omega
   have P:s.used.getD (n:Int).toNat false=false:=by rw[pP,nI,pN kh];rfl
   rw[P];exact dJ
 .rw[ku e];exact dJ
section
attribute [local irreducible] lF kP.mm kP.waits kP.free BA Go.Proofs.YtfkhhohdgeckdaaGreat.Iq kP.Ha
def acW(H:MA)(X:kY)(h:Nat)(p:qq)(c:kP)(u:om X h p c)(w:c.Wf)(D:0<=c.hand/\c.hand<=1000):mZ prog 83 [lQ (4,h) p.b] X (.mz [kq (c.me.2.getD kP.ev0).1,(c.me.2.getD kP.ev0).2.1.av,kA (c.me.2.getD kP.ev0).2.2,kA c.me.2.isSome]) (λC _=>mV h p c.me.1 X C):=by
 have J:=u;obtain⟨r,e,i,o,A,F,aw,ag,V,K⟩:=u;have R:=w.len;have W:=H (c.fr.map Fr.can) (c.fr.map (·.ref)) c.hand jY jY kh kh;have sw:Go.Proofs.YtfkhhohdgeckdaaGreat.Iq (c.fr.map Fr.can) (c.fr.map (·.ref)) c.hand=c.Ha:=by unfold kP.Ha;rfl
 have sl:=ahy (c.fr.map Fr.can) (c.fr.map (·.ref)) c.hand;have st:=akG (c.fr.map Fr.can) (c.fr.map (·.ref)) c.hand;rw[sw,kX]at sl st;rw[sw]at W;unfold kP.me;generalize c.Ha=s at W sl st;obtain⟨at_,next,left⟩:=s;dsimp only at W sl st⊢;have B:=kD func137 (W);have G:=kD JS Mv jC jC;unfold Jc at B;unfold Fr.empty Fr.av at G;dsimp only at G;refine kz func83 O ntmps83 O ki [_,_,_,_] O λE S N v=>?_;refine wV ?_;refine lU (lL.token 6 6 0 4 O O) ?_;refine lU (lL.token 7 7 0 4 O O) ?_;refine kU (λj:Nat=>⟨[(0,lQ (4,h) p.b),(3,.ptr 3 0 []),(6,.sl (some 6) 1 (((c.fr.take j).map Fr.can).map kA)),(7,.sl (some 7) 1 (((c.fr.take j).map (·.ref)).map kA)),(18,.raw (5,h) [] (sv 11 (some (p.bf,p.off)) (c.fr.map Fr.av).length p.cf)),(19,kq (((c.fr.map Fr.av).length:Nat))),(20,kq (j:Nat))],[(4999,.ext (Sg X)),(3,.var (pb false mF mF mF mF)),(6,.tail 4 1 ((c.fr.take j).map Fr.can).length),(7,.tail 4 1 ((c.fr.take j).map (·.ref)).length)]⟩) (λj=>j<=c.fr.length) (λj=>c.fr.length- j) 0 (kO _) ed (λj m=>?_);have y:((c.fr.take j).map Fr.can).length<=64:=fy;have x:((c.fr.take j).map (·.ref)).length<=64:=fy;by_cases Z:j<c.fr.length
 .have I:j<(c.fr.map Fr.av).length:=by simpa using Z
  have z:c.fr[j]?=some c.fr[j]:=kQ Z;have M:(c.fr.take (j+1)).map Fr.can=(c.fr.take j).map Fr.can++[(c.fr[j]).can]:=gg;have t2:(c.fr.take (j+1)).map (·.ref)=(c.fr.take j).map (·.ref)++[(c.fr[j]).ref]:=gg;generalize c.fr[j]=f at z M t2;have L:=vZ z;by_cases P:f.st=2
  .by_cases q:f.pins=0
   .have ec:f.can=decide (f.pins=0):=by simp[Fr.can,P]
    exact aR
   .have ec:f.can=decide (f.pins=0):=by simp[Fr.can,P]
    exact aR
  .have ec:f.can=false:=by simp[Fr.can,P]
   rw[ec]at M
   repeat (first|refine Wb (xY (zs:= [false]) O O O O O (xT kA _ O) jY jY) hP ?_|refine tT ?_)
   refine⟨j+1,Z,by omega,?_⟩;rw[M,t2];exact ed
 have I:¬j<(c.fr.map Fr.av).length:=fS;rw[pO (show c.fr.length<=j by omega)];by_cases k:at_<0
 .rw[kx k];refine wV ?_;exact ns O (mV.refl J) λ_=>⟨gx,⟨3,_,rfl,rfl,kM.u5 O,.inl (E6 _)⟩,gx,gx,trivial⟩
 .rw[ku k];have sl:=sl kh;have st:=st kh;obtain⟨n,rfl⟩:∃n:Nat,at_=(n:Nat):=⟨at_.toNat,by omega⟩;have hn:n<c.fr.length:=eY;have z:c.fr[n]?=some c.fr[n]:=kQ hn;generalize c.fr[n]=f at z;have hnn:((n:Nat):Int).toNat=n:=pP n;simp only[hnn,z,Option.getD_some,Option.isSome_some];refine wV ?_;refine kU (λj:Nat=>⟨[(0,lQ (4,h) p.b),(3,.ptr 3 0 []),(10,kq (n:Nat)),(11,kq next),(12,.sl none 1 (left.map kA)),(59,kq (((c.fr.map Fr.av).length:Nat))),(60,kq (j:Nat))],[(4999,.ext (Sg (X.put (5,h) (.my 219 11 (some (p.bf,p.off)) p.cf ((PX c.fr left j).map Fr.av))))),(3,.var (pb false mF mF mF mF))]⟩) (λj=>j<=c.fr.length) (λj=>c.fr.length- j) 0 (kO _) (by rw[ant,akR i];(refine lL.sub ⟨?_,?_,?_⟩<;>repeat' (first|exact True.intro|rfl|apply And.intro))) (λj m=>?_);have h1':=(ky X (.my 219 11 (some (p.bf,p.off)) p.cf ((PX c.fr left j).map Fr.av)) (l:=(5,h)) (j:=(4,h)) ki).trans e;by_cases Z:j<c.fr.length
  .have I:j<(c.fr.map Fr.av).length:=by simpa using Z
   have t:c.fr[j]?=some c.fr[j]:=kQ Z;generalize c.fr[j]=g at t;have hgm:((PX c.fr left j).map Fr.av)[j]?=some (.agg 11 [kq g.st,kq g.oj,kq g.own,kq g.pins,kA g.ref,kA g.uO,g.nd.av]):=by rw[oI,alq t];rfl
   have U:j<left.length:=eY;have hbl:left[j]?=some left[j]:=kQ U;have hbd:left.getD j false=left[j]:=by rw[nI,hbl];rfl
   have hms:=ail (l:=left) t left[j] hbd;refine wV ?_;refine⟨j+1,Z,by omega,?_⟩;rw[w8];rw[<-hms];exact ed
  have I:¬j<(c.fr.map Fr.av).length:=fS;obtain rfl:j=c.fr.length:=eY;have T:(PX c.fr left c.fr.length)[n]?=some ({f with ref:=left.getD n false}:Fr):=by rw[YG,sn,z];rfl
  have hma:((PX c.fr left c.fr.length).map Fr.av)[n]?=some (.agg 11 [kq f.st,kq f.oj,kq f.own,kq f.pins,kA (left.getD n false),kA f.uO,f.nd.av]):=by rw[oI,T];rfl
  have Y:n<(c.fr.map Fr.av).length:=fz;have h3':=(ky X (.my 219 11 (some (p.bf,p.off)) p.cf ((PX c.fr left c.fr.length).map Fr.av)) (l:=(5,h)) (j:=(6,h)) ki).trans o;rw[<-YG];refine wV ?_;refine ns O ?_ λ_=>⟨gx,⟨3,_,rfl,rfl,kM.u5 O,.inl (Wk.data O)⟩,gx,gx,trivial⟩;exact om.me J ((PX c.fr left c.fr.length).set n Fr.empty) (by rw[q7,YF]) f.oj next iI (by rw[ky _ _ ki,ky _ _ ki,kC,uT];rfl) (kC _ _ _) (λj a b d=>by rw[ky _ _ d,ky _ _ a,ky _ _ b,ky _ _ b])
end
def amj(a n:Int)(i:0<n)(B:n<=100)(N: -1000000<=a/\a<=1000000):mG prog 205 [kq a,kq n] (kq ((a.tmod n+n).tmod n)):=by
 have b: -n<a.tmod n/\a.tmod n<n:=by
  refine⟨?_,AN a i⟩;have c:=AN (-a) i;rw[Int.neg_tmod]at c;omega
 refine kR func205 O ntmps205 O ki [_] O λE S=>?_;have d:n≠0:=eY
 repeat (first|refine Ip ?_|(apply Wv;(focus (first|exact t6 O O O kh O|exact uh O O O kh|exact oB O O));(focus exact ig)))
 exact⟨.inr O,gr,trivial⟩
def ai8(Z n:Int):mG prog 207 [kq Z,kq n] (.fn (.func 258) [] [.ref (kq n),.ref (kq Z)]):=by
 refine kR func207 O ntmps207 O ki [_] O λE S=>?_;exact a9
def RT(X:kY)(l:nz)(G:List Bool)(i:0<G.length)(g:G.length<=1000):mZ prog 206 [Jc G] X (.hv 4998) (λC v=>∃A cap,v=sv 1 (some A) G.length cap/\C=X.put l (.my 4 1 (some A) cap (G.map kA))):=by
 refine nW func206 O ntmps206 O ki [_] O λE S=>hTF λN j=>?_;refine wE ?_;refine Wv (HG O O O O i2) hP ?_;refine wE ?_;refine Wb (PU O O O) hP ?_;refine Wv (oB O O) hP ?_;refine Wb (PD (f:=kA) (zs:=G) O O O O O (uz kM O) kh kh) hP ?_;refine Wv (oB O O) hP ?_;refine Jg _ ?_;refine oz ?_;refine ZX l 2 5 [] S O O kg O ki trivial O λA cap=>?_;refine pB O (kC _ _ _) λz Z b3=>?_;cases A with
 |none=>
  have:=(b3 O).1;rw[List.map_eq_nil_iff]at this;rw[this]at i;cases i
 |some A=>
  refine wE ?_;exact BD (.inr O) O ⟨A,cap,by rw[kX],rfl⟩ ⟨vl O,trivial⟩
def acH(n f:Nat)(k:0<n)(B:n<=1000)(z:f<=1000)(l:Nat)(J:Nat->kY->Prop)(R:kY->Prop)(X:kY)(g:J 0 X)
 (F:∀j Y,j<2*n->J j Y->YX prog l [kq (((f+j)%n:Nat):Int)] Y true (J (j+1))∨YX prog l [kq (((f+j)%n:Nat):Int)] Y false R):
 mZ prog 258 [.fn (.yield l) [] [],.ref (kq (n:Nat)),.ref (kq (f:Nat))] X (.mz []) (λC _=>J (2*n) C∨R C):=by
 refine nW func258 O ntmps258 O ki [] O λE S=>hTF λN m=>?_;refine wE ?_;refine Wv (Cm O O O kh) hP ?_;refine wE ?_;refine lU (lL.as 6 (kq ((2*n:Nat):Int)) (by show some (AV.v (.int .i64 (2*(n:Int))))=_;rw[QO];rfl)) ?_;refine kU (λj:Nat×kY=>⟨[(0,.fn (.yield l) [] []),(1,.ref (kq (n:Nat))),(2,.ref (kq (f:Nat))),(6,kq ((2*n:Nat):Int)),(7,kq (j.1:Nat))],[(4999,.ext (Sg j.2))]⟩) (λj=>j.1<=2*n/\J j.1 j.2) (λj=>2*n- j.1) (0,X) ⟨kO _,g⟩ ed (λj i=>?_);obtain⟨j,Y⟩:=j;obtain⟨a,b⟩:=i;dsimp only at a b⊢;by_cases Z:j<2*n
 .have o:(j:Int)<((2*n:Nat):Int):=by omega
  repeat (first|(refine O0 (d:=16) [_,_,_,_,_,_] [_] O O O ?_)|refine Wv (Ck O O O kh) hP ?_|refine wEs ?_)
  rw[show((f:Int)+(j:Int))%(n:Int)=(((f+j)%n:Nat):Int) by push_cast;rfl];rcases F j Y Z b with h3|h3
  .refine⟨Y,l,[kq (((f+j)%n:Nat):Int)],[kq (((f+j)%n:Nat):Int)],true,J (j+1),rfl,rfl,rfl,rfl,λH=>by(repeat (first|exact xI|refine Io O ?_|refine MP ?_|refine MS ?_)),h3,λC p=>?_⟩;exact cz
  .refine⟨Y,l,[kq (((f+j)%n:Nat):Int)],[kq (((f+j)%n:Nat):Int)],false,R,rfl,rfl,rfl,rfl,λH=>by(repeat (first|exact xI|refine Io O ?_|refine MP ?_|refine MS ?_)),h3,λC p=>?_⟩;refine wE ?_;exact BD (v:=undef) (.inr O) O (.inr p) trivial
 .obtain rfl:j=2*n:=by omega
  have o:¬((2*n:Nat):Int)<((2*n:Nat):Int):=eY;refine wE ?_;exact BD (v:=undef) (.inl O) O (.inl b) trivial
structure Up(X:kY)(b3 b6 b7 b8 b9:Nat)(can left:List Bool)(n:Nat)(A:Nat×Nat)(cap:Nat)(pl nx:Int):Prop where
 c:X (30,0)=some (.var b3 (Jc can))
 p:X (31,0)=some (.var b6 (kq pl))
 q:X (32,0)=some (.var b7 (kq nx))
 l:X (33,0)=some (.var b8 (.raw (34,0) [] (sv 1 (some A) left.length cap)))
 n:X (35,0)=some (.var b9 (kq (n:Nat)))
 s:X (34,0)=some (.my 4 1 (some A) cap (left.map kA))
def acj:lB prog 190 (.v (.slice none 0 0)):=lR (v:=.slice none 0 0) (n:=1) j6 λU w=>(qV O).2 O
def Up.del{v:List Bool}{A:Nat×Nat}(h:Up X b3 b6 b7 b8 b9 v left n A cap pl nx):Up (X.del (28,0)) b3 b6 b7 b8 b9 v left n A cap pl nx:=
 ⟨(uP _ kg).trans h.c,(uP _ kg).trans h.p,(uP _ kg).trans h.q,(uP _ kg).trans h.l,(uP _ kg).trans h.n,(uP _ kg).trans h.s⟩
def Up.rcd{v:List Bool}{A:Nat×Nat}(h:Up X b3 b6 b7 b8 b9 v left n A cap pl nx)(xb:XB):Up (X.put (28,0) xb) b3 b6 b7 b8 b9 v left n A cap pl nx:=
 ⟨(ky _ _ kg).trans h.c,(ky _ _ kg).trans h.p,(ky _ _ kg).trans h.q,(ky _ _ kg).trans h.l,(ky _ _ kg).trans h.n,(ky _ _ kg).trans h.s⟩
abbrev R8(H W A v p:Nat):List (Nat×AV):= [(3,lQ (30,0) H),(6,lQ (31,0) W),(7,lQ (32,0) A),(8,lQ (33,0) v),(9,lQ (35,0) p)]
def aha(K ref:List Bool)(hand:Int)(u:K.length<=100)(I:ref.length<=100)(h0: -1000000<=hand)(b:hand<=1000000):mZ prog 137 [Jc K,Jc ref,kq hand] Nf (.mz [kq (Iq K ref hand).1,kq (Iq K ref hand).2.1,Jc (Iq K ref hand).2.2]) (λ_ _=>True):=by
 have hcl:(K.map kA).length=K.length:=kX _;have hrl:(ref.map kA).length=ref.length:=kX _;refine EV func137 O ntmps137 O ki [_,_,_] O O O λE hdf heb q U=>?_;have P:(!true)=false:=rfl;have t:(!false)=true:=rfl;refine xv ?_
 repeat (first|(refine BC (30,0) (Jc K) O O O O h8 (λH=>Wk.data O) ?_;intro b3)|(refine Bc (d:=6) (31,0) (kq 0) O xE O h8 (λH=>Wk.data O) ?_;intro b6)|(refine Bc (d:=7) (32,0) (kq 0) O xE O h8 (λH=>Wk.data O) ?_;intro b7)|(refine Bc (d:=8) (33,0) (.raw (34,0) [] (.slice none 0 0)) O acj O h8 (λH=>Wk.raw) ?_;intro b8)|refine tT ?_)
 refine xv ?_
 repeat (first|(refine Bc (d:=9) (35,0) (kq 0) O xE O h8 (λH=>Wk.data O) ?_;intro b9)|refine tT ?_)
 refine ajz (λY=>(Y (30,0)=some (.var b3 (Jc K))/\Y (31,0)=some (.var b6 (kq 0))/\Y (32,0)=some (.var b7 (kq 0)))/\Y (33,0)=some (.var b8 (.raw (34,0) [] (.slice none 0 0)))/\Y (35,0)=some (.var b9 (kq (K.length:Nat)))) O (by
  refine⟨⟨?_,?_,?_⟩,?_,?_⟩<;>simp[kY.put,hcl,kq]) λY J=>?_
 obtain⟨⟨y1,y2,y3⟩,y4,y5⟩:=J;refine xv ?_
 have fin0:Iq K ref hand=(-1,0,[])-> ∀(S:St) (C:kY) (a:Act) (w:World) (B:nE),kV 4999 S.H=some (.ext (Sg C))->S.t 6=some (lQ (31,0) b6)->S.t 7=some (lQ (32,0) b7)->S.t 8=some (lQ (33,0) b8)->C (31,0)=some (.var b6 (kq (-1)))->C (32,0)=some (.var b7 (kq 0))->C (33,0)=some (.var b8 (.v (.slice none 0 0)))->mg E 52 B S.t S.h a w->XA prog Tryz.f137 E (λ_=>True) [kq (Iq K ref hand).1,kq (Iq K ref hand).2.1,Jc (Iq K ref hand).2.2] .ret a w:=by
  intro s S C a w B g1 g2 g3 g4 g5 g6 g7 r;rw[s];exact afA O O hdf heb q r ⟨.inr O,C,[],g1,λp h=>kd,λj xb h=>kd,trivial,⟨_,_,_,g2,g5,kM.u5 O,.inl λH=>Wk.data O⟩,⟨_,_,_,g3,g6,kM.u5 O,.inl λH=>Wk.data O⟩,⟨_,_,_,g4,g7,kM.u5 O,.inl λH=>Wk.nil⟩,trivial⟩
 by_cases c1:K.length=0
 .have c1':(K.length:Int)=0:=by omega
  refine wV ?_;exact λB a w r=>fin0 (by unfold Iq;rw[kx (.inl c1)]) _ _ a w B O O O O jq jq (by simp[kY.put]) r
 .have c1':¬(K.length:Int)=0:=by omega
  by_cases c2:ref.length=K.length
  .have c2':¬((ref.map kA).length:Int)≠(K.length:Int):=by omega
   refine wV ?_;refine xv ?_;have W:=kD func205 (amj hand (K.length:Nat) kh kh ⟨h0,b⟩);have L:=kS func206 (RT Y (34,0) ref kh kh);refine wV ?_;rintro X1 v ⟨A,cap,rfl,rfl⟩;refine l7 (lL.Cs 25 (34,0) [] O) ?_;refine wV ?_;have d3:=kD func207 (ai8 ((hand.tmod (K.length:Nat)+(K.length:Nat)).tmod (K.length:Nat)) (K.length:Nat));refine UB ?_;refine wV ?_
   obtain⟨f,z⟩:∃f:Nat,(hand.tmod (K.length:Nat)+(K.length:Nat)).tmod (K.length:Nat)=(f:Int):=by have g:=AN (-hand) (show(0:Int)<(K.length:Nat) by omega);rw[Int.neg_tmod]at g;exact⟨_,(GF (Int.tmod_nonneg _ kh)).symm⟩
   have hfn:f<K.length:=by have:=AN (hand.tmod (K.length:Nat)+(K.length:Nat)) (show(0:Int)<(K.length:Nat) by omega);omega
   have hsw:Iq K ref hand=pG K K.length f (2*K.length) 0 ref:=by
    unfold Iq;rw[ku kh,z];rfl
   rw[z,hsw]
   refine O3 (X0:=Nf) (M:=λ_=>True) (rv:= [_,_,_]) (N:=λC=>∃left,left.length=K.length/\Up C b3 b6 b7 b8 b9 K left K.length A cap 0 0/\pG K K.length f (2*K.length) 0 ref=(-1,((f:Nat):Int),left)) (R:=λC=>∃left pl nx,left.length=K.length/\Up C b3 b6 b7 b8 b9 K left K.length A cap pl nx/\pG K K.length f (2*K.length) 0 ref=(pl,nx,left))
    (28,0) (29,0) (R8 b3 b6 b7 b8 b9) O O hdf heb q O kg O O func258 jC jC ?held ?hit ?hN ?hR
   case held=>
    intro p c;simp only[R8,mf,s6,tX]at c;rcases c with rfl|rfl|rfl|rfl|rfl<;>exact⟨O,rfl⟩
   case hit=>
    intro fnr l D tm htm hheld
    have key:∀rc:Loop,(∀j Z,j<2*K.length->(Z (29,0)=some (.ob D (.deferred (some [])))/\Z (28,0)=some (.ob l (.loop rc))/\ ∃left,left.length=K.length/\Up Z b3 b6 b7 b8 b9 K left K.length A cap 0 0/\pG K K.length f (2*K.length) 0 ref=pG K K.length f (2*K.length- j) j left)->
     YX prog l [kq (((f+j)%K.length:Nat):Int)] Z true (λZ=>Z (29,0)=some (.ob D (.deferred (some [])))/\Z (28,0)=some (.ob l (.loop rc))/\ ∃left,left.length=K.length/\Up Z b3 b6 b7 b8 b9 K left K.length A cap 0 0/\pG K K.length f (2*K.length) 0 ref=pG K K.length f (2*K.length-(j+1)) (j+1) left)∨
     YX prog l [kq (((f+j)%K.length:Nat):Int)] Z false (λZ=>Z (29,0)=some (.ob D (.deferred (some [])))/\Z (28,0)=some (.ob l (.loop {rc with state:=.done,pending:=some .ret}))/\ ∃left pl nx,left.length=K.length/\Up Z b3 b6 b7 b8 b9 K left K.length A cap pl nx/\pG K K.length f (2*K.length) 0 ref=(pl,nx,left)))->
     mZ prog 258 [.fn (.yield l) [] [],.ref (kq (K.length:Nat)),.ref (kq (f:Nat))] ((((Y.put (34,0) (XB.my 4 1 (some A) cap (List.map kA ref))).put (33,0) (XB.var b8 (AV.raw (34,0) [] (sv 1 (some A) ref.length cap)))).put (29,0) (XB.ob D (Obj.deferred (some [])))).put (28,0) (XB.ob l (Obj.loop rc))) (.mz [])
     (λC _=>C (29,0)=some (.ob D (.deferred (some [])))/\agx (28,0) l rc (λC=>∃left,left.length=K.length/\Up C b3 b6 b7 b8 b9 K left K.length A cap 0 0/\pG K K.length f (2*K.length) 0 ref=(-1,((f:Nat):Int),left)) (λC=>∃left pl nx,left.length=K.length/\Up C b3 b6 b7 b8 b9 K left K.length A cap pl nx/\pG K K.length f (2*K.length) 0 ref=(pl,nx,left)) C):=by
     intro rc hy;refine mZ.aam (acH K.length f kh kh kh l (λj Z=>Z (29,0)=some (.ob D (.deferred (some [])))/\Z (28,0)=some (.ob l (.loop rc))/\ ∃left,left.length=K.length/\Up Z b3 b6 b7 b8 b9 K left K.length A cap 0 0/\pG K K.length f (2*K.length) 0 ref=pG K K.length f (2*K.length- j) j left) _ _ ?h0 hy) ?hm
     case h0=>
      refine⟨(ky _ _ kg).trans (kC _ _ _),kC _ _ _,ref,c2,⟨?_,?_,?_,?_,?_,?_⟩,by rw[J3]⟩<;>simp[kY.put,y1,y2,y3,y5]
     case hm=>
      rintro C v (⟨g,k2,left,k3,G,k5⟩|⟨g,k2,left,pl,nx,k3,G,k5⟩)
      .exact⟨g,.inl ⟨k2,left,k3,G.del,by rw[k5,DG];rfl⟩⟩
      .exact⟨g,.inr ⟨k2,left,pl,nx,k3,G.del,k5⟩⟩
    refine key _ ?hy
    case hy=>
     rintro j Z o ⟨g,k2,left,k3,⟨z1,z2,z3,z4,z5,z6⟩,k5⟩;have hi:(f+j)%K.length<K.length:=AK _ kh;generalize hid:(f+j)%K.length=i at hi⊢;have hci:K[i]?=some K[i]:=kQ hi;have hli:(left.map kA)[i]?=some (kA left[i]):=by rw[oI,kQ kh];rfl
     have hgo:∀k,2*K.length- j=k+1->pG K K.length f (2*K.length- j) j left=if K.getD ((f+j)%K.length) false then
      (if left.getD ((f+j)%K.length) false then pG K K.length f k (j+1) (left.set ((f+j)%K.length) false)
       else(((f+j)%K.length:Nat),(((f+j)%K.length+1)%K.length:Nat),left))
      else pG K K.length f k (j+1) left:=λk x=>by rw[x];rfl
     have hgo:=hgo (2*K.length-(j+1)) kh;rw[hid]at hgo;have ev:K.getD i false=K[i]:=by rw[nI,hci];rfl
     have ev2:left.getD i false=left[i]:=gh;rw[ev,ev2]at hgo;have V:(left.map kA).length=left.length:=kX _;have hil:i<left.length:=eY;have hi3:(i:Int)<(K.map kA).length:=eY;cases hcv:K[i]
     .rw[hcv,ku ki]at hgo;refine .inl (DN (nt:=52) (Th:=R8 b3 b6 b7 b8 b9) (λX2=>∃ob,X2=Z.put (28,0) ob) k2 htm O kg kg hheld (by simp[R8]) (λX2 ⟨ob,e⟩=>?_) (λF n E ob hF hE'=>?_))
      .rw[e,w8];exact⟨(ky _ _ kg).trans g,kC _ _ _,left,k3,Up.rcd ⟨z1,z2,z3,z4,z5,z6⟩ _,k5.trans hgo⟩
      refine wAR ?_;refine wV ?_;refine⟨O,rfl,?_⟩;dsimp only[CE,List.cons_append,List.nil_append];refine wAR ?_;refine wV ?_;rw[hcv];refine wAR ?_;refine wV ?_;exact Jh.sg ⟨_,rfl,kC _ _ _,.inl ⟨O,rfl⟩,_,rfl⟩
     .rw[hcv,kx O]at hgo;cases hlv:left[i]
      .rw[hlv,ku ki]at hgo;rw[hlv]at hli;refine .inr (DN (nt:=52) (Th:=R8 b3 b6 b7 b8 b9) (λX2=>X2 (29,0)=some (.ob D (.deferred (some [])))/\Up X2 b3 b6 b7 b8 b9 K left K.length A cap (i:Nat) (((i+1)%K.length:Nat):Int)) k2 htm O kg kg hheld (by simp[R8]) (λX2 ⟨T,e2⟩=>?_) (λF n E ob hF hE'=>?_))
       .exact⟨(ky _ _ kg).trans T,kC _ _ _,left,_,_,k3,e2.rcd _,k5.trans hgo⟩
       refine wAR ?_;refine wV ?_;refine⟨O,rfl,?_⟩;dsimp only[CE,List.cons_append,List.nil_append];refine wAR ?_;refine wV ?_;rw[hcv];refine wAR ?_;refine wV ?_;refine G9 false O (λh=>by cases h) (λ_=>?_);refine ZZ ?_;refine agO (Kn2 (33,0) (.var b8 (.raw (34,0) [] (sv 1 (some A) left.length cap))) (35,0) (.var b9 (kq (K.length:Nat)))) (alA O ((ky _ _ kg).trans z4) ((ky _ _ kg).trans z5)) hF zD O gN ?_;have hrm:((i:Int)+1)%(K.length:Nat)=(((i+1)%K.length:Nat):Int):=by push_cast;rfl
       repeat (first|refine And.intro jC ?_|(apply Uv;(focus (first|exact yj.of (PL (lb:=(33,0)) O O O O O O) (λH h=>h.1)|exact yj.of (PL (lb:=(35,0)) O O O O O O) (λH h=>h.2)|exact kE.i (Ck O O O kh)|exact kE.i (rW O O O kh)|exact kE.i (oB O O)));(focus exact ig))|(apply Us;(focus (exact kE.i (ID O O O O O gF O O O O O O j7)));(focus exact ig);(focus (exact aoC λX y e=>by rw[show X=_ from e];simp[kY.put,z4,z5]))))
       refine wV ?_;refine wAR ?_;refine wV ?_;refine Jh.sg ⟨_,rfl,?_,.inr ⟨O,rfl⟩,?_,⟨?_,?_,?_,?_,?_,?_⟩⟩<;>simp[kY.put,g,z1,z2,z3,z4,z5,z6,kq]
      .rw[hlv,kx O]at hgo;rw[hlv]at hli;refine .inl (DN (nt:=52) (Th:=R8 b3 b6 b7 b8 b9) (λX2=>X2 (29,0)=some (.ob D (.deferred (some [])))/\Up X2 b3 b6 b7 b8 b9 K (left.set i false) K.length A cap 0 0) k2 htm O kg kg hheld (by simp[R8]) (λX2 ⟨T,e2⟩=>?_) (λF n E ob hF hE'=>?_))
       .exact⟨(ky _ _ kg).trans T,kC _ _ _,left.set i false,by rw[q7];exact k3,e2.rcd _,k5.trans hgo⟩
       refine wAR ?_;refine wV ?_;refine⟨O,rfl,?_⟩;dsimp only[CE,List.cons_append,List.nil_append];refine wAR ?_;refine wV ?_;rw[hcv];refine wAR ?_;refine wV ?_;refine G9 true O (λ_=>?_) (λh=>by cases h);refine wAR ?_;refine wV ?_;refine Jh.sg ⟨_,rfl,?_,.inl ⟨O,rfl⟩,?_,⟨?_,?_,?_,?_,?_,?_⟩⟩<;>simp[kY.put,g,z1,z2,z3,z4,z5,z6,uT,kA]
   case hN=>
    rintro D C hD ⟨left,m,⟨z1,z2,z3,z4,z5,z6⟩,hgo⟩;rw[hgo]
    repeat (first|(refine G8 (Kn (33,0) (.var b8 (.raw (34,0) [] (sv 1 (some A) left.length cap)))) ⟨_,rfl,λX y e=>by rw[show X=C from e];exact z4⟩ zD ?_)|(apply Us;(focus (exact kE.i (ID O O O O O gF O O O O O O j7)));(focus exact ig);(focus (exact aff λX y e=>by rw[show X=_ from e];simp[kY.put,z4])))|(first|refine And.intro jC ?_|(first|(apply Uv;(focus exact gI);(focus exact ig))|(apply Ub;(focus exact gU);(focus exact ig);(focus (exact afg kg)))))|refine tT ?_)
    exact⟨.inr O,_,[(29,0),(34,0)],rfl,λp h=>(by injection h with h;subst h;exact⟨by simp[kY.put,hD],by simp⟩),λj xb h=>kd,trivial,
     ⟨_,_,_,rfl,(ky _ _ kg).trans ((ky _ _ kg).trans (kC _ _ _)),kM.u5 O,.inl λH=>Wk.data O⟩,⟨_,_,_,rfl,(ky _ _ kg).trans (kC _ _ _),kM.u5 O,.inl λH=>Wk.data O⟩,
     ⟨_,_,_,rfl,kC _ _ _,kM.u5 O,.inr ⟨(34,0),[],_,_,_,_,_,by simp,by rw[kX],(ky _ _ kg).trans ((ky _ _ kg).trans ((ky _ _ kg).trans z6)),rfl⟩⟩,trivial⟩
   case hR=>
    rintro D C hD ⟨left,pl,nx,m,⟨z1,z2,z3,z4,z5,z6⟩,hgo⟩;rw[hgo];exact⟨.inr O,C,[(29,0),(34,0)],rfl,λp h=>ip,λj xb h=>kd,trivial,⟨_,_,_,rfl,z2,kM.u5 O,.inl λH=>Wk.data O⟩,⟨_,_,_,rfl,z3,kM.u5 O,.inl λH=>Wk.data O⟩,⟨_,_,_,rfl,z4,kM.u5 O,.inr ⟨(34,0),[],_,_,_,_,_,by simp,by rw[kX],z6,rfl⟩⟩,trivial⟩
  .have c2':((ref.map kA).length:Int)≠(K.length:Int):=by omega
   refine wV ?_;exact λB a w r=>fin0 (by unfold Iq;rw[kx (.inr c2)]) _ _ a w B O O O O jq jq (by simp[kY.put]) r
def adk:MA:=λv b n u H i a=>E0 O O (aha v b n u H i a)
end
