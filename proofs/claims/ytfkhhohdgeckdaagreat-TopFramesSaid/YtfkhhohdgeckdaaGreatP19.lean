/- Part of the proof, without conditions. -/
import Derived.Test.YtfkhhohdgeckdaaGreatP17
namespace Go.Proofs.YtfkhhohdgeckdaaGreat
open Go RowKit Proofs.Tryz
set_option linter.all false
set_option maxRecDepth 100000
set_option maxHeartbeats 16000000
def YE:Nd:=⟨true,[],[],[],[]⟩
noncomputable def kG.Jd(H:kG):kG×Int:=(({H with s:=match H.s.next with|some i=>H.s.alloc i|none=>H.s}:kG).write ((H.s.next.getD 0:Nat)) YE,((H.s.next.getD 0:Nat)))
noncomputable def kG.yo:Nat->kG->kG×List Int
 |0,H=>(H,[])
 |n+1,H=>((kG.yo n H).1.Jd.1,(kG.yo n H).2++[(kG.yo n H).1.Jd.2])
noncomputable def kG.alloc(H:kG)(t n:Int):kG×List Int×Bool:=
 if 0<=t/\t<8 then
  if n<1∨2<n∨((H.c.ma t).length:Int)<n∨(H.s.left:Int)<n then({H with c:=H.c.nS t},[],false)
  else((kG.yo n.toNat H).1,(kG.yo n.toNat H).2,true)
 else(H,[],false)
noncomputable def kG.me(H:kG):kG×Int×Bool:=match H.c.me.2 with
 |some (b,n,d)=>(if d=true then({H with c:=H.c.me.1}:kG).write b n else {H with c:=H.c.me.1},b,true)
 |none=>({H with c:=H.c.me.1},0,false)
theorem Ml(H:kG):∀n,(kG.yo n H).2.length=n
 |0=>rfl
 |n+1=>by show((kG.yo n H).2++[_]).length=_;rw[lA,Ml H n];rfl
def VC(l:List Nat)(f:Fr):∀c:kP,(c.tf l f).fr.length=c.fr.length:=by
 induction l with
 |nil=>intro c;rfl
 |cons i l y=>
  intro c
  show((c.mJ i λ_=>f).tf l f).fr.length=_
  rw[y];simp[kP.mJ]
def abC(c:kP):c.me.1.fr.length=c.fr.length:=by
 unfold kP.me;split
 .rfl
 .split
  .rfl
  .simp
variable {c:kP}
def WH{b:Int}{n:Nd}{d:Bool}(h:c.me.2=some (b,n,d)):∃f∈c.fr,f.nd=n:=by
 unfold kP.me at h;split at h
 .cases h
 .split at h
  .cases h
  .rename_i f z;injection h with h;injection h with _ h;injection h with h _;exact⟨f,nF z,h⟩
def ac0(H:Hp):Wk H (pb true mF mF mF mF) YE.av:=Wk.agg (.cons (Wk.data O) (.cons Wk.nil (.cons Wk.nil (.cons Wk.nil (.cons Wk.nil .nil)))))
section
attribute [local irreducible] kE lM AW mU lL mG mC lj lT ly kN AS lF kP.mm kP.waits kP.free BA kP.u9 mK mo kG.read lh kP.me kG.write
def acM(m:MA)(X:kY)(h:Nat)(p:rR)(H:kG)(D:qR X h p H)(w:H.Wf)(o:0<=H.c.hand/\H.c.hand<=1000):mZ prog 39 [lQ (1,h) p.b] X (.mz [kq H.me.2.1,kA H.me.2.2]) (λC _=>nw h p H.me.1 X C):=by
 have W:=kS func83 (acW m X h p.c H.c D.c w.c o);have a:=D.o;have F:=abC H.c;unfold kG.me;refine kz func39 O ntmps39 O ki [_,_] O λE S N i=>?_;cases e:H.c.me.2 with
 |none=>
  rw[e]at W;unfold kP.ev0 at W;dsimp only[Option.getD_none,Option.isSome_none]at W;exact c4
 |some r=>
  obtain⟨b,n,d⟩:=r;rw[e]at W;dsimp only[Option.getD_some,Option.isSome_some]at W;obtain⟨f,z,rfl⟩:=WH e;have hn:=Nd.NO (w.c.nd f z);cases d
  .dsimp only;rw[ku ki];exact c4
  .dsimp only;rw[kx O];refine wV ?_;intro Y v s;obtain⟨x,q,P,l⟩:=D.toC s F;have A:=kS func84 (KG Y h q _ b f.nd hn l);rw[P]at A;refine wV ?_;intro Z u j;refine wV ?_;exact ns O (nw.trans x P j) λ_=>⟨gx,gx,trivial⟩
def RO(X:kY)(h:Nat)(p:rR)(H:kG)(t n:Int)(D:qR X h p H)(w:H.Wf):mZ prog 200 [lQ (1,h) p.b,kq t,kq n] X (.mz [lJ (H.alloc t n).2.1,kA (H.alloc t n).2.2]) (λC _=>nw h p (H.alloc t n).1 X C):=by
 have K:=kD func187 (ZF t);have b:=lH func248 (aak X h p.c H.c t D.c w.c);have z:=lH func249 (ahc X h p.s H.s D.s);have g:=kS func250 (ahl X h p.c H.c t D.c w.c);have a:=D.o;unfold kG.alloc;refine kz func200 O ntmps200 O ki [_,_] O λE S N o=>?_;by_cases e:0<=t/\t<8
 .rw[kW e]at K;rw[kx e];have x:nw h p {H with c:=H.c.nS t} X=nw h p {H with c:=H.c.nS t} X:=rfl;by_cases k:n<1∨2<n∨((H.c.ma t).length:Int)<n∨(H.s.left:Int)<n
  .rw[kx k];by_cases k2:n<1
   .refine wV ?_;exact dj
   .by_cases k3:2<n
    .refine wV ?_;exact dj
    .by_cases s:((H.c.ma t).length:Int)<n
     .refine wV ?_;exact dj
     .have I:(H.s.left:Int)<n:=by omega
      refine wV ?_;exact dj
  .rw[ku k];have k2:¬n<1:=eY;have k3:¬2<n:=eY;have s:¬((H.c.ma t).length:Int)<n:=eY;have I:¬(H.s.left:Int)<n:=eY;obtain⟨m,rfl⟩:∃m:Nat,n=(m:Nat):=⟨n.toNat,by omega⟩;rw[pP];clear k;refine wV ?_;refine lU (lL.token 8 8 0 3 O O) ?_;refine kU (λj:Nat×kY×rR=>⟨[(0,lQ (1,h) p.b),(8,.sl (some 8) 1 ((kG.yo j.1 H).2.map kq)),(45,kq (m:Nat)),(46,kq (j.1:Nat))],[(4999,.ext (Sg j.2.1)),(8,.tail 3 1 (kG.yo j.1 H).2.length)]⟩) (λj=>j.1<=m/\rA h X j.2.1/\j.2.2.b=p.b/\qR j.2.1 h j.2.2 (kG.yo j.1 H).1) (λj=>m- j.1) (0,X,p) ⟨kO _,rA.refl h X,rfl,D⟩ ed (λj i=>?_);obtain⟨j,Y,q⟩:=j;dsimp only at i⊢;obtain⟨i,F,P,B⟩:=i;by_cases d:j<m
   .have hll:=Ml H j;have o1:=B.o;rw[P]at o1;have es:(kG.yo (j+1) H).2=(kG.yo j H).2++[(kG.yo j H).1.Jd.2]:=rfl;have eh:(kG.yo (j+1) H).1=(kG.yo j H).1.Jd.1:=rfl;generalize kG.yo j H=R at hll es eh B;obtain⟨G,l⟩:=R;dsimp only at hll es eh B⊢;unfold kG.Jd at es eh;dsimp only at es eh;have J:=kS func108 (RI Y h q.s G.s B.s);refine wV ?_;intro Z v A;obtain⟨L,q',f,M⟩:=B.toS A.1 A.2;have T:q'.b=p.b:=f.trans P;have V:=kS func84 (KG Z h q' _ ((G.s.next.getD 0:Nat)) YE (Nd.NO (by simp[YE])) M);rw[T]at V
    repeat (first|(refine l7 (lL.wk 58 YE.av O O O ac0) ?_)|refine tT ?_)
    intro W u hW;obtain⟨g5,r,U,g6⟩:=hW
    repeat (first|(refine l7 (lL.as 61 (kq ((G.s.next.getD 0:Nat))) O) ?_;refine tT ?_)|refine tT ?_)
    refine⟨(j+1,W,r),⟨d,(F.trans L).trans g5,U.trans T,?_⟩,by dsimp only;omega,?_⟩
    .rw[eh];exact g6
    .dsimp only;rw[es];exact ed
   .obtain rfl:j=m:=by omega
    refine wV ?_;exact ns O (nw.trans F P (nw.refl B)) λ_=>⟨gw,gx,trivial⟩
 .rw[la e]at K;rw[ku e];refine wV ?_;exact ns O (nw.refl D) λ_=>⟨aaM O,gx,trivial⟩
end
