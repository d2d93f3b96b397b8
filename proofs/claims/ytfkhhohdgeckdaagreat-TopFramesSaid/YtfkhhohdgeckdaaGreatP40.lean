/- Part of the proof, without conditions. -/
import Derived.Test.YtfkhhohdgeckdaaGreatP29
import Derived.Test.YtfkhhohdgeckdaaGreatP39
import Derived.Test.YtfkhhohdgeckdaaGreatP31
namespace Go.Proofs.YtfkhhohdgeckdaaGreat
open Go RowKit Proofs.Tryz
set_option linter.all false
set_option maxRecDepth 100000
set_option maxHeartbeats 16000000
noncomputable def lX.client(S:lX)(t:Nat):lX:=match S.cl[t]? with
 |some c=>match c.read with
  |some w=>
   if(w.step S.H).1.pc=6 then({S with H:=(w.step S.H).2,cl:=S.cl.set t {c with read:=some (w.step S.H).1}}:lX).answer t ⟨0,(w.step S.H).1.found,(w.step S.H).1.value⟩
   else {S with H:=(w.step S.H).2,cl:=S.cl.set t {c with read:=some (w.step S.H).1}}
  |none=>match c.write with
   |some w=>
    if(w.step S.H S.seq).1.1.pc=5 then({S with H:=(w.step S.H S.seq).1.2,cl:=S.cl.set t {c with write:=some (w.step S.H S.seq).1.1},seq:=if(w.step S.H S.seq).2=true then S.seq+1#64 else S.seq}:lX).answer t ⟨(w.step S.H S.seq).1.1.e,false,Vl.zero⟩
    else {S with H:=(w.step S.H S.seq).1.2,cl:=S.cl.set t {c with write:=some (w.step S.H S.seq).1.1},seq:=if(w.step S.H S.seq).2=true then S.seq+1#64 else S.seq}
   |none=>S.begin t
 |none=>S
variable {E:su}{nt:Nat}{ops:Array Oper}{T:Nat->Option AV}{H:Hp}{d:Option Nat}{ty:TypeId}{pos:String}{af:Array Edge}{gd:Option (Nat×Bool)}
variable {x y:Operand}{t t':TypeId}
section
def aid{a:BitVec 64}(n:lK nt d=true)(j:kv T x=some (qU a))(F:kv T y=some (.v (.int .u64 1))):kE prog E nt ops ⟨d,.binOp .add t x y t',ty,pos,af,gd⟩ T H [] ⟨qU (a+1#64),[]⟩:=
 y7 n j (F.trans (by rw[show w5 1#64=1 from by rw[oJ];rfl]))
end
variable {h:Nat}{l:nz}
def Az(k:uZ h l):l.1<17:=by
 rcases k with⟨a,_⟩|k|⟨a,b,_⟩|⟨a,b,_⟩
 .omega
 .have:=x8 k;omega
 all_goals omega
variable {i:Nat}{L:List nz}{X Y:kY}
def pR.eq{a:Nat}(k:pR h L X Y)(N:17<=a)(hL:(a,i)∉L):Y (a,i)=X (a,i):=k _ (λe=>absurd (Az e) jw) hL
section
attribute [local irreducible] kE lM AW mU lL mG mC lj lT ly kN AS lF kP.mm kP.waits kP.free BA kP.u9 mK mo kG.read lh kP.me kG.write kG.may pf kG.look kG.due yt qk zZ qP.step o9.step lX.answer lX.begin
def Pc(X:kY)(h:Nat)(p:va)(S:lX)(t cb:Nat)(c:wa)(w:qP)(F:oX X h p S)(u:S.cl[t]?=some c)(f:p.cb[t]?=some cb)(P:c.read=some w)(B:c.next<=1000000)(L:S.ev.length<=900000)(x:S.H.Ok)(n:w.Ok):mZ prog 37 [lQ (19,h) p.b,kq (t:Nat),lQ (23,8*h+t) cb] X (.mz []) (λC _=>yk h p.b (S.client t) X C):=by
 have d:=F.o;have J:=F.n8;have W:=(mS.1 u).1;have t8:t<8:=eY;have I:=F.cl t _ _ u f;obtain⟨rb,K,m,A,D⟩:=I;rw[P]at A;obtain⟨rb,rfl,A⟩:=A;unfold wa.av tE at m;have i:S.ev.length<=1000000:=eY;have dw:=kS func71 (ag5 X h p.hb (8*h+t) rb S.H w F.hl x A n)
 have r:S.client t=if(w.step S.H).1.pc=6 then({S with H:=(w.step S.H).2,cl:=S.cl.set t {c with read:=some (w.step S.H).1}}:lX).answer t ⟨0,(w.step S.H).1.found,(w.step S.H).1.value⟩else {S with H:=(w.step S.H).2,cl:=S.cl.set t {c with read:=some (w.step S.H).1}}:=by
  unfold lX.client;rw[u];dsimp only;rw[P]
 rw[r];generalize w.step S.H=R at dw⊢
 have V:∀Y,uw h p.hb (24,8*h+t) rb X R.2 R.1.av Y->oX Y h p {S with H:=R.2,cl:=S.cl.set t {c with read:=some R.1}}/\pw h X Y/\Y (19,h)=X (19,h)/\Y (23,8*h+t)=X (23,8*h+t)/\Xt Y (8*h+t) rb R.1:=λY k=>by
  have e23:Y (23,8*h+t)=X (23,8*h+t):=k.1.eq kh ki;refine⟨F.client (j:=t) (cb:=cb) (H':=R.2) (c':={c with read:=some R.1}) f (λl a b=>k.1 l (λe=>absurd (Az e) kh) λe=>b (by rw[s7.1 e];simp[CLs])) k.2.1 ⟨some rb,K,?_,⟨rb,rfl,⟨k.2.2⟩⟩,?_⟩,k.1.hou λl e=>?_,k.1.eq kh ki,e23,⟨k.2.2⟩⟩
  .rw[e23,m];rfl
  .exact D.off (k.1.eq kh ki) (k.1.eq kh ki)
  .rw[s7.1 e];exact .inr (.inr jY)
 refine kz func37 O ntmps37 O ki [] O λE T N o=>?_;refine wJ ?_;intro Y y s;obtain⟨g,k2,k3,q,G⟩:=V Y s;have h1':=k3.trans d;have h3':=q.trans m;have U:(S.cl.set t {c with read:=some R.1})[t]?=some {c with read:=some R.1}:=by rw[vQ W]
 by_cases M:R.1.pc=6
 .rw[kx M];have da:=lH func72 (aad Y (8*h+t) rb R.1 G);have db:=kS yI (sy Y h p {S with H:=R.2,cl:=S.cl.set t {c with read:=some R.1}} t cb _ ⟨0,R.1.found,R.1.value⟩ g U f B i);refine tB ?_;intro Z v z;refine tB ?_;refine ns O ?_ λ_=>trivial;exact⟨k2.trans z.1,z.2⟩
 .rw[ku M];refine tB ?_;refine ns O ?_ λ_=>trivial;exact⟨k2,p,rfl,g⟩
def Pd(X:kY)(h:Nat)(p:va)(S:lX)(t cb:Nat)(c:wa)(o:qn)(m:oX X h p S)(u:S.cl[t]?=some c)(d:p.cb[t]?=some cb)(U:c.ops[c.next]?=some o)(P:c.read=none)(V:c.write=none)(B:c.next<=1000000)(L:S.ev.length<=900000):mZ prog 37 [lQ (19,h) p.b,kq (t:Nat),lQ (23,8*h+t) cb] X (.mz []) (λC _=>yk h p.b (S.client t) X C):=by
 have a:=m.o;have I:=m.cl t _ _ u d;obtain⟨rb,K,k,A,D⟩:=I;rw[P]at A;rw[V]at D;have A:rb=none:=A;have D:K=none:=D;subst A D;unfold wa.av tE at k;have l:=kS func75 (U9 X h p S t cb c o m u d U P V B L)
 have Y:S.client t=S.begin t:=by
  unfold lX.client;rw[u];dsimp only;rw[P];dsimp only;rw[V]
 rw[Y];refine kz func37 O ntmps37 O ki [] O λE T N i=>?_;refine wJ ?_;intro Z v j;refine wJ ?_;refine ns O ?_ λ_=>trivial;exact j
def Pb(X:kY)(h N:Nat)(p:va)(S:lX)(t cb:Nat)(c:wa)(w:o9)(J:oX X h p S)(u:S.cl[t]?=some c)(f:p.cb[t]?=some cb)(hrd:c.read=none)(hwr:c.write=some w)(B:c.next<=1000000)(L:S.ev.length<=900000)(x:S.H.Bd N)(K:N<=80000)(U:w.m.ok=true)(o:0<=w.pc/\w.pc<=5)(m:w.pc=4-> ∃r,w.room=some r/\(r.step S.H).2.Bd (N+5)):mZ prog 37 [lQ (19,h) p.b,kq (t:Nat),lQ (23,8*h+t) cb] X (.mz []) (λC _=>yk h p.b (S.client t) X C):=by
 have d:=J.o;have n8:=J.n8;have htl:=(mS.1 u).1;have t8:t<8:=eY;have I:=J.cl t _ _ u f;obtain⟨rb,wb,n,A,D⟩:=I;rw[hrd]at A;have A:rb=none:=A;subst A;rw[hwr]at D;obtain⟨wb,rfl,D⟩:=D;unfold wa.av tE at n;have i:S.ev.length<=1000000:=eY;have dw:=kS AL (acy X h p.hb (8*h+t) wb N S.H w S.seq J.hl x K U D o m)
 have F:S.client t=if(w.step S.H S.seq).1.1.pc=5 then({S with H:=(w.step S.H S.seq).1.2,cl:=S.cl.set t {c with write:=some (w.step S.H S.seq).1.1},seq:=if(w.step S.H S.seq).2=true then S.seq+1#64 else S.seq}:lX).answer t ⟨(w.step S.H S.seq).1.1.e,false,Vl.zero⟩else {S with H:=(w.step S.H S.seq).1.2,cl:=S.cl.set t {c with write:=some (w.step S.H S.seq).1.1},seq:=if(w.step S.H S.seq).2=true then S.seq+1#64 else S.seq}:=by
  unfold lX.client;rw[u];dsimp only;rw[hrd];dsimp only;rw[hwr]
 rw[F];generalize w.step S.H S.seq=R at dw⊢
 have key:∀Y,Rt h p.hb (8*h+t) wb X R.1.2 R.1.1 Y->oX Y h p {S with H:=R.1.2,cl:=S.cl.set t {c with write:=some R.1.1}}/\pw h X Y/\Y (19,h)=X (19,h)/\Y (23,8*h+t)=X (23,8*h+t):=λY k=>by
  have e23:Y (23,8*h+t)=X (23,8*h+t):=k.1.eq kh ki;refine⟨J.client (j:=t) (cb:=cb) (H':=R.1.2) (c':={c with write:=some R.1.1}) f (λl a b=>k.1 l (λe=>absurd (Az e) kh) λe=>b ?_) k.2.1 ⟨none,some wb,?_,?_,⟨wb,rfl,k.2.2⟩⟩,k.1.hou λl e=>?_,k.1.eq kh ki,e23⟩
  .simp only[mf,s6,tX]at e;rcases e with rfl|rfl<;>simp[CLs]
  .rw[e23,n];rfl
  .dsimp only;rw[hrd];exact O
  .simp only[mf,s6,tX]at e;rcases e with rfl|rfl<;>exact .inr (.inr jY)
 refine kz func37 O ntmps37 O ki [] O λE T P q=>?_;refine wJ ?_;intro Y y z;obtain⟨g,k2,k3,s⟩:=key Y z;have h1':=k3.trans d;have h3':=s.trans n;have hc1:(S.cl.set t {c with write:=some R.1.1})[t]?=some {c with write:=some R.1.1}:=by rw[vQ htl]
 cases hin:R.2
 .rw[ku (show¬(false=true) by simp)]
  repeat (first|(refine xu 9 (λZ=>oX Z h p {S with H:=R.1.2,cl:=S.cl.set t {c with write:=some R.1.1},seq:=S.seq}/\pw h X Z/\Z (23,8*h+t)=X (23,8*h+t)) O ⟨g,k2,s⟩ λZ G=>?_;obtain⟨z1,z2,M⟩:=G;have z4:=z1.o;have W:=M.trans n;(have db:=kS yI (sy Z h p {S with H:=R.1.2,cl:=S.cl.set t {c with write:=some R.1.1},seq:=S.seq} t cb _ ⟨R.1.1.e,false,Vl.zero⟩ z1 hc1 f B i)))|refine XR ?_)
  exact bp
 .rw[kx O]
  repeat (first|(refine xu 9 (λZ=>oX Z h p {S with H:=R.1.2,cl:=S.cl.set t {c with write:=some R.1.1},seq:=S.seq+1#64}/\pw h X Z/\Z (23,8*h+t)=X (23,8*h+t)) O ⟨oX.self p.Ae p.ce S.ev (S.seq+1#64) S.mb g (λl j1 V=>by rw[ky _ _ j1]) jv (by rw[ky _ _ ki];exact g.e),k2.trans (λl i=>ky _ _ λe=>i (.inr (.inl jX))),by rw[ky _ _ ki];exact s⟩ λZ G=>?_;obtain⟨z1,z2,M⟩:=G;have z4:=z1.o;have W:=M.trans n;(have db:=kS yI (sy Z h p {S with H:=R.1.2,cl:=S.cl.set t {c with write:=some R.1.1},seq:=S.seq+1#64} t cb _ ⟨R.1.1.e,false,Vl.zero⟩ z1 hc1 f B i)))|refine Vv (aid O O O) hP ?_|refine XR ?_)
  exact bp
end
