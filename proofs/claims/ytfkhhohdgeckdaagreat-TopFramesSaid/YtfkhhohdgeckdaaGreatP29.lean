/- Part of the proof, without conditions. -/
import Derived.Test.YtfkhhohdgeckdaaGreatP28
namespace Go.Proofs.YtfkhhohdgeckdaaGreat
open Go RowKit Proofs.Tryz
set_option linter.all false
set_option maxRecDepth 100000
set_option maxHeartbeats 16000000
def lX.begin(S:lX)(t:Nat):lX:=match S.cl[t]? with
 |some c=>match c.ops[c.next]? with
  |some o=>
   if ae5 o=true then({S with ev:=S.ev++[⟨(t:Nat),(c.next:Nat),false,wG.zero⟩]}:lX).answer t ⟨2,false,Vl.zero⟩
   else if o.kind=4 then {S with ev:=S.ev++[⟨(t:Nat),(c.next:Nat),false,wG.zero⟩],cl:=S.cl.set t {c with read:=some (qP.new (t:Nat) (qk o.key).1)}}
   else {S with ev:=S.ev++[⟨(t:Nat),(c.next:Nat),false,wG.zero⟩],cl:=S.cl.set t {c with write:=some (o9.new (t:Nat) (zC o))}}
  |none=>S
 |none=>S
def alM(i:Nat)(t:Int)(k:kH):sR 120 [kq t,k.av] (24,i) (qP.new t k).av:=λY=>by have d:=kS func120 (akn Y i t k);exact d
def EI(i:Nat)(t:Int)(m:lq):sR 121 [kq t,m.av] (25,i) ((o9.new t m).av i none):=λY=>by have d:=kS func121 (U4 Y i t m);exact d
section
attribute [local irreducible] kE lM AW mU lL mG mC lj lT ly kN AS lF kP.mm kP.waits kP.free BA kP.u9 mK mo kG.read lh kP.me kG.write kG.may pf kG.look kG.due yt qk zZ
def U9(X:kY)(h:Nat)(p:va)(S:lX)(t cb:Nat)(c:wa)(o:qn)(y:oX X h p S)(u:S.cl[t]?=some c)(f:p.cb[t]?=some cb)(U:c.ops[c.next]?=some o)(hrd:c.read=none)(hwr:c.write=none)(B:c.next<=1000000)(L:S.ev.length<=900000):mZ prog 75 [lQ (19,h) p.b,kq (t:Nat),lQ (23,8*h+t) cb] X (.mz []) (λC _=>yk h p.b (S.begin t) X C):=by
 have b:=y.o;have d:=y.e;have I:=y.cl t _ _ u f;have n8:=y.n8;have htl:=(mS.1 u).1;obtain⟨rb,wb,m,A,D⟩:=I;rw[hrd]at A;rw[hwr]at D;have A:rb=none:=A;have D:wb=none:=D;subst A D;unfold wa.av tE at m;have hol:c.next<c.ops.length:=(mS.1 U).1;have hoa:(c.ops.map qn.av)[c.next]?=some (.agg 4 [kq o.kind,Ps o.key,Ps o.val,qU o.add]):=by rw[oI,U];rfl
 have hog:c.ops[c.next]=o:=by rw[kQ hol]at U;injection U
 have homl:c.next<(c.ops.map qn.av).length:=by rw[kX];exact hol
 subst hog;have i:(S.ev.map xD.av).length<=900000:=gp;have W:=kD func118 (agh c.ops[c.next].key);have z:=kD func119 (ai6 c.ops[c.next].val);obtain⟨x,k⟩:∃x:xD,x=⟨(t:Nat),(c.next:Nat),false,wG.zero⟩:=⟨_,rfl⟩
 have r:S.begin t=if ae5 c.ops[c.next]=true then({S with ev:=S.ev++[x]}:lX).answer t ⟨2,false,Vl.zero⟩
  else if c.ops[c.next].kind=4 then {S with ev:=S.ev++[x],cl:=S.cl.set t {c with read:=some (qP.new (t:Nat) (qk c.ops[c.next].key).1)}}
  else {S with ev:=S.ev++[x],cl:=S.cl.set t {c with write:=some (o9.new (t:Nat) (zC c.ops[c.next]))}}:=by
  unfold lX.begin;rw[u];dsimp only;rw[U,k]
 rw[r];refine kz func75 O ntmps75 O ki [] O λE T N n=>?_;refine tB ?_;intro R M;refine agL (λY=>oX Y h {p with Ae:=R,ce:=M} {S with ev:=S.ev++[x]}/\pw h X Y/\ ∀a,23<=a->Y (a,8*h+t)=X (a,8*h+t)) O ⟨oX.self R M (S.ev++[x]) S.seq S.mb y (λl g k2=>by rw[ky _ _ g,ky _ _ k2]) ?_ ?_,λl i=>?_,λa P=>?_⟩ λY s=>?_
 .rw[kC];simp only[Ow];rw[oq,lA];rfl
 .rw[ky _ _ ki,kC,nQ,oq,k];rfl
 .rw[ky _ _ λe=>i (.inr (.inl jX)),ky _ _ λe=>i (.inr (.inl jX))]
 .rw[ky _ _ jY,ky _ _ jY]
 obtain⟨hY1,hY2,hY3⟩:=s;have F:=(hY3 23 kh).trans m;refine tB ?_;have htl':t<8:=eY;have hrd':∀Z:kY,MF Z (8*h+t) none c.read:=λZ=>by rw[hrd];exact O
 have hwr':∀Z:kY,G0 Z (8*h+t) none c.write:=λZ=>by rw[hwr];exact O
 have H:(S.ev++[x]).length<=1000000:=fy;by_cases k8:c.ops[c.next].key.size<=8
 .have e8:(qk c.ops[c.next].key).2=0:=by unfold qk;rw[kx k8]
  by_cases g:c.ops[c.next].kind=1
  .have k3:¬c.ops[c.next].kind=3:=by omega
   have q:¬c.ops[c.next].kind=4:=eY;by_cases k16:c.ops[c.next].val.size<=16
   .have e16:(zZ c.ops[c.next].val).2=0:=by unfold zZ;rw[kx k16]
    have dw:=EI (8*h+t) (t:Nat) ⟨c.ops[c.next].kind,0#64,(qk c.ops[c.next].key).1,(zZ c.ops[c.next].val).1,0#64⟩;have V:zC c.ops[c.next]=⟨c.ops[c.next].kind,0#64,(qk c.ops[c.next].key).1,(zZ c.ops[c.next].val).1,0#64⟩:=by unfold zC;rw[kx g,ku k3]
    rw[ku jg,ku q,V];refine tB ?_;rintro Z v ⟨J,rfl,rfl⟩
    repeat (first|(refine l7 (lL.Cs 68 (25,8*h+t) [] O) ?_;refine vd ?_)|refine vd ?_)
    refine ns O ?_ λ_=>trivial;refine⟨hY2.trans λl i=>?_,{p with Ae:=R,ce:=M},rfl,hY1.client (j:=t) (cb:=cb) (H':=S.H) (c':={c with write:=some (o9.new (t:Nat) ⟨c.ops[c.next].kind,0#64,(qk c.ops[c.next].key).1,(zZ c.ops[c.next].val).1,0#64⟩)}) f (λl g k2=>?_) ?_ ?_⟩
    .have K:l≠(23,8*h+t):=λe=>i (.inr (.inr jr));exact di
    .have K:l≠(23,8*h+t):=λe=>k2 ju;exact dv
    .exact(hY1.hl.put ki).put ki
    .refine⟨none,some J,?_,hrd' _,J,rfl,none,?_,rfl⟩
     .rw[kC];rfl
     .rw[ky _ _ ki,kC]
   .have e16:(zZ c.ops[c.next].val).2=2:=by unfold zZ;rw[ku k16]
    have dw:=kS yI (sy Y h {p with Ae:=R,ce:=M} {S with ev:=S.ev++[x]} t cb c ⟨(zZ c.ops[c.next].val).2,false,Vl.zero⟩ hY1 u f B H);refine tB ?_;intro Z v w;refine tB ?_;refine ns O ?_ λ_=>trivial;rw[e16]at w;rw[kx jg];exact⟨hY2.trans w.1,w.2⟩
  .by_cases k3:c.ops[c.next].kind=3
   .have q:¬c.ops[c.next].kind=4:=by omega
    have dw:=EI (8*h+t) (t:Nat) ⟨c.ops[c.next].kind,0#64,(qk c.ops[c.next].key).1,Vl.zero,c.ops[c.next].add⟩;have V:zC c.ops[c.next]=⟨c.ops[c.next].kind,0#64,(qk c.ops[c.next].key).1,Vl.zero,c.ops[c.next].add⟩:=by unfold zC;rw[ku g,kx k3]
    rw[ku jg,ku q,V];refine tB ?_;rintro Z v ⟨J,rfl,rfl⟩
    repeat (first|(refine l7 (lL.Cs 68 (25,8*h+t) [] O) ?_;refine vd ?_)|refine vd ?_)
    refine ns O ?_ λ_=>trivial;refine⟨hY2.trans λl i=>?_,{p with Ae:=R,ce:=M},rfl,hY1.client (j:=t) (cb:=cb) (H':=S.H) (c':={c with write:=some (o9.new (t:Nat) ⟨c.ops[c.next].kind,0#64,(qk c.ops[c.next].key).1,Vl.zero,c.ops[c.next].add⟩)}) f (λl g k2=>?_) ?_ ?_⟩
    .have K:l≠(23,8*h+t):=λe=>i (.inr (.inr jr));exact di
    .have K:l≠(23,8*h+t):=λe=>k2 ju;exact dv
    .exact(hY1.hl.put ki).put ki
    .refine⟨none,some J,?_,hrd' _,J,rfl,none,?_,rfl⟩
     .rw[kC];rfl
     .rw[ky _ _ ki,kC]
   .by_cases q:c.ops[c.next].kind=4
    .have dw:=alM (8*h+t) (t:Nat) (qk c.ops[c.next].key).1;rw[ku jg,kx q];refine tB ?_;rintro Z v ⟨J,rfl,rfl⟩
     repeat (first|(refine l7 (lL.Cs 87 (24,8*h+t) [] O) ?_;refine vd ?_)|refine vd ?_)
     refine ns O ?_ λ_=>trivial;refine⟨hY2.trans λl i=>?_,{p with Ae:=R,ce:=M},rfl,hY1.client (j:=t) (cb:=cb) (H':=S.H) (c':={c with read:=some (qP.new (t:Nat) (qk c.ops[c.next].key).1)}) f (λl g k2=>?_) ?_ ?_⟩
     .have K:l≠(23,8*h+t):=λe=>i (.inr (.inr jr));have G:l≠(24,8*h+t):=λe=>i (.inr (.inr jr));simp only[ky _ _ K,ky _ _ G]
     .have K:l≠(23,8*h+t):=λe=>k2 ju;have G:l≠(24,8*h+t):=λe=>k2 ju;simp only[ky _ _ K,ky _ _ G]
     .exact(hY1.hl.put ki).put ki
     .refine⟨some J,none,?_,⟨J,rfl,⟨?_⟩⟩,hwr' _⟩
      .rw[kC];rfl
      .rw[ky _ _ ki,kC]
    .have dw:=EI (8*h+t) (t:Nat) ⟨c.ops[c.next].kind,0#64,(qk c.ops[c.next].key).1,Vl.zero,0#64⟩;have V:zC c.ops[c.next]=⟨c.ops[c.next].kind,0#64,(qk c.ops[c.next].key).1,Vl.zero,0#64⟩:=by unfold zC;rw[ku g,ku k3]
     rw[ku jg,ku q,V];refine tB ?_;rintro Z v ⟨J,rfl,rfl⟩
     repeat (first|(refine l7 (lL.Cs 68 (25,8*h+t) [] O) ?_;refine vd ?_)|refine vd ?_)
     refine ns O ?_ λ_=>trivial;refine⟨hY2.trans λl i=>?_,{p with Ae:=R,ce:=M},rfl,hY1.client (j:=t) (cb:=cb) (H':=S.H) (c':={c with write:=some (o9.new (t:Nat) ⟨c.ops[c.next].kind,0#64,(qk c.ops[c.next].key).1,Vl.zero,0#64⟩)}) f (λl g k2=>?_) ?_ ?_⟩
     .have K:l≠(23,8*h+t):=λe=>i (.inr (.inr jr));exact di
     .have K:l≠(23,8*h+t):=λe=>k2 ju;exact dv
     .exact(hY1.hl.put ki).put ki
     .refine⟨none,some J,?_,hrd' _,J,rfl,none,?_,rfl⟩
      .rw[kC];rfl
      .rw[ky _ _ ki,kC]
 .have e8:(qk c.ops[c.next].key).2=2:=by unfold qk;rw[ku k8]
  by_cases g:c.ops[c.next].kind=1
  .have k3:¬c.ops[c.next].kind=3:=by omega
   have dw:=kS yI (sy Y h {p with Ae:=R,ce:=M} {S with ev:=S.ev++[x]} t cb c ⟨(qk c.ops[c.next].key).2,false,Vl.zero⟩ hY1 u f B H);exact cA
  .by_cases k3:c.ops[c.next].kind=3
   .have dw:=kS yI (sy Y h {p with Ae:=R,ce:=M} {S with ev:=S.ev++[x]} t cb c ⟨(qk c.ops[c.next].key).2,false,Vl.zero⟩ hY1 u f B H);exact cA
   .have dw:=kS yI (sy Y h {p with Ae:=R,ce:=M} {S with ev:=S.ev++[x]} t cb c ⟨(qk c.ops[c.next].key).2,false,Vl.zero⟩ hY1 u f B H);exact cA
end
