/- Part of the proof, without conditions. -/
import Derived.Test.YtfkhhohdgeckdaaGreatP40
import Derived.Test.YtfkhhohdgeckdaaGreatP30
import Derived.Test.YtfkhhohdgeckdaaGreatP37
import Derived.Test.YtfkhhohdgeckdaaGreatP36
namespace Go.Proofs.YtfkhhohdgeckdaaGreat
open Go RowKit Proofs.Tryz
set_option linter.all false
set_option maxRecDepth 100000
set_option maxHeartbeats 16000000
section
def ada:zg prog 103 true 0:=⟨_,underlying103,rfl,by kernel_rfl⟩
def adb:Xu prog 103 (.st 0 []):=am8 ada (F:=prog.fieldsOf 103) j6 (l:= []) j6 trivial
def aov:ZL prog:=⟨λt=>if t=103 then some (.st 0 [])else none,λt i h=>by
 split at h
 .rename_i e;subst e;injection h with h;subst h;exact adb
 .cases h⟩
structure wa.sd(N:Nat)(c:wa):Prop where
 nx:c.next<=c.ops.length
 n:c.next<=N
 rd:∀w,c.read=some w->w.Ok
 wr:∀w,c.write=some w->w.sd
 one:c.read=none∨c.write=none
 lt:c.read≠none∨c.write≠none->c.next<c.ops.length
noncomputable def lX.act(S:lX)(t:Nat):lX:=match S.cl[t]? with
 |some _=>S.client t
 |none=>match S.fl[t- S.cl.length]? with
  |some f=>{S with H:=(f.step S.H).2,fl:=S.fl.set (t- S.cl.length) (f.step S.H).1}
  |none=>{S with H:=S.H.me.1}
def SA{s:ox}{p:Int}{t:Nat}(h:s.pick p=some t):t∈s.run:=by
 unfold ox.pick at h;split at h
 .cases h
 .exact nF h
def Ym{s:ox}{p:Int}{t:Nat}(h:s.pick p=some t):t<s.n:=VF (SA h)
def lX.np(S:lX)(t:Nat):lX:={S with tb:=S.tb.rF t,mb:=S.mb+1}
noncomputable def lX.step(S:lX)(p:Int):lX×Nat×Bool:=
 if 20000<=S.mb then(S,0,false)
 else match S.tb.pick p with
  |none=>(S,0,false)
  |some t=>(((S.np t).act t).tell,t,true)
attribute [local irreducible] kE lM AW mU lL mG mC lj lT ly kN AS
attribute [local irreducible] lF kP.mm kP.waits kP.free BA kP.u9 mK mo kG.read lh kP.me kG.write kG.may pf kG.look kG.due yt qk zZ qP.step o9.step qf.step lX.answer lX.begin lX.tell
def RN(X:kY)(h N M:Nat)(p:va)(S:lX)(t cb:Nat)(c:wa)(m:oX X h p S)(u:S.cl[t]?=some c)(d:p.cb[t]?=some cb)(z:c.sd M)(P:M<=1000000)(L:S.ev.length<=900000)(x:S.H.Bd N)(i:N<=80000)(B:c.ended=false):mZ prog 37 [lQ (19,h) p.b,kq (t:Nat),lQ (23,8*h+t) cb] X (.mz []) (λC _=>yk h p.b (S.client t) X C):=by
 have T:=z.n;cases R:c.read with
 |some w=>exact Pc X h p S t cb c w m u d R kh L (x.ok kh) (z.rd w R)
 |none=>
  cases V:c.write with
  |some w=>
   have f:=z.wr w V
   exact Pb X h N p S t cb c w m u d R V kh L x i f.m f.p λe=>by
    obtain⟨r,H⟩:=f.r e;exact eW
  |none=>
   have Z:c.next<c.ops.length:=by
    have a:=z.nx
    have b:¬c.next=c.ops.length:=λe=>by
     unfold wa.ended wa.busy at B;rw[R,V,kW e]at B;cases B
    omega
   exact Pd X h p S t cb c _ m u d (kQ Z) R V kh L
attribute [local irreducible] lX.client ox.rF ox.pick
def aag(hW:MA)(X:kY)(h N M:Nat)(p:va)(S:lX)(pick:Int)(J:oX X h p S)(x:S.H.Bd N)(hN:N<=80000)(o:0<=S.mb)(w:S.tb.Wf)(tn:S.tb.n=S.n)(R:S.tb.Bd 1000000)(tw: -1000000<=S.tb.pW/\S.tb.pW<=1000000)(L:S.ev.length<=900000)(hM:M<=1000000)(hcl:∀c∈S.cl,c.sd M)(hfl:∀f∈S.fl,f.sd M)(hend:∀t c,S.tb.pick pick=some t->S.cl[t]?=some c->c.ended=false)(F:∀t,S.tb.pick pick=some t->((S.np t).act t).H.Ok/\((S.np t).act t).tb.Wf):mZ prog 11 [lQ (19,h) p.b,kq pick] X (.mz [kq ((S.step pick).2.1:Nat),kA (S.step pick).2.2]) (λC _=>yk h p.b (S.step pick).1 X C):=by
 have g:=J.o;have m:=J.t;have U:=Jn h p.cb p.fb;have lc:=J.lc;have lf:=J.lf;have n8:=J.n8;unfold lX.step;by_cases k:20000<=S.mb
 .rw[kx k];refine kz Dh O JE O ki [_,_] O λE T P s=>?_;refine wJ ?_;exact ns O (yk.refl J) λ_=>⟨gx,gx,trivial⟩
 .rw[ku k];have W:=kS func36 (ag9 X h p.tb S.tb pick J.tb w R ⟨by omega,by omega⟩);cases hpk:S.tb.pick pick with
  |none=>
   rw[hpk]at W;dsimp only[Option.getD_none,Option.isSome_none]at W⊢;refine kz Dh O JE O ki [_,_] O λE T P s=>?_;refine wJ ?_;intro Y v B;have I:=J.table B.1 B.2;have K:Y (19,h)=some (.var p.b (Ow h p S)):=I.o;have hYo:pw h X Y:=λl n=>B.1 l λe=>n (.inr (.inl jX));refine wJ ?_;exact ns O (⟨hYo,p,rfl,I⟩) λ_=>⟨gx,gx,trivial⟩
  |some t=>
   have hend':=hend t;obtain⟨ok1,ok2⟩:=F t hpk;rw[hpk]at W hend';dsimp only[Option.getD_some,Option.isSome_some]at W⊢
   have htn:t<S.n:=by
    have:=Ym hpk;rwa[tn]at this
   have hp1:S.mb+1<=9223372036854775807:=eY;have hp2: -9223372036854775808<=S.mb+1:=eY;unfold lX.n at htn;have hlt2:t<(yt h p.cb p.fb).length:=eY;refine kz Dh O JE O ki [_,_] O λE T P s=>?_;refine wJ ?_;intro Y v B;have I:=J.table B.1 B.2;have hYo:pw h X Y:=λl n=>B.1 l λe=>n (.inr (.inl jX));have K:Y (19,h)=some (.var p.b (Ow h p S)):=I.o
   repeat (first|(refine xu 7 (λZ=>oX Z h p (S.np t)/\pw h X Z) O ⟨oX.self p.Ae p.ce S.ev S.seq (S.mb+1) I (λl j1 j2=>by rw[ky _ _ j1]) jv (by rw[ky _ _ ki];exact I.e),hYo.trans (λl n=>ky _ _ λe=>n (.inr (.inl jX)))⟩ λZ G=>?_;obtain⟨z1,z2⟩:=G;have z3:=z1.o;have z4:=z1.t)|refine XR ?_)
   have hact:(S.np t).act t=(S.np t).act t:=rfl
   conv at hact=>rhs;unfold lX.act
   by_cases c1:t<S.cl.length
   .have u:S.cl[t]?=some S.cl[t]:=kQ c1;have hb:p.cb[t]?=some p.cb[t]:=kQ kh;have hfi:=hcl _ (ng c1);have he':=XY (h:=h) (fb:=p.fb) hb;unfold R4 at he';have hce:=hend' _ O u;have hc':(S.np t).cl[t]?=some S.cl[t]:=u;rw[hc']at hact;dsimp only at hact;generalize S.cl[t]=c at u hc' hfi hce hact;generalize p.cb[t]=cb at hb he';have da:=kS func37 (RN Z h N M p (S.np t) t cb c z1 hc' hb hfi hM L x hN hce);refine wJ ?_;intro W' v2 hW';rw[hact]at ok1 ok2⊢;exact bk
   .have hn1:(S.np t).cl[t]?=none:=pN (Nat.le_of_not_lt c1);rw[hn1]at hact;dsimp only at hact;by_cases c2:t- S.cl.length<S.fl.length
    .obtain⟨i,hi⟩:∃i,t=p.cb.length+i:=⟨t- p.cb.length,by omega⟩;have ei:t- S.cl.length=i:=eY;have il:i<S.fl.length:=eY;have z:(S.np t).fl[i]?=some S.fl[i]:=kQ il;have hfi:=hfl _ (ng il);have hb:p.fb[i]?=some p.fb[i]:=kQ kh;have he':=XW (h:=h) (cb:=p.cb) hb;have I:=z1.fl i _ _ z hb
     have e8:8*h+((S.np t).cl.length+i)=8*h+t:=by have:(S.np t).cl.length=p.cb.length:=lc.symm;omega
     rw[e8]at I;unfold R3 at he';rw[<-hi]at he';rw[show t-(S.np t).cl.length=i from ei,z]at hact;dsimp only at hact;generalize S.fl[i]=f at z hfi I hact;generalize p.fb[i]=fb at hb he' I
     have hsm:f.Sm:=by
      have:=hfi.n;have:=hfi.g;unfold qf.Sm;omega
     have D:f.pc=5-> ∃r,f.room=some r/\(r.step (S.np t).H).2.Bd (N+5):=λe=>by
      obtain⟨r,H⟩:=hfi.r e;exact eW
     have da:=kS func38 (aah Z h p.hb (8*h+t) fb (S.np t).H f z1.hl N x hN I hsm D);refine wJ ?_;intro W' v2 hW0
     have hW':yk h p.b ((S.np t).act t) Z W':=by
      refine⟨pR.hou hW0.1 λl n=>?_,p,rfl,?_⟩
      .simp only[mf,s6,tX]at n;rcases n with rfl|rfl<;>exact .inr (.inr jY)
      .rw[hact];rw[<-e8]at hW0;have:=z1.aiG (j:=i) (fb:=fb) hb (C:=W') (H':=(f.step (S.np t).H).2) (f':=(f.step (S.np t).H).1) (λl a b=>hW0.1 l (λe=>absurd (Az e) kh) (λe=>b (by simpa[or_comm]using e))) hW0.2.1 hW0.2.2;rw[show(S.np t).fl.set i=S.fl.set i from rfl]at this;exact this
     generalize hAct:(S.np t).act t=A at hW' ok1 ok2 hact⊢;exact bk
    .have hi:t=p.cb.length+p.fb.length:=by omega
     have he':=XX (h:=h) (cb:=p.cb) (fb:=p.fb);unfold tkE at he';rw[<-hi]at he';have hn2:(S.np t).fl[t-(S.np t).cl.length]?=none:=pN (Nat.le_of_not_lt c2);rw[hn2]at hact;dsimp only at hact;have F:(S.np t).H.Ok:=x.ok (show N<=90000 by omega);obtain⟨q0,e0,r0⟩:=z1.hl;have hhd:=F.hd;have da:=kS func39 (acM hW Z h q0 (S.np t).H r0 F.w kh);rw[e0]at da;refine tB ?_;apply Vs
     focus (exact nX aov (d:=none) O O O O O O O O O O)
     focus exact ig
     refine tB ?_;intro W' v2 hW0
     have hW':yk h p.b ((S.np t).act t) Z W':=by refine⟨λl n=>hW0.1 l λe=>n (.inl e),p,rfl,?_⟩;rw[hact];obtain⟨w1,y,w2,w3⟩:=hW0;exact z1.aoG (λl a=>w1 l λe=>absurd (Az e) kh) ⟨y,w2.trans e0,w3⟩
     generalize hAct:(S.np t).act t=A at hW' ok1 ok2 hact⊢;obtain⟨u1,q,eb,u2⟩:=hW';have dt:=kS func40 (Hh W' h q _ u2 ok1 ok2);rw[eb]at dt;refine tB ?_;intro V v3 hV;refine tB ?_;refine ns O ?_ λ_=>⟨gx,gx,trivial⟩;exact⟨(z2.trans u1).trans hV.1,hV.2⟩
end
