/- Part of the proof, without conditions. -/
import Derived.Test.YtfkhhohdgeckdaaGreatP24
namespace Go.Proofs.YtfkhhohdgeckdaaGreat
open Go RowKit Proofs.Tryz
set_option linter.all false
set_option maxRecDepth 100000
set_option maxHeartbeats 16000000
variable {R:Prop}
def vd{Q:Prop}(k:R)(h:zT R->Q:=by intro kHid;(first|with_reducible refine Rr ?_|(first|(first|with_reducible refine MK ?_|with_reducible refine G5 ?_|refine zU (l:=0) O ?_|refine G6 ?_|refine CP ?_|refine zq ?_|refine Fe ?_|refine CB ?_|(apply Wc;(focus (exact pt O O O O O (CO.out iv hc) j7 O));(focus exact ig))|(refine vD O O O O O (CO.out iv hc) j7 O h8 ?_)|refine tT ?_)|((first|apply Vv|apply Wv);(focus exact gJ);(focus exact ig))|(refine vD O O O O O (sR.out iv) j7 O h8 ?_)|(apply Wc;(focus (exact pt O O O O O (sR.out iv) j7 O));(focus exact ig))|(refine DO O O O O O O iv j7 O h8 ?_)|(apply Wc;(focus (exact xS O O O O O O iv j7 O));(focus exact ig)))|((first|apply Vv|apply Wv);(focus exact gZ);(focus exact ig))|((first|apply Vb|apply Wb);(focus exact gT);(focus exact ig)));exact kHid.out):Q:=h ⟨k⟩
def tB{Q:Prop}(k:R)(h:zT R->Q:=by intro kHid;(repeat (first|refine wU1 ?_|((first|apply Vv|apply Wv);(focus exact gJ);(focus exact ig))|(refine vD O O O O O (sR.out iv) j7 O h8 ?_)|(apply Wc;(focus (exact pt O O O O O (sR.out iv) j7 O));(focus exact ig))|(refine DO O O O O O O iv j7 O h8 ?_)|(apply Wc;(focus (exact xS O O O O O O iv j7 O));(focus exact ig))|((first|apply Vv|apply Wv);(focus exact gZ);(focus exact ig))|((first|apply Vb|apply Wb);(focus exact gT);(focus exact ig))));exact kHid.out):Q:=h ⟨k⟩
def CLs(i:Nat):List nz:= [(23,i),(24,i),(25,i),(26,i)]
variable {i:Nat}{l:nz}
def ain:l∈CLs i↔23<=l.1/\l.1<=26/\l.2=i:=by
 obtain⟨a,b⟩:=l;simp only[CLs,mf,s6,tX,pq];omega
variable {X C:kY}{h j:Nat}{H':kG}
def oX.client{cb:Nat}{p:va}{S:lX}{c':wa}(k:oX X h p S)(n:p.cb[j]?=some cb)(U:∀l:nz,17<=l.1->l∉CLs (8*h+j)->C l=X l)(G:mY C h p.hb H')(u:Ux C (8*h+j) cb c'):oX C h p {S with H:=H',cl:=S.cl.set j c'}:=by
 have o:∀a b:Nat,17<=a-> ¬(23<=a/\a<=26/\b=8*h+j)->C (a,b)=X (a,b):=λa b N hb=>U (a,b) N λe=>hb (ain.1 e);have y:=k.n8;refine⟨(o _ _ kh kh).trans k.o,(o _ _ kh kh).trans k.t,(o _ _ kh kh).trans k.e,G,⟨(o _ _ kh kh).trans k.tb.o⟩,by simpa using k.lc,k.lf,λi c b d g=>?_,λi f b d g=>?_,by simpa using y⟩
 .dsimp only at d;rw[AO]at d;by_cases e:j=i
  .subst e;rw[n]at g;injection g with g;subst g;rw[kx O]at d;split at d
   .injection d with d;subst d;exact u
   .cases d
  .rw[ku e]at d;exact eP
 .dsimp only;rw[q7];have m:=(mS.1 n).1;have r:=k.lc;exact(k.fl i f b d g).off λa q A=>o a _ kh kh
variable {f':qf}
def oX.aiG{fb:Nat}{p:va}{S:lX}(k:oX X h p S)(n:p.fb[j]?=some fb)(U:∀l:nz,17<=l.1->l∉[(27,8*h+(S.cl.length+j)),(26,8*h+(S.cl.length+j))]->C l=X l)(G:mY C h p.hb H')(u:Jk C (8*h+(S.cl.length+j)) fb f'):oX C h p {S with H:=H',fl:=S.fl.set j f'}:=by
 have o:∀a b:Nat,17<=a-> ¬(26<=a/\a<=27/\b=8*h+(S.cl.length+j))->C (a,b)=X (a,b):=λa b N hb=>U (a,b) N λe=>hb (by simp only[mf,s6,tX,pq]at e;omega);have y:=k.n8;refine⟨(o _ _ kh kh).trans k.o,(o _ _ kh kh).trans k.t,(o _ _ kh kh).trans k.e,G,⟨(o _ _ kh kh).trans k.tb.o⟩,k.lc,by simpa using k.lf,λi c b d g=>?_,λi f b d g=>?_,by simpa using y⟩
 .have m:i<S.cl.length:=(mS.1 d).1;exact eP
 .dsimp only at d⊢;rw[AO]at d;by_cases e:j=i
  .subst e;rw[n]at g;injection g with g;subst g;rw[kx O]at d;split at d
   .injection d with d;subst d;exact u
   .cases d
  .rw[ku e]at d;exact(k.fl i f b d g).off λa q A=>o a _ kh kh
def oX.aoG{p:va}{S:lX}(k:oX X h p S)(U:∀l:nz,17<=l.1->C l=X l)(G:mY C h p.hb H'):oX C h p {S with H:=H'}:=
 ⟨(U _ ki).trans k.o,(U _ ki).trans k.t,(U _ ki).trans k.e,G,⟨(U _ ki).trans k.tb.o⟩,k.lc,k.lf,λi c b d e=>(k.cl i c b d e).off λa m A=>U _ jY,λi f b d e=>(k.fl i f b d e).off λa m A=>U _ jY,k.n8⟩
def oX.table{p:va}{S:lX}{r:ox}(k:oX X h p S)(U:sQ h X C)(s:CM C h p.tb r):oX C h p {S with tb:=r}:=by
 have o:∀l:nz,l.1≠18->C l=X l:=λl j=>U l λe=>j ke;obtain⟨q,P,n⟩:=k.hl;refine⟨(o _ ki).trans k.o,(o _ ki).trans k.t,(o _ ki).trans k.e,⟨q,P,?_⟩,s,k.lc,k.lf,λi c b d g=>(k.cl i c b d g).off λa m A=>o _ jY,λi f b d g=>(k.fl i f b d g).off λa m A=>o _ jY,k.n8⟩;have o2:∀l:nz,l.1<17->C l=X l:=λl j=>o l kh;exact aW
def oX.self{p:va}{S:lX}(Ae:Option (Nat×Nat))(ce:Nat)(ev:List xD)(J:BitVec 64)(T:Int)(k:oX X h p S)(U:∀l:nz,l≠(19,h)->l≠(22,h)->C l=X l)(V:C (19,h)=some (.var p.b (Ow h {p with Ae:=Ae,ce:=ce} {S with ev:=ev,seq:=J,mb:=T})))(Y:C (22,h)=some (.my 51 22 Ae ce (ev.map xD.av))):oX C h {p with Ae:=Ae,ce:=ce} {S with ev:=ev,seq:=J,mb:=T}:=by have o:∀l:nz,l.1≠19->l.1≠22->C l=X l:=λl d g=>U l (λe=>d ke) λe=>g ke;obtain⟨q,P,n⟩:=k.hl;refine⟨V,(o _ ki ki).trans k.t,Y,⟨q,P,?_⟩,⟨(o _ ki ki).trans k.tb.o⟩,k.lc,k.lf,λi c b d g=>(k.cl i c b d g).off λa m A=>o _ jY jY,λi f b d g=>(k.fl i f b d g).off λa m A=>o _ jY jY,k.n8⟩;have o2:∀l:nz,l.1<17->C l=X l:=λl j=>o l kh kh;exact aW
def lX.answer(S:lX)(t:Nat)(a:wG):lX:=match S.cl[t]? with
 |some c=>{S with ev:=S.ev++[⟨(t:Nat),(c.next:Nat),true,a⟩],cl:=S.cl.set t {c with read:=none,write:=none,next:=c.next+1}}
 |none=>S
section
attribute [local irreducible] kE lM AW mU lL mG mC lj lT ly kN AS lF kP.mm kP.waits kP.free BA kP.u9 mK mo kG.read lh kP.me kG.write kG.may pf kG.look kG.due yt
def sy(X:kY)(h:Nat)(p:va)(S:lX)(t cb:Nat)(c:wa)(a:wG)(o:oX X h p S)(u:S.cl[t]?=some c)(f:p.cb[t]?=some cb)(B:c.next<=1000000)(L:S.ev.length<=1000000):mZ prog 73 [lQ (19,h) p.b,kq (t:Nat),lQ (23,8*h+t) cb,a.av] X (.mz []) (λC _=>yk h p.b (S.answer t a) X C):=by
 have b:=o.o;have d:=o.e;have I:=o.cl t _ _ u f;obtain⟨rb,K,m,A,D⟩:=I;unfold wa.av at m;have i:(S.ev.map xD.av).length<=1000000:=gp;have Z:S.answer t a={S with ev:=S.ev++[⟨(t:Nat),(c.next:Nat),true,a⟩],cl:=S.cl.set t {c with read:=none,write:=none,next:=c.next+1}}:=by unfold lX.answer;rw[u]
 rw[Z];obtain⟨x,k⟩:∃x:xD,x=⟨(t:Nat),(c.next:Nat),true,a⟩:=⟨_,rfl⟩;rw[<-k];refine kz yI O ntmps73 O ki [] O λE T N n=>?_;cases rb
 all_goals
  cases K
  all_goals
   unfold tE at m;refine tB ?_;intro R M;refine agL (λY=>oX Y h {p with Ae:=R,ce:=M} {S with ev:=S.ev++[x]}/\pw h X Y/\ ∀a,23<=a->Y (a,8*h+t)=X (a,8*h+t)) O ⟨oX.self R M (S.ev++[x]) S.seq S.mb o (λl g k2=>by rw[ky _ _ g,ky _ _ k2]) ?_ ?_,λl i=>?_,λa P=>?_⟩ λY s=>?_
   .rw[kC];simp only[Ow];rw[oq,lA];rfl
   .rw[ky _ _ ki,kC,nQ,oq,k];rfl
   .rw[ky _ _ λe=>i (.inr (.inl jX)),ky _ _ λe=>i (.inr (.inl jX))]
   .rw[ky _ _ jY,ky _ _ jY]
   obtain⟨r,v,V⟩:=s;have U:=(V 23 kh).trans m;refine tB ?_;refine ns O ?_ λ_=>trivial;refine⟨v.trans λl i=>?_,{p with Ae:=R,ce:=M},rfl,r.client (j:=t) (cb:=cb) (H':=S.H) (c':={c with read:=none,write:=none,next:=c.next+1}) f (λl g k2=>?_) ?_ ?_⟩
   .have:l≠(23,8*h+t):=λe=>i (.inr (.inr (by rw[e];simp;have:=o.n8;have:=(mS.1 u).1;omega)));simp only[ky _ _ this]
   .have:l≠(23,8*h+t):=λe=>k2 ju;simp only[ky _ _ this]
   .exact((r.hl.put ki).put ki).put ki
   .refine⟨none,none,?_,rfl,rfl⟩;rw[kC];rfl
end
