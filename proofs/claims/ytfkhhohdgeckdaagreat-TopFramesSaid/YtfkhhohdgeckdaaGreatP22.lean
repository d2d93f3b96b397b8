/- Part of the proof, without conditions. -/
import Derived.Test.YtfkhhohdgeckdaaGreatP20
import Derived.Test.YtfkhhohdgeckdaaGreatP21
namespace Go.Proofs.YtfkhhohdgeckdaaGreat
open Go RowKit Proofs.Tryz
set_option linter.all false
set_option maxRecDepth 100000
set_option maxHeartbeats 16000000
def mY(X:kY)(h b:Nat)(H:kG):Prop:=∃p:rR,p.b=b/\qR X h p H
def pR(h:Nat)(L:List nz)(X C:kY):Prop:=∀l,¬uZ h l->l∉L->C l=X l
def pR.refl(h:Nat)(L:List nz)(X:kY):pR h L X X:=λ_ _ _=>rfl
variable {h:Nat}{L:List nz}{X Y Z:kY}
def pR.trans(k:pR h L X Y)(k':pR h L Y Z):pR h L X Z:=λl a b=>(k' l a b).trans (k l a b)
def pR.mono{q:List nz}(k:pR h L X Y)(s:∀l∈L,l∈q):pR h q X Y:=λl a b=>k l a λe=>b (s l e)
def rA.ael(k:rA h X Y)(L:List nz):pR h L X Y:=λl a _=>k l a
variable {l:nz}{xb:XB}
def pR.put(g:l∈L):pR h L X (X.put l xb):=λj _ b=>ky _ _ λe=>b (e▸g)
variable {lb:nz}
def qR.aoB{p:rR}{H:kG}(k:qR X h p H)(f:17<=lb.1):qR (X.put lb xb) h p H:=by
 have y:∀l:nz,l.1<17->(X.put lb xb) l=X l:=λl g=>ky _ _ λe=>by subst e;omega
 refine⟨(y _ ki).trans k.o,(y _ ki).trans k.l,(y _ ki).trans k.r,k.rw,k.rg,k.c.off λl g=>y _ jj,k.s.off λl g=>y _ (by obtain⟨a,b,_⟩:=g;omega),k.ln,k.lp,λi L b c d=>?_⟩;exact(k.lt i L b c d).off (y _ ki) (y _ ki) (y _ ki)
variable {b:Nat}
def mY.put{H:kG}(k:mY X h b H)(c:17<=lb.1):mY (X.put lb xb) h b H:=by
 obtain⟨p,e,r⟩:=k;exact⟨p,e,r.aoB c⟩
variable {H':kG}{C:kY}
def nw.is{p:rR}(k:nw h p H' X C):mY C h p.b H':=k.2
def HT(g:17<=l.1):¬uZ h l:=by
 rintro(⟨a,_⟩|a|⟨a,b,_⟩|⟨a,b,_⟩)
 .omega
 .have:=x8 a;omega
 .omega
 .omega
def nw.at_{p:rR}(k:nw h p H' X C){l:nz}(g:17<=l.1):C l=X l:=k.1 l (HT g)
structure kG.Ok(H:kG):Prop where
 w:H.Wf
 sm:∀L∈H.sX,L.Sm
 pn:∀f∈H.c.fr,-1000000000<=f.pins/\f.pins<=1000000000
 gd:∀f∈H.c.fr,f.nd.In
 hd:0<=H.c.hand/\H.c.hand<=1000
def kG.nd(H:kG)(k:Int):Nd:=(H.c.node k).getD vq
def kG.Ok.nd{H:kG}(o:H.Ok)(k:Int):(H.nd k).In:=by
 unfold kG.nd kP.node;split
 .rename_i i _;cases z:H.c.fr[i]? with
  |none=>exact pD
  |some f=>exact o.gd f (nF z)
 .exact pD
structure qP where
 t:Int
 k:kH
 pc:Int
 block:Int
 parent:Int
 pinned:Bool
 above:Bool
 m:lq
 any:Bool
 value:Vl
 found:Bool
def qP.av(w:qP):AV:=.agg 63 [kq w.t,w.k.av,kq w.pc,kq w.block,kq w.parent,kA w.pinned,kA w.above,w.m.av,kA w.any,w.value.av,kA w.found]
def qP.new(t:Int)(k:kH):qP:=⟨t,k,1,0,0,false,false,lq.zero,false,Vl.zero,false⟩
structure Xt(X:kY)(i b:Nat)(w:qP):Prop where
 o:X (24,i)=some (.var b w.av)
def qP.Ok(w:qP):Prop:=w.any=true->w.m.ok=true
def qP.got(w:qP)(n:Nd):lq×Bool:=match rO w.k n.ms with
 |some m=>(if w.any=true then nZ m w.m else m,true)
 |none=>(w.m,w.any)
def qP.alD(w:qP)(H:kG):Bool:=(H.c.node w.block).isSome&&decide (qj lx w.k (H.nd w.block).ps<(H.nd w.block).ks.length)
def qP.down(w:qP)(n:Nd):qP:={w with m:=(w.got n).1,any:=(w.got n).2,parent:=w.block,block:=n.ks.getD (qj lx w.k n.ps) 0,above:=true,pinned:=false,pc:=1}
def qP.ahI(w:qP)(n:Nd):Vl×Bool:=if w.any=true then rI (N9 (oc w.k n.es)).1 (N9 (oc w.k n.es)).2 w.m else N9 (oc w.k n.es)
def qP.tell(w:qP)(n:Nd):qP:={w with value:=(w.ahI n).1,found:=(w.ahI n).2,pc:=6,pinned:=false}
def qP.look(w:qP)(H:kG):qP×kG:=if w.alD H=true then(w.down (H.nd w.block),H)else(w.tell (H.nd w.block),(H.leave w.t w.block).1)
variable {P:Program}{E:su}{nt:Nat}{ops:Array Oper}{Q:Exit->St->Prop}
section
variable {l:List Oper}{c:Code}{T:List (Nat×AV)}{H:List (Nat×Bx)}
def ajY(f:kV 4999 H=some (.ext (Sg X))){T':List (Nat×AV)}:St.h ⟨T,(4999,.ext (Sg X))::H⟩=St.h ⟨T',H⟩:=by
 show(λj=>kV j ((4999,.ext (Sg X))::H))=(λj=>kV j H)
 rw[kZ];funext j;simp only[l9];split
 .rename_i e;subst e;exact f.symm
 .rfl
def xu(N:Nat){a:Array Oper}{i:Bool}{X:kY}(R:kY->Prop)(f:kV 4999 H=some (.ext (Sg X)))(h:R X)(k:∀Y,R Y->AW P E nt (.region N a i) ⟨T,(4999,.ext (Sg Y))::H⟩ Q):AW P E nt (.region N a i) ⟨T,H⟩ Q:=
 lU (S':=⟨T,(4999,.ext (Sg X))::H⟩) (lL.same O (ajY f)) (k X h)
def agL(R:kY->Prop)(f:kV 4999 H=some (.ext (Sg X)))(h:R X)(k:∀Y,R Y->AW P E nt c ⟨T,(4999,.ext (Sg Y))::H⟩ Q):AW P E nt c ⟨T,H⟩ Q:=
 lU (S':=⟨T,(4999,.ext (Sg X))::H⟩) (lL.same O (ajY f)) (k X h)
end
def uw(h c:Nat)(lb:nz)(b:Nat)(X:kY)(H:kG)(y:AV)(C:kY):Prop:=pR h [lb] X C/\mY C h c H/\C lb=some (.var b y)
variable {hb:Nat}
def uw.put{H:kG}{y:AV}(k:uw h hb lb b X H y C)(g:17<=lb.1)(z:AV):uw h hb lb b X H z (C.put lb (.var b z)):=
 ⟨k.1.trans (pR.put ki),k.2.1.put g,kC _ _ _⟩
def uw.Hb{H:kG}{p:rR}{y:AV}(k:uw h hb lb b X H y C)(g:17<=lb.1)(e:p.b=hb)(k':nw h p H' C Y):uw h hb lb b X H' y Y:=
 ⟨k.1.trans (k'.1.ael _),e▸k'.is,(k'.at_ g).trans k.2.2⟩
def Yf(P:Program)(E:su)(nt:Nat)(l:Nat)(N:Code)(Q:Exit->St->Prop):Exit->St->Prop
 | .goto l',S=>l'=l/\AW P E nt N S (lT Q)
 | .outgrown,_=>False
 |e,S=>Q e S
variable {S:St}
variable {g:Nat}
section
variable {K:St->Prop}{l id:Nat}{rest c:Code}
def zU(z:findLabel c l=some rest)(h:AW P E nt c S (Yf P E nt l rest Q)):AW P E nt (.scope c) S Q:=λB a w r=>by
 refine wp_scope_jumps l (λW w'=>∃B' S',mg E nt B' S'.t S'.h W w'/\AW P E nt rest S' (lT Q)) (λ_ _=>0) z (vz (h B a w r) ?_) ?_
 .rintro e a w ⟨B',S',b,d⟩;cases e with
  |goto l'=>exact⟨d.1,B',S',b,d.2⟩
  |normal=>exact⟨B',S',b,d⟩
  |outgrown=>exact d.elim
  |exit l=>exact⟨B',S',b,d⟩
  |ret=>exact⟨B',S',b,d⟩
  |panic c=>exact⟨B',S',b,d⟩
 .rintro a w ⟨B',S',b,d⟩;refine vz (d B' a w b) ?_;rintro e a w ⟨B',S',b,d⟩;cases e with
  |goto l'=>exact d.elim
  |normal=>exact⟨B',S',b,d⟩
  |outgrown=>exact⟨B',S',b,d⟩
  |exit l=>exact⟨B',S',b,d⟩
  |ret=>exact⟨B',S',b,d⟩
  |panic c=>exact⟨B',S',b,d⟩
def G6(h:Q (.goto l) S):AW P E nt (.goto l) S Q:=λB a w r=>wp_goto ⟨B,S,r,h⟩
def CP(h:Q .normal S):AW P E nt (.label l) S Q:=λB a w r=>wp_label ⟨B,S,r,h⟩
def zq(h:Q .ret S):Yf P E nt l rest Q .ret S:=h
def Fe(h:Q (.goto l) S):mC K Q (.goto l) S:=h
def CB(h:Q (.goto l) S):lj id Q (.goto l) S:=h
def MK{T:List (Nat×AV)}{H:List (Nat×Bx)}{M:kY->(Nat->Value)->Prop}(k:∀Y y,M Y y->AW P E nt c ⟨T,(4999,.ext (Sg Y))::([(4999,.ext M),(g,.hid)]++H)⟩ Q):AW P E nt c ⟨T,[(4999,.ext M),(g,.hid)]++H⟩ Q:=
 xr (H:= [(4999,.ext M),(g,.hid)]++H) O k
def G5{T:List (Nat×AV)}{H:List (Nat×Bx)}{M:kY->Prop}(k:∀(Y:kY) (y:Nat->Value),M Y->AW P E nt c ⟨T,(4999,.ext (Sg Y))::((4999,.ext (λC _=>M C))::H)⟩ Q):AW P E nt c ⟨T,(4999,.ext (λC _=>M C))::H⟩ Q:=
 xr (H:=(4999,.ext (λC _=>M C))::H) O k
end
def CO(h c:Nat)(H:kG)(f:FuncId)(J:List AV)(y:AV)(H':kG):Prop:=∀Y,mY Y h c H->BB f J Y y (λB _=>rA h Y B/\mY B h c H')
variable {f:FuncId}{J:List AV}
def CO.out{H:kG}{y:AV}(c:CO h hb H f J y H')(k:mY Y h hb H):BB f J Y y (λB _=>rA h Y B/\mY B h hb H'):=c Y k
variable {B:nE}{w:World}{M M':kY->Value->Prop}{r:AV}{v:Value}
def aiB(m:uu E B (hL (HM M)) w)(H:qJ (kI E B (hL (HM M))) w B (hL (HM M)) r v)(k:∀Y v,M Y v->M' Y v):uu E B (hL (HM M')) w/\qJ (kI E B (hL (HM M'))) w B (hL (HM M')) r v:=by
 have r0:mg E 1 B (λs=>if s=0 then some r else none) (hL (HM M)) {tmps:= #[v],defers:=E.df} w:=m.rel O O λs x o=>by
  by_cases h:s=0
  .subst h;simp only[oQ,mr]at o;subst o;exact⟨v,rfl,H⟩
  .simp[h]at o
 obtain⟨_,K,X,a,b,l⟩:=r0.nB (g:=4999) O;have I:=r0.DS (M':=λX y=>M' X (y 4998)) O ⟨X,k _ _ a,b,l⟩
 have e:l9 (hL (HM M)) 4999 (.ext λX y=>M' X (y 4998))=hL (HM M'):=by
  funext j
  show l9 (λj=>kV j (HM M)) 4999 _ j=kV j (HM M')
  by_cases h:j=4999
  .subst h;rw[kB];rfl
  .rw[kF _ _ h]
   have hb:Nat.beq 4999 j=false:=by
    cases c:Nat.beq 4999 j with
    |true=>exact absurd (mi c).symm h
    |false=>rfl
   simp only[kV,hb,cond_false]
 rw[e]at I;obtain⟨u,p,n⟩:=I.tmp 0 r O;have:u=v:=by simpa using p.symm
 subst this;exact⟨I.mem,n⟩
def BB.mono{y:AV}(c:BB f J X y M)(k:∀Y v,M Y v->M' Y v):BB f J X y M':=by
 obtain⟨fn,a,b,c,d⟩:=c;refine⟨fn,a,b,c,λE B w vs g i l A=>rM (d E B w vs g i l A) ?_⟩;rintro e w' ⟨v,B2,L,T,H⟩;obtain⟨m,j⟩:=aiB T H k;exact⟨v,B2,L,m,j⟩
def nw.go{p:rR}(e:p.b=hb)(k:nw h p H' X C):rA h X C/\mY C h hb H':=⟨k.1,e▸k.is⟩
def uw.go{H:kG}{y:AV}(k:uw h hb lb b X H y C)(g:17<=lb.1)(k':rA h C Y/\mY Y h hb H'):uw h hb lb b X H' y Y:=
 ⟨k.1.trans (k'.1.ael _),k'.2,(k'.1 lb (HT g)).trans k.2.2⟩
variable {z:AV}
def uw.then{H:kG}{y:AV}(k:uw h hb lb b X H y C)(k':uw h hb lb b C H' z Y):uw h hb lb b X H' z Y:=⟨k.1.trans k'.1,k'.2⟩
def Qm(h c:Nat)(H:kG)(t k:Int)(o:H.Ok):CO h c H 115 [lQ (1,h) c,kq t,kq k] (lJ (H.leave t k).2) (H.leave t k).1:=by
 rintro Y ⟨p,rfl,I⟩;have d:=kS Dk (BP Y h p H t k I o.w o.sm o.pn);exact d.mono λ_ _=>nw.go O
def aj3(h c:Nat)(H:kG)(t k:Int)(o:H.Ok):CO h c H 114 [lQ (1,h) c,kq t,kq k] (kq (H.pin t k).2) (H.pin t k).1:=by
 rintro Y ⟨p,rfl,I⟩;have d:=kS JK (U6 Y h p H t k I o.w o.pn);exact d.mono λ_ _=>nw.go O
def afN(h c:Nat)(H:kG)(t k:Int)(w:Bool)(o:H.Ok):CO h c H 80 [lQ (1,h) c,kq t,kq k,kA w] (kA (H.adf t k w)) (H.take t k w):=by
 rintro Y ⟨p,rfl,I⟩;have d:=kS func80 (Pa Y h p H t k w I o.w o.sm);exact d.mono λ_ _=>nw.go O
def afP(h c:Nat)(H:kG)(t k:Int)(o:H.Ok):CO h c H 79 [lQ (1,h) c,kq t,kq k] (.mz [.hv 4998,kA (H.load t k).2]) (H.load t k).1:=by
 rintro Y ⟨p,rfl,I⟩;have d:=kS func79 (Pe Y h p H t k I o.w);exact d.mono λ_ _=>nw.go O
def anH(h c:Nat)(H:kG)(t k:Int)(n:Nd)(B:n.es.length<=100000/\n.ks.length<=100000/\n.ps.length<=100000/\n.ms.length<=100000)(o:H.Ok):CO h c H 196 [lQ (1,h) c,kq t,kq k,n.av] (kA (H.fits t k n)) (H.set t k n):=by
 rintro Y ⟨p,rfl,I⟩;have d:=kS AM (Hg Y h p H t k n B I o.w);exact d.mono λ_ _=>nw.go O
variable {e:TypeId}{n:Nat}
section
variable {c:Code}{T:List (Nat×AV)}{H:List (Nat×Bx)}
def Rr{lo:nz}{u:Option (Nat×Nat)->Nat->AV}(k:∀R L,AW P E nt c ⟨T,(4999,.ext (Sg ((X.put l (.my e n R L J)).put lo (.var b (u R L)))))::((4999,.ext (OZ X l lo b e n J u))::H)⟩ Q):AW P E nt c ⟨T,(4999,.ext (OZ X l lo b e n J u))::H⟩ Q:=
 xr (H:=(4999,.ext (OZ X l lo b e n J u))::H) O λY y ⟨R,L,hY⟩=>by
  subst hY;exact k R L
end
variable {R:Prop}
def MT{Q:Prop}(k:R)(h:zT R->Q:=by intro kHid;(first|with_reducible refine MK ?_|with_reducible refine G5 ?_|refine zU (l:=0) O ?_|refine G6 ?_|refine CP ?_|refine zq ?_|refine Fe ?_|refine CB ?_|(apply Wc;(focus (exact pt O O O O O (CO.out iv hc) j7 O));(focus exact ig))|(refine vD O O O O O (CO.out iv hc) j7 O h8 ?_)|refine tT ?_);exact kHid.out):Q:=h ⟨k⟩
def wU1{Q:Prop}(k:R)(h:zT R->Q:=by intro kHid;(repeat1' (first|with_reducible refine Rr ?_|with_reducible refine MK ?_|with_reducible refine G5 ?_|refine zU (l:=0) O ?_|(first|refine an8 _ ?_|refine Jg _ ?_|refine Ij ?_|refine agQ ?_|refine MM zD ?_|refine CQ ?_|refine oz ?_|refine x9 ?_|refine CA ?_|refine Fc ?_|refine Cz ?_|refine BZ ?_|refine Ff ?_|refine CC O ?_|refine G7 ?_|refine MJ ?_|refine G4 ?_|refine agM O ?_|with_reducible refine afK ?_|with_reducible refine afL ?_|with_reducible refine LY jd ?_|with_reducible refine TN jd ?_|refine And.intro hf ?_)|refine G6 ?_|refine CP ?_|refine zq ?_|refine Fe ?_|refine CB ?_|(apply Wc;(focus (exact pt O O O O O (CO.out iv hc) j7 O));(focus exact ig))|(refine vD O O O O O (CO.out iv hc) j7 O h8 ?_)|(first|((first|apply Vv|apply Wv);(focus (first|exact oB O O|exact Lh O O|exact V9 tY mc Hd O O O gF jh j7 O|exact Yy tY mc Hd O O O gF jh j7 O|exact Yz tY mc Hd O O O gF jh j7 O|exact PS O O gF gF j5 j5 j5 O|exact HH O O O O|exact Ob O O gF O O O O O|exact V7 O O gF gL O O O O|exact Li O O O|exact PO O O O|exact PM O O O O|exact Lj O O O O iF O|exact Jt O O O O j5 j7 O|exact Ju O O O j5 gE j7 O|exact qx O O O O j5|exact Cj O O O O iP O|exact we qG O O O|exact yZ qG O O O|exact sF qG O O O|exact yX qG O O O|exact yY qG O O O|exact sE qG O O O|exact t7 qG O O O|exact we qg O O O|exact yZ qg O O O|exact sF qg O O O|exact yX qg O O O|exact yY qg O O O|exact sE qg O O O|exact t7 qg O O O|exact we qF O O O|exact yZ qF O O O|exact sF qF O O O|exact yX qF O O O|exact yY qF O O O|exact sE qF O O O|exact t7 qF O O O|exact we qE O O O|exact yZ qE O O O|exact sF qE O O O|exact yX qE O O O|exact yY qE O O O|exact sE qE O O O|exact t7 qE O O O|exact we qD O O O|exact yZ qD O O O|exact sF qD O O O|exact yX qD O O O|exact yY qD O O O|exact sE qD O O O|exact t7 qD O O O|exact vW O O O O iP|exact tl O O O|exact vV O O O|exact rW O O O kh|exact uh O O O kh|exact sG O O O kh|exact vf O O O kh|exact wQ O O O|exact t5 O O O O O|exact vb O O O O O O O|exact XE O O O O O O O|exact Am O O O|exact w9 O O O O O O j5));(focus exact ig))|(apply Wc;(focus (first|(exact C1 O O O O gF O (kK _) (KY (uz kM O)) iO iO O)|(exact pt O O O O O jh j7 O)));(focus exact ig))|(apply Wb;(focus (exact Jv O O O O j5 j7 O));(focus exact ig))|((first|apply Vb|apply Wb);(focus (first|exact Ll tY mc O O O gF O|exact y6 O O O|exact xY O O O O O iu iO iO|exact xW O O O O O iu iO iO|exact xX O O O O O iu iO iO|exact zB O O O O|exact tQ O O O|exact O7 O O O|exact xH O O O O O O O O O|exact O6 O O O O O O O O O));(focus exact ig))|(apply Ws;(focus (exact SW _ O O O O gF gW O O (λ_ _=>rfl) O));(focus exact ig))|((first|apply Vs|apply Ws);(focus (first|exact Ll tY mc O O O gF O|exact aeB tY mc O O O it O gF|exact ID O O O O O gF O O O O O O j7|exact aev O O O O O gF gL O O O O j7|exact nX kM (d:=none) O O O O O O O O O O));(focus exact ig))|(refine aj9 gS O ?_)|refine Vgt O O iK ?_|refine Vgf O O iK ?_|(refine Vgb O O jh ?_)|(refine tc _ j5 ?_)|(refine Vskipn gS ?_)|(refine ZK O O O O gF O (kK _) (KY (uz kM O)) iO iO O h8 λA2 cap2 hA2=>?_)|refine vD O O O O O iv j7 O h8 ?_|(refine sN gS O ?_)|refine Mx O O iK ?_|refine My O O iK ?_|(refine Mz O O jh ?_))));exact kHid.out):Q:=h ⟨k⟩
def wU{Q:Prop}(k:R)(h:zT R->Q:=by intro kHid;(try refine wU1 ?_);exact kHid.out):Q:=h ⟨k⟩
structure mT where
 t:Int
 qa:Bool
 pc:Int
 upper:Int
 lower:Int
 has:Bool
 pinned:Bool
 root:Bool
 e:Int
def mT.av(r:mT):AV:=.agg 9 [kq r.t,kA r.qa,kq r.pc,kq r.upper,kq r.lower,kA r.has,kA r.pinned,kA r.root,kq r.e]
def mT.new(t:Int)(o:Bool):mT:=⟨t,o,1,0,0,true,false,true,0⟩
def ndW(n:Nd):List Int:=if n.leaf=true then[]else Bj n n.ks.length
def Co(n:Nd):Int:=afj (ndW n)
def aii{n:Nd}: -1<=Co n/\Co n<n.ks.length:=by
 have h:=anx (ndW n)
 have:(ndW n).length<=n.ks.length:=by
  unfold ndW;split
  .simp
  .simp[Bj]
 unfold Co;omega
def mT.above(r:mT)(H:kG):mT×kG:=
 if r.upper=0 then(if r.qa=true then({r with has:=false},H)else({r with has:=false,root:=false},(H.leave r.t r.upper).1))else({r with has:=false},(H.leave r.t r.upper).1)
def mT.below(r:mT)(H:kG):mT×kG:=({r with pinned:=false},(H.leave r.t r.lower).1)
def mT.fin(r:mT)(H:kG)(e:Int):mT×kG:=({(r.above H).1 with pc:=11,e:=e},(r.above H).2)
def mT.choose(r:mT)(H:kG)(p:Nd):mT×kG:=
 if r.upper=0/\p.leaf=true/\p.es.length<2 then r.fin H 0
 else if r.upper=0/\(p.leaf=true∨p.ks.length=4)then({r with pc:=6},H)
 else if Co p<0 then r.fin H 0
 else({r with lower:=p.ks.getD (Co p).toNat 0,pc:=2},H)
noncomputable def mT.push(r:mT)(H:kG)(p c:Nd):mT×kG:=
 if c.leaf=false/\c.ks.length=4 then({r with pc:=8},H)
 else if(ta p c (lF p.ks r.lower)).2.2=true then
  (let b:=r.below ((H.set r.t r.upper (ta p c (lF p.ks r.lower)).1).set r.t r.lower (ta p c (lF p.ks r.lower)).2.1)
   b.1.fin b.2 0)
 else if c.leaf=true then({r with pc:=8},H)
 else({(r.above H).1 with upper:=r.lower,has:=true,pinned:=false,pc:=1},(r.above H).2)
def mT.claim(r:mT)(H:kG)(C:Int):mT×kG:=({r with pc:=if H.c.Ql r.t=true then C else r.pc},{H with c:=H.c.claim r.t})
noncomputable def yU(p c:Nd)(i id:Int):Nd×Nd×Nd×Bool:=if c.leaf=true then rU p c i id else rV p c i id
noncomputable def mT.split(r:mT)(H:kG)(p c:Nd):mT×kG:=
 let a:=H.alloc r.t 1
 if a.2.2=true then
  (let s:=yU p c (lF p.ks r.lower) (a.2.1.getD 0 0)
   let b:=r.below (if s.2.2.2=true then((a.1.set r.t r.upper s.1).set r.t r.lower s.2.1).born r.t (a.2.1.getD 0 0) s.2.2.1 else a.1)
   b.1.fin b.2 0)
 else(let b:=r.below a.1;b.1.fin b.2 3)
noncomputable def mT.grow(r:mT)(H:kG)(p:Nd):mT×kG:=
 let a:=H.alloc r.t 2
 if a.2.2=true then
  (let s:=rD p (a.2.1.getD 0 0) (a.2.1.getD 1 0)
   r.fin (if s.2.2.2=true then((a.1.set r.t 0 s.1).born r.t (a.2.1.getD 0 0) s.2.1).born r.t (a.2.1.getD 1 0) s.2.2.1 else a.1) 0)
 else r.fin a.1 3
noncomputable def mT.step(r:mT)(H:kG):mT×kG:=
 if r.pc=11∨H.may r.t=false then(r,H)
 else if r.pc=1 then r.choose H (H.nd r.upper)
 else if r.pc=2 then(if(H.pin r.t r.lower).2=1∨(H.pin r.t r.lower).2=2 then {r with pc:=4,pinned:=true}else if(H.pin r.t r.lower).2=3 then {r with pc:=3,pinned:=true}else r,(H.pin r.t r.lower).1)
 else if r.pc=3 then({r with pc:=4},(H.load r.t r.lower).1)
 else if r.pc=4 then({r with pc:=5},H.take r.t r.lower true)
 else if r.pc=5 then r.push H (H.nd r.upper) (H.nd r.lower)
 else if r.pc=6 then r.claim H 7
 else if r.pc=7 then r.claim H 10
 else if r.pc=8 then r.claim H 9
 else if r.pc=9 then r.split H (H.nd r.upper) (H.nd r.lower)
 else if r.pc=10 then r.grow H (H.nd r.upper)
 else(r,H)
def an4(n:Nd)(h:n.In):mG prog 192 [n.av] (kq (Co n)):=by
 have a:=h.gd.bf.DV;have b:=h.kp;have k:=h.ps;have A:=h.ms;have D:=h.ks;obtain⟨X,es,l,ps,ms⟩:=n;dsimp only at a b k A D;cases X
 .exact Mt ⟨false,es,l,ps,ms⟩ (Bj ⟨false,es,l,ps,ms⟩ l.length) (Je es l ps ms a b kh kh) (by simp[Bj];omega)
 .exact Mt ⟨true,es,l,ps,ms⟩ [] (Mn es l ps ms) ki
structure o9 where
 t:Int
 m:lq
 pc:Int
 pinned:Bool
 room:Option mT
 e:Int
def tE(l:nz):Option Nat->AV
 |none=>.v (.pointer none)
 |some b=>lQ l b
def o9.av(i:Nat)(rb:Option Nat)(w:o9):AV:=.agg 34 [kq w.t,w.m.av,kq w.pc,kA w.pinned,tE (26,i) rb,kq w.e]
def EW(X:kY)(i:Nat)(rb:Option Nat):Option mT->Prop
 |none=>rb=none
 |some r=>∃b,rb=some b/\X (26,i)=some (.var b r.av)
def Uo(X:kY)(i b:Nat)(w:o9):Prop:=∃rb,X (25,i)=some (.var b (w.av i rb))/\EW X i rb w.room
def o9.new(t:Int)(m:lq):o9:=⟨t,m,0,false,none,0⟩
def Rt(h c i b:Nat)(X:kY)(H:kG)(w:o9)(C:kY):Prop:=pR h [(25,i),(26,i)] X C/\mY C h c H/\Uo C i b w
def o9.pin(w:o9)(H:kG):o9×kG:=(if(H.pin w.t 0).2=1∨(H.pin w.t 0).2=2 then {w with pc:=2,pinned:=true}else if(H.pin w.t 0).2=3 then {w with pc:=1,pinned:=true}else w,(H.pin w.t 0).1)
noncomputable def o9.load(w:o9)(H:kG):o9×kG:=({w with pc:=2},(H.load w.t 0).1)
def o9.take(w:o9)(H:kG):o9×kG:=({w with pc:=3},H.take w.t 0 true)
def o9.leave(w:o9)(H:kG)(e:Int):o9×kG:=({w with pc:=5,pinned:=false,room:=none,e:=e},(H.leave w.t 0).1)
noncomputable def o9.insert(w:o9)(H:kG)(seq:BitVec 64):(o9×kG)×Bool:=
 if(x6 (H.nd 0) {w.m with seq:=seq}).2=true then(w.leave (H.set w.t 0 (x6 (H.nd 0) {w.m with seq:=seq}).1) 0,true)
 else(({w with pc:=4,room:=some (mT.new w.t true)},H),false)
noncomputable def o9.below(w:o9)(H:kG)(r:mT):o9×kG:=
 if(r.step H).1.pc=11 then
  (if(if r.pc=11∨H.may r.t=true then(r.step H).1.e else 0)=0 then({w with pc:=3,room:=none},(r.step H).2)
   else w.leave (r.step H).2 (if r.pc=11∨H.may r.t=true then(r.step H).1.e else 0))
 else({w with room:=some (r.step H).1},(r.step H).2)
noncomputable def o9.step(w:o9)(H:kG)(C:BitVec 64):(o9×kG)×Bool:=
 if w.pc=5∨H.may w.t=false then((w,H),false)
 else if w.pc=0 then(w.pin H,false)
 else if w.pc=1 then(w.load H,false)
 else if w.pc=2 then(w.take H,false)
 else if w.pc=3 then w.insert H C
 else match w.room with
  |some r=>(w.below H r,false)
  |none=>((w,H),false)
def VV(m:lq)(s:BitVec 64):({m with seq:=s}:lq).ok=m.ok:=by unfold lq.ok;rfl
variable {i:Nat}{rb:Option Nat}
def EW.off{o:Option mT}(k:EW X i rb o)(h:C (26,i)=X (26,i)):EW C i rb o:=by
 cases o with
 |none=>exact k
 |some r=>obtain⟨b,e,j⟩:=k;exact⟨b,e,h.trans j⟩
def Kw:lB prog 233 (.arr 5 1 [.v .nilFunc,.v .nilFunc,.v .nilFunc,.v .nilFunc,.v .nilFunc]):=lR (v:=.agg #[.nilFunc,.nilFunc,.nilFunc,.nilFunc,.nilFunc]) (n:=5) j6 λU w=>by
 simp only[Rd,qQ,ov,Value.cells];exact⟨O,[_],_,rfl,rfl,⟨O,rfl⟩,[_],_,rfl,rfl,⟨O,rfl⟩,[_],_,rfl,rfl,⟨O,rfl⟩,[_],_,rfl,rfl,⟨O,rfl⟩,[_],_,rfl,rfl,⟨O,rfl⟩,rfl⟩
def Rt.of{w':o9}(H:EW X i rb w'.room)(k:uw h hb (25,i) b X H' (w'.av i rb) C):Rt h hb i b X H' w' C:=
 ⟨k.1.mono ki,k.2.1,rb,k.2.2,H.off (k.1 _ (HT ki) ki)⟩
variable {T:Nat->Option AV}{H:Hp}{d:Option Nat}{ty:TypeId}{pos:String}{af:Array Edge}{gd:Option (Nat×Bool)}
variable {t:TypeId}
variable {x:Operand}
variable {xt:TypeId}
variable {fn:Func}{ats:Array TypeId}{G:List AV}
section
def Si{name:String}(n:Nat)(h:(P.info? t).bind (λi=>(i.methods.find? (·.name==name)).map λm=>(m.path.toList.length,m.func))=some (0,some (f,true)))(c:P.underlying t=some (.pointer e))(w:World):(Go.method (n+1) t v name).run P w= .ok (f,v) w:=by
 cases hi:P.info? t with
 |none=>rw[hi]at h;cases h
 |some i=>
  rw[hi]at h;simp only[Option.bind_some]at h;cases T:i.methods.find? (·.name==name)with
  |none=>rw[T]at h;cases h
  |some m=>
   exact bh
def abc{y:AV}(g:P.underlying t=some (.pointer e))(n:lK nt d=true)(j:kv T x=some y)(N:lS y=true):kE P E nt ops ⟨d,.makeInterface t x,ty,pos,af,gd⟩ T H [] ⟨.ifc t y,[]⟩:=
 lO n λB T' H' a w r s D=>by have b:=r.eval ((s x js).trans j);rw[kJ (l6 N)]at b;obtain⟨c,f,k⟩:=b;refine⟨.iface t (a.eval x),by simp[execOp,Instr.makeInterface,lu g],?_⟩;rw[kJ ki];exact⟨[_],by simp only[Rd];exact⟨c,f,rfl⟩,by rw[k];rfl⟩
def PG{y:AV}(g:P.underlying t=some (.pointer e))(n:lK nt d=true)(j:kv T x=some (.ifc t y))(N:lS y=true):kE P E nt ops ⟨d,.typeAssert x xt t true,ty,pos,af,gd⟩ T H [] ⟨.mz [y,kA true],[]⟩:=
 lO n λB T' H' a w r s D=>by have b:=ml ki (r.eval ((s x js).trans j)) O;simp only[Rd]at b;obtain⟨c,f,k⟩:=b;injection k with k;refine⟨.tuple #[m9 y c,.bool true],by simp[execOp,k,Instr.typeAssert,lu g],?_⟩;rw[mW];refine⟨[m9 y c,.bool true],rfl,?_⟩;simp only[oe];exact⟨c,[.bool true],rfl,f,[.bool true],[],rfl,(qV O).2 O,rfl⟩
def PH{s:TypeId}{y:AV}(g:P.underlying t=some (.pointer e))(n:lK nt d=true)(j:kv T x=some (.ifc s y))(l:Nat.beq s t=false)(i:∀w,(zeroValue t).run P w= .ok (.pointer none) w):kE P E nt ops ⟨d,.typeAssert x xt t true,ty,pos,af,gd⟩ T H [] ⟨.mz [.v (.pointer none),kA false],[]⟩:=
 lO n λB T' H' a w r u D=>by
  have b:=ml ki (r.eval ((u x js).trans j)) O;simp only[Rd]at b;obtain⟨c,f,k⟩:=b;injection k with k;have M:¬s=t:=λe=>by subst e;simp at l
  refine⟨.tuple #[.pointer none,.bool false],by simp[execOp,k,Instr.typeAssert,lu g,M,i],?_⟩;rw[mW];refine⟨[.pointer none,.bool false],rfl,?_⟩;simp only[oe];exact⟨[.pointer none],[.bool false],rfl,(qV O).2 O,[.bool false],[],rfl,(qV O).2 O,rfl⟩
def VU{name:String}{l:List Operand}{v y:AV}(Y:H 4999=some (.ext (Sg X)))(s:lK nt d=true)(D:P.funcs[f]?=some fn)(g:fn.body.isSome=true)(hnm:(fn.name== "runtime.NumGoroutine")=false)
 (S:P.underlying t=some (.pointer e)) (U:(P.info? t).bind (λi=>(i.methods.find? (·.name==name)).map λm=>(m.path.toList.length,m.func))=some (0,some (f,true))) (hxf:kv T x=some (.ifc t v)) (hvd:mO v=true) (p:l.map (kv T)=G.map some) (A:mZ P f (v::J) X y (λC _=>C=X)) (I:mO y=true) (W:∀H',BL H' G J) (N:G.all lS=true):
 kE P E nt ops ⟨d,.call {callee:=.invoke x name,args:=l.toArray,argTypes:=ats},ty,pos,af,gd⟩ T H [4999] ⟨y,[]⟩:=by
 intro T' H' u hrh _ B a w r K Q hK;have hX':H' 4999=some (.ext (Sg X)):=(hrh 4999 ki).trans Y;have hxs:=rP r l G (rn p (λy I=>mv u ir)) (λz V=>l6 (mq.1 N z V));have hys:=(W H').Yi hxs;have hfv:=ml ki (r.eval ((mv u (x:=x) iV).trans hxf)) O;simp only[Rd]at hfv;obtain⟨c,R,M⟩:=hfv;injection M with M
 have hall:oe (kI E B H') w (v::J) B0 H0 (m9 v c::l.map a.eval):=by
  simp only[oe];exact⟨c,_,rfl,pQ v hvd R,hys⟩
 unfold Oper.wp
 have L:(execOp a.eval ⟨d,.call {callee:=.invoke x name,args:=l.toArray,argTypes:=ats},ty,pos,af,gd⟩).run P w= .ok (.enter f (m9 v c::l.map a.eval).toArray) w:=by
  have hb':fn.body≠none:=fu;have hn':fn.name≠ "runtime.NumGoroutine" :=fO;have hmr:=Si (v:=m9 v c) (P.types.size+Made.depth- 1) U S w;rw[show P.types.size+Made.depth- 1+1=P.types.size+Made.depth from by simp[Made.depth]]at hmr;have ha:(m9 v c::l.map a.eval).toArray= #[m9 v c]++(l.toArray.map a.eval):=fv;rw[ha];simp[execOp,resolve,M,invoke,callMethod,hmr,callFunc,D,hn',hb'];exact eu
 rw[L];have hcall:=r.Y5 (H':=H') (M':=Sg X) (λ_=>B.hv) hX' hX' (λj n=>.inl O) (λ_ _ _=>rfl) (λ_ _ h=>h) A hall;refine rM hcall ?_;rintro e w' ⟨v,B2,B',rfl,q,F,Z,h6⟩
 exact hK B' _ w' (q.put s (by
  rcases Ec y with⟨us,rfl⟩|hn
  .rw[mW]at h6⊢;obtain⟨us',k,k2⟩:=h6;refine⟨us',k,rz us (by simpa[mO]using I) (zh (nK.refl _ w') (λb o _ h=>Z b o h) us (qt.nj _ _) (rz (B':=B0) (H':=H0) us (by simpa[mO]using I) k2))⟩
  .rw[kJ hn]at h6⊢;obtain⟨c,k,k2⟩:=h6;exact⟨c,pQ y I (n6 (nK.refl _ w') (λb o _ h=>Z b o h) y (qt.nj _ _) (pQ (B':=B0) (H':=H0) y I k)),k2⟩))
end
variable {args:List AV}
variable {caps:List AV}
section
noncomputable def HQ(t:TypeId):Bool:=match prog.underlying t with
 |some (.pointer _)=>true
 |_=>false
def FO(h:HQ t=true):∃e,prog.underlying t=some (.pointer e):=by
 unfold HQ at h;split at h
 .rename_i F e;exact⟨F,e⟩
 .cases h
def S5{y:AV}(n:lK nt d=true)(j:kv T x=some y)(N:lS y=true)(b:HQ t=true):kE prog E nt ops ⟨d,.makeInterface t x,ty,pos,af,gd⟩ T H [] ⟨.ifc t y,[]⟩:=by
 obtain⟨F,hF⟩:=FO b;exact abc hF n j N
def ali{y:AV}(n:lK nt d=true)(j:kv T x=some (.ifc t y))(N:lS y=true)(b:HQ t=true):kE prog E nt ops ⟨d,.typeAssert x xt t true,ty,pos,af,gd⟩ T H [] ⟨.mz [y,kA true],[]⟩:=by
 obtain⟨F,hF⟩:=FO b;exact PG hF n j N
def alj{s:TypeId}{y:AV}(n:lK nt d=true)(j:kv T x=some (.ifc s y))(g:Nat.beq s t=false)(b:HQ t=true)(e:∀w,(zeroValue t).run prog w= .ok (.pointer none) w):kE prog E nt ops ⟨d,.typeAssert x xt t true,ty,pos,af,gd⟩ T H [] ⟨.mz [.v (.pointer none),kA false],[]⟩:=by
 obtain⟨F,hF⟩:=FO b;exact PH hF n j g e
def Xr(t:TypeId)(name:String)(args:List AV)(X:kY)(r:AV):Prop:=∃f fn e,Tryz.prog.funcs[f]?=some fn∧fn.body.isSome=true∧(fn.name== "runtime.NumGoroutine")=false∧Tryz.prog.underlying t=some (.pointer e)∧(Tryz.prog.info? t).bind (fun i=>(i.methods.find? (·.name==name)).map fun m=>(m.path.toList.length,m.func))=some (0,some (f,true))∧mZ Tryz.prog f args X r (fun C _=>C=X)
def akk{name:String}(u:Un f args X r)(c:HQ t=true)(T:(prog.info? t).bind (λi=>(i.methods.find? (·.name==name)).map λm=>(m.path.toList.length,m.func))=some (0,some (f,true))):Xr t name args X r:=by
 obtain⟨F,hF⟩:=FO c;obtain⟨fn,a,b,k,A⟩:=u;exact⟨f,fn,F,a,b,k,hF,T,A⟩
def ah4{name:String}{l:List Operand}{v y:AV}(g:H 4999=some (.ext (Sg X)))(n:lK nt d=true)(p:kv T x=some (.ifc t v))(c:mO v=true)(j:td T l=some G)(e:tA G=some J)(N:G.all lS=true)(u:Xr t name (v::J) X y)(I:mO y=true):
 kE prog E nt ops ⟨d,.call {callee:=.invoke x name,args:=l.toArray,argTypes:=ats},ty,pos,af,gd⟩ T H [4999] ⟨y,[]⟩:=by
 obtain⟨f,fn,F,a,b,k,A,D,P⟩:=u;exact VU g n a b k A D p c (o6 j) P I (λ_=>pU _ _ e) N
def xS{k:Nat}{l:List Operand}{y:AV}(g:H 4999=some (.ext (Sg X)))(p:kv T x=some (.fn (.func f) [] caps))(j:td T l=some G)(e:tA (G++caps)=some J)(N:G.all lS=true)(t:H k=none)(u:BB f J X y M)(F:O8 y=true)(n:lK nt (some k)=true):
 kE prog E nt ops ⟨some k,.call {callee:=.value x,args:=l.toArray,argTypes:=ats},ty,pos,af,gd⟩ T H [4999] ⟨Hf k y,[(4999,.ext (λC z=>M C (z k))),(k,.hid)]⟩:=by
 obtain⟨fn,a,b,m,A⟩:=u;exact SL (caps:=caps) k g t A F n a b m p (o6 j) N λH=>pU _ _ e
end
variable {ol:List Oper}
section
variable {T:List (Nat×AV)}{H:List (Nat×Bx)}{k:Nat}
def DO{z:Operand}{l:List Operand}{y:AV}(g:kV 4999 H=some (.ext (Sg X)))(p:kv (St.t ⟨T,H⟩) z=some (.fn (.func f) [] caps))(m:td (St.t ⟨T,H⟩) l=some G)(e:tA (G++caps)=some J)(N:G.all lS=true)(t:kV k H=none)(u:BB f J X y M)(F:O8 y=true)(n:lK nt (some k)=true)
 (W:kN ops ⟨some k,.call {callee:=.value z,args:=l.toArray,argTypes:=ats},ty,pos,af,gd⟩ (St.t ⟨T,H⟩)=some true)
 (h:∀C v,M C v->AS prog E nt ops ol ⟨(k,KC v y)::T,(4999,.ext (Sg C))::(k,.hid)::H⟩ Q):
 AS prog E nt ops (⟨some k,.call {callee:=.value z,args:=l.toArray,argTypes:=ats},ty,pos,af,gd⟩::ol) ⟨T,H⟩ Q:=
 Vc (xS g p m e N t u F n) W (MN k k F O gQ λC A P=>l7 (lL.same X5 Qa) (h C (A k) P))
end
def sR(f:FuncId)(J:List AV)(lb:nz)(z:AV):Prop:=∀Y,BB f J Y (.hv 4998) (λC v=>∃b,v= .pointer (some ⟨b,0,none⟩)/\C=Y.put lb (.var b z))
def sR.out(c:sR f J lb z):BB f J Y (.hv 4998) (λC v=>∃b,v= .pointer (some ⟨b,0,none⟩)/\C=Y.put lb (.var b z)):=c Y
def Z3:∀w,(zeroValue 96).run prog w= .ok (.pointer none) w:=λw=>by kernel_rfl
def akh:((prog.info? 100).bind (·.zero)).map Wu=some true:=by kernel_rfl
def XR{Q:Prop}(k:R)(h:zT R->Q:=by intro kHid;(first|(first|with_reducible refine MK ?_|with_reducible refine G5 ?_|refine zU (l:=0) O ?_|refine G6 ?_|refine CP ?_|refine zq ?_|refine Fe ?_|refine CB ?_|(apply Wc;(focus (exact pt O O O O O (CO.out iv hc) j7 O));(focus exact ig))|(refine vD O O O O O (CO.out iv hc) j7 O h8 ?_)|refine tT ?_)|((first|apply Vv|apply Wv);(focus exact gJ);(focus exact ig))|(refine vD O O O O O (sR.out iv) j7 O h8 ?_)|(apply Wc;(focus (exact pt O O O O O (sR.out iv) j7 O));(focus exact ig))|(refine DO O O O O O O iv j7 O h8 ?_)|(apply Wc;(focus (exact xS O O O O O O iv j7 O));(focus exact ig)));exact kHid.out):Q:=h ⟨k⟩
def wJ{Q:Prop}(k:R)(h:zT R->Q:=by intro kHid;(repeat (first|refine wU1 ?_|((first|apply Vv|apply Wv);(focus exact gJ);(focus exact ig))|(refine vD O O O O O (sR.out iv) j7 O h8 ?_)|(apply Wc;(focus (exact pt O O O O O (sR.out iv) j7 O));(focus exact ig))|(refine DO O O O O O O iv j7 O h8 ?_)|(apply Wc;(focus (exact xS O O O O O O iv j7 O));(focus exact ig))));exact kHid.out):Q:=h ⟨k⟩
structure qf where
 t:Int
 pc:Int
 line:Bool
 pinned:Bool
 room:Option mT
 rounds:Int
 Cu:Int
def qf.av(i:Nat)(rb:Option Nat)(f:qf):AV:=.agg 7 [kq f.t,kq f.pc,kA f.line,kA f.pinned,tE (26,i) rb,kq f.rounds,kq f.Cu]
def Jk(X:kY)(i b:Nat)(f:qf):Prop:=∃rb,X (27,i)=some (.var b (f.av i rb))/\EW X i rb f.room
def qf.new(t:Int):qf:=⟨t,1,false,false,none,0,0⟩
def qf.rest(f:qf):Bool:=decide (f.pc=1)&& !f.line
def qf.round(f:qf)(g:Bool):qf:={f with pc:=1,room:=none,rounds:=f.rounds+1,Cu:=if g=true then f.Cu+1 else f.Cu}
def qf.pin(f:qf)(H:kG):qf×kG:=(if(H.pin f.t 0).2=1∨(H.pin f.t 0).2=2 then {f with line:=decide ((H.pin f.t 0).2=4),pc:=3,pinned:=true}else if(H.pin f.t 0).2=3 then {f with line:=decide ((H.pin f.t 0).2=4),pc:=2,pinned:=true}else {f with line:=decide ((H.pin f.t 0).2=4)},(H.pin f.t 0).1)
def qf.look(f:qf)(H:kG):qf×kG:=if pf (H.nd 0)=true then({f with pinned:=false,pc:=5,room:=some (mT.new f.t false)},H)else(({f with pinned:=false}:qf).round false,(H.leave f.t 0).1)
noncomputable def qf.below(f:qf)(H:kG)(r:mT):qf×kG:=
 (if(r.step H).1.pc=11 then f.round (decide ((if r.pc=11∨H.may r.t=true then(r.step H).1.e else 0)=0))else {f with room:=some (r.step H).1},(r.step H).2)
noncomputable def qf.step(f:qf)(H:kG):qf×kG:=
 if H.may f.t=false then(f,H)
 else if f.pc=1 then f.pin H
 else if f.pc=2 then({f with pc:=3},(H.load f.t 0).1)
 else if f.pc=3 then({f with pc:=4},H.take f.t 0 true)
 else if f.pc=4 then f.look H
 else if f.pc=5 then(match f.room with
  |some r=>f.below H r
  |none=>(f,H))
 else(f,H)
def Uw(h c i b:Nat)(X:kY)(H:kG)(f:qf)(C:kY):Prop:=pR h [(27,i),(26,i)] X C/\mY C h c H/\Jk C i b f
variable {f':qf}
def Uw.of(H:EW X i rb f'.room)(k:uw h hb (27,i) b X H' (f'.av i rb) C):Uw h hb i b X H' f' C:=
 ⟨k.1.mono ki,k.2.1,rb,k.2.2,H.off (k.1 _ (HT ki) ki)⟩
theorem FF:∀(n:Nat) (l:List Int),l.Nodup->(∀t∈l,0<=t/\t<(n:Int))->l.length<=n
 |0,l,_,h=>by
  cases l with
  |nil=>simp
  |cons a l=>have:=h a oO;omega
 |n+1,l,hn,h=>by
  by_cases c:(n:Int)∈l
  .have b:=FF n (l.erase (n:Int)) (hn.erase _) λt s=>by
    have d:=(hn.mem_erase_iff).1 s;have k:=h t d.2;have:=d.1;omega
   rw[List.length_erase_of_mem c]at b;omega
  .have b:=FF n l hn λt s=>by
    have k:=h t s;have:t≠(n:Int):=λe=>c (e▸s);omega
   omega
theorem IK{x:Int}:∀{l:List Int} {i:Nat},x∈l->(i:Int)<=n9 x i l
 |y::l,i,h=>by
  unfold n9;split
  .exact qH _
  .rename_i F;rcases mf.1 h with rfl|h
   .simp at F
   .have:=IK (i:=i+1) h;omega
def Ov{x:Int}{l:List Int}(h:x∈l):0<=lF l x:=IK (i:=0) h
structure kP.Bd(N:Nat)(c:kP):Prop where
 len:c.fr.length<=64
 nd:∀f∈c.fr,f.nd.In
 pn:∀f∈c.fr,-(N:Int)<=f.pins/\f.pins<=N
 at_:∀k i,c.at_ k=some i->i<c.fr.length
 ln:(c.line.map (·.task)).Nodup
 l8:∀w∈c.line,0<=w.task/\w.task<8
 ld:∀k l,c.oE k=some l->l.Nodup/\ ∀t∈l,0<=t/\t<8
 hd:0<=c.hand/\c.hand<=64
structure kG.Bd(N:Nat)(H:kG):Prop where
 c:H.c.Bd N
 sm:∀L∈H.sX,L.rd.length+L.qu.length<=N
variable {N:Nat}{c:kP}
def kP.Bd.mono{M:Nat}(h:c.Bd N)(T:N<=M):c.Bd M:=⟨h.len,h.nd,λf z=>by have:=h.pn f z;omega,h.at_,h.ln,h.l8,h.ld,h.hd⟩
def kG.Bd.mono{M:Nat}{H:kG}(h:H.Bd N)(T:N<=M):H.Bd M:=⟨h.c.mono T,λL hL=>oG (h.sm L hL) T⟩
def kP.Bd.wf(h:c.Bd N):c.Wf:=by
 refine⟨h.len,λf z=>(h.nd f z).sm,h.at_,?_,λk l g=>?_⟩
 .have:=FF 8 _ h.ln λt s=>by
   obtain⟨w,e,rfl⟩:=sM.1 s;exact h.l8 w e
  rw[kX]at this;omega
 .have a:=h.ld k l g;have:=FF 8 l a.1 a.2;omega
def kG.Bd.ok{H:kG}(h:H.Bd N)(i:N<=90000):H.Ok:=⟨⟨h.c.wf⟩,λL hL=>oG (h.sm L hL) i,λf z=>by have:=h.c.pn f z;omega,h.c.nd,by have:=h.c.hd;omega⟩
variable {α:Type}
def Lp{l:List α}{g:α->α}{x:α}(h:x∈l.modify i g):x∈l∨ ∃y∈l,x=g y:=by
 obtain⟨j,m⟩:=Gk.1 h;rw[Gw]at m;cases k:l[j]? with
 |none=>rw[k]at m;cases m
 |some y=>
  rw[k]at m;injection m with m;subst m;dsimp only;split
  .exact .inr ⟨y,nF k,rfl⟩
  .exact .inl (nF k)
def kP.Bd.mJ{M:Nat}(h:c.Bd N)(T:N<=M)(i:Nat)(g:Fr->Fr)(t:∀f∈c.fr,(g f).nd.In/\ -(M:Int)<=(g f).pins/\(g f).pins<=M):(c.mJ i g).Bd M:=by
 have len:(c.mJ i g).fr.length=c.fr.length:=by simp[kP.mJ]
 refine⟨by rw[len];exact h.len,λf z=>?_,λf z=>?_,λk j w=>by rw[len];exact h.at_ k j w,h.ln,h.l8,h.ld,h.hd⟩
 .rcases Lp z with q|⟨y,q,rfl⟩
  .exact h.nd f q
  .exact(t y q).1
 .rcases Lp z with q|⟨y,q,rfl⟩
  .have:=h.pn f q;omega
  .exact(t y q).2
def kP.Bd.put(h:c.Bd N)(k:Int){i:Nat}(hi:i<c.fr.length):(c.put k i).Bd N:=
 ⟨h.len,h.nd,h.pn,λj m l=>by
  unfold kP.put at l;dsimp only at l;split at l
  .injection l with l;subst l;exact hi
  .exact h.at_ j m l,h.ln,h.l8,h.ld,h.hd⟩
def F8(l:List α)(i:Int):(ym l i).Sublist l:=by
 unfold ym;split
 .have:=QL i.toNat l
  conv=>rhs;rw[<-this]
  refine List.Sublist.append (List.Sublist.refl _) ?_;rw[<-List.drop_drop];exact List.drop_sublist _ _
 .exact List.Sublist.refl _
def kP.Bd.leave(h:c.Bd N)(t:Int):(c.leave t).Bd N:=
 ⟨h.len,h.nd,h.pn,h.at_,h.ln.sublist ((F8 _ _).map _),λw e=>h.l8 w ((F8 _ _).subset e),h.ld,h.hd⟩
def kP.Bd.ask(h:c.Bd N)(w:CW)(f:0<=w.task/\w.task<8):(c.ask w).Bd N:=by
 unfold kP.ask;split
 .rename_i o;refine⟨h.len,h.nd,h.pn,h.at_,?_,λv y=>?_,h.ld,h.hd⟩
  .show((c.line++[w]).map (·.task)).Nodup
   rw[oq,J4];refine⟨h.ln,by simp,λa P b hb=>?_⟩;have e:b=w.task:=by simpa using hb
   subst e;rintro rfl;unfold kP.mm at o;exact absurd (Ov P) kh
  .rcases rJ.1 y with q|q
   .exact h.l8 v q
   .have:v=w:=by simpa using q
    subst this;exact f
 .exact h
def Tf{w:CW}(h:c.may w=true):0<=w.task/\w.task<8:=by
 unfold kP.may at h;simp only[l5,nO]at h;exact h.1.1
def abp{w:CW}(h:c.may w=true){k:Int}(x:0<=k/\k<256){l:List Int}(g:c.oE k=some l):w.task∉l:=by
 unfold kP.may at h;simp only[l5,Qy]at h;have a:=h.1.2;unfold kP.waits at a;rw[Xf]at a;have b:=a k.toNat (by rw[EP];omega);rw[show((k.toNat:Nat):Int)=k by omega,g]at b;intro T;exact b (kW (Ov T))
def kP.Bd.pin(h:c.Bd N)(t b:Int):(c.pin t b).1.Bd (N+1):=by
 unfold kP.pin;split
 .rename_i v;obtain⟨w,T⟩:=v;have s:=Tf T;have Y:∀i,(c.Bp t i).Bd (N+1):=λi=>kP.Bd.leave (h.mJ (oS N) i (λf=>{f with pins:=f.pins+1,ref:=true}) λf z=>⟨h.nd f z,by have:=h.pn f z;dsimp only;omega⟩) t;split
  .rename_i i _;split
   .split
    .exact Y _
    .refine⟨(Y i).len,(Y i).nd,(Y i).pn,(Y i).at_,(Y i).ln,(Y i).l8,λk l g=>?_,(Y i).hd⟩;unfold kP.wait at g;dsimp only at g;split at g
     .rename_i e;subst e;injection g with g;subst g;have j:(c.Bp t i).oE k=c.oE k:=rfl;rw[j];cases m:c.oE k with
      |none=>exact⟨by simp,by simpa using s⟩
      |some l=>
       have d:=h.ld k l m;refine⟨?_,λu hu=>?_⟩
       .rw[Option.getD_some,J4];refine⟨d.1,by simp,λa P b hb=>?_⟩;have e:b=t:=by simpa using hb
        subst e;rintro rfl;exact abp T w m P
       .rcases rJ.1 hu with q|q
        .exact d.2 u q
        .have e:u=t:=by simpa using q
         subst e;exact s
     .exact h.ld k l g
   .exact h.mono (oS N)
  .split
   .exact(h.ask _ s).mono (oS N)
   .rename_i i hi
    have n:i<c.fr.length:=by
     unfold kP.vw at hi;split at hi
     .exact(Dm.1 hi).1
     .cases hi
    exact kP.Bd.put (kP.Bd.mJ (h.leave t) (oS N) i _ λf z=>⟨pD,by dsimp only;omega⟩) b (by simpa[kP.mJ,kP.leave]using n)
 .exact h.mono (oS N)
def kP.Bd.BU(h:c.Bd N)(k:Int):(c.BU k).Bd (N+1):=by
 unfold kP.BU;split
 .split
  .split
   .exact h.mono (oS N)
   .exact h.mJ (oS N) _ _ λf z=>⟨h.nd f z,by have:=h.pn f z;dsimp only;omega⟩
  .exact h.mono (oS N)
 .exact h.mono (oS N)
def kP.Bd.set(h:c.Bd N)(k:Int){n:Nd}(B:n.In):(c.set k n).Bd N:=by
 unfold kP.set;split
 .exact h.mJ (kK N) _ _ λf z=>⟨B,h.pn f z⟩
 .exact h
def TH:Fr.empty.nd.In:=pD
def kP.Bd.tf(l:List Nat):∀{c:kP},c.Bd N->(c.tf l Fr.empty).Bd N:=by
 induction l with
 |nil=>exact λh=>h
 |cons i l y=>
  intro c h;exact y (c:=c.mJ i λ_=>Fr.empty) (h.mJ (kK N) i _ λf z=>⟨TH,by simp[Fr.empty]⟩)
def kP.Bd.nS(h:c.Bd N)(t:Int):(c.nS t).Bd N:=h.tf _
def kP.Bd.claim(h:c.Bd N)(t:Int):(c.claim t).Bd (N+1):=by
 unfold kP.claim;split
 .rename_i T;split
  .exact(h.ask _ (Tf T)).mono (oS N)
  .exact kP.Bd.mJ (h.leave t) (oS N) _ _ λf z=>⟨pD,by dsimp only;omega⟩
 .exact h.mono (oS N)
def kP.Bd.name(h:c.Bd N)(t k:Int){n:Nd}(B:n.In):(c.name t k n).Bd N:=by
 unfold kP.name;split
 .split
  .rename_i i hi;have T:i∈c.ma t:=Ze hi
   have m:i<c.fr.length:=by
    unfold kP.ma at T;exact EP.1 (tr.1 T).1
   exact kP.Bd.put (h.mJ (kK N) i _ λf z=>⟨B,by dsimp only;omega⟩) k (by simpa[kP.mJ]using m)
  .exact h
 .exact h
def kP.Bd.fill(h:c.Bd N)(k:Int){n:Nd}(B:n.In):(c.fill k n).Bd N:=by
 unfold kP.fill;split
 .rename_i i _;have g:=h.mJ (kK N) i (λf=>{f with st:=2,nd:=n}) λf z=>⟨B,h.pn f z⟩;refine⟨g.len,g.nd,g.pn,g.at_,g.ln,g.l8,λj l m=>?_,g.hd⟩;dsimp only at m;split at m
  .cases m
  .exact h.ld j l m
 .exact h
theorem KT(v:List Bool)(n f:Nat)(B:0<n)(z:f<n):∀(k i:Nat) (left:List Bool),(pG v n f k i left).1<n/\0<=(pG v n f k i left).2.1/\(pG v n f k i left).2.1<n
 |0,i,left=>by simp only[pG];omega
 |k+1,i,left=>by
  have a:=AK (f+i) B;have b:=AK ((f+i)%n+1) B;unfold pG;split
  .split
   .exact KT v n f B z k (i+1) _
   .dsimp only;omega
  .exact KT v n f B z k (i+1) _
def akH(v c:List Bool)(n:Int):0<=(Iq v c n).2.1/\(Iq v c n).2.1<=v.length/\((Iq v c n).1<v.length∨(Iq v c n).1<0):=by
 unfold Iq;split
 .simp
 .rename_i h;have hn:0<v.length:=eY
  have a: -(v.length:Int)<n.tmod v.length:=by have:=Int.lt_tmod_of_pos n (show(0:Int)<v.length by omega);omega
  have b:n.tmod v.length<v.length:=AN n kh;have k:(n.tmod v.length+v.length).tmod v.length<v.length:=AN _ kh;have:=KT v v.length ((n.tmod v.length+v.length).tmod v.length).toNat hn kh (2*v.length) 0 c;omega
def kP.Bd.me(h:c.Bd N):c.me.1.Bd N:=by
 unfold kP.me;split
 .exact h
 .split
  .exact h
  .rename_i f z;have o:=akH (c.fr.map Fr.can) (c.fr.map (·.ref)) c.hand
   have d:∀g∈((c.fr.mapIdx λi f=>{f with ref:=c.Ha.2.2.getD i false}).set c.Ha.1.toNat Fr.empty),g=Fr.empty∨ ∃f∈c.fr,g.nd=f.nd/\g.pins=f.pins:=λg t=>by
    rcases xg t with q|q
    .obtain⟨i,hi,rfl⟩:=List.mem_mapIdx.1 q;exact .inr ⟨_,ng hi,rfl,rfl⟩
    .exact .inl q
   refine⟨by simpa using h.len,λg t=>?_,λg t=>?_,λk i w=>?_,h.ln,h.l8,h.ld,?_⟩
   .rcases d g t with rfl|⟨f,z,e,_⟩
    .exact TH
    .rw[e];exact h.nd f z
   .rcases d g t with rfl|⟨f,z,_,e⟩
    .simp[Fr.empty]
    .rw[e];exact h.pn f z
   .dsimp only at w;split at w
    .cases w
    .simpa using h.at_ k i w
   .show 0<=c.Ha.2.1/\c.Ha.2.1<=64
    unfold kP.Ha;have:=h.len;rw[kX]at o;omega
def kG.Bd.pin{H:kG}(h:H.Bd N)(t k:Int):(H.pin t k).1.Bd (N+1):=by
 unfold kG.pin;split
 .exact⟨h.c.pin t k,λL hL=>JH (h.sm L hL)⟩
 .exact h.mono (oS N)
def kG.Bd.load{H:kG}(h:H.Bd N)(t k:Int):(H.load t k).1.Bd N:=by
 unfold kG.load;split
 .exact⟨h.c.fill k (Yh H k),h.sm⟩
 .exact h
def P4(L:nT)(t:Int)(w:Bool):(L.take t w).rd.length+(L.take t w).qu.length<=L.rd.length+L.qu.length+1:=by
 unfold nT.take;split
 .split
  .unfold nT.nS;split
   .dsimp only;omega
   .simp only[lA,List.length_cons,n5,q8];omega
  .simp only[lA,List.length_cons,List.length_nil];omega
 .omega
theorem FM:∀(n:Nat) (L:nT),(nT.Tk n L).1.rd.length+(nT.Tk n L).1.qu.length<=L.rd.length+L.qu.length
 |0,L=>kK _
 |n+1,L=>by
  unfold nT.Tk;split
  .exact kK _
  .rename_i w q c;split
   .have a:=FM n (({L with qu:=q}:nT).nS w.1 w.2);refine oG a ?_;rw[c];unfold nT.nS;split
    .dsimp only;simp only[List.length_cons];omega
    .simp only[lA,List.length_cons,n5,q8];omega
   .exact kK _
def P5(L:nT)(t:Int):(L.drop t).1.rd.length+(L.drop t).1.qu.length<=L.rd.length+L.qu.length:=by
 unfold nT.drop;split
 .exact kK _
 .refine oG (FM _ _) ?_;unfold nT.out;have a:=(F8 L.rd (lF L.rd t)).length_le;have b:=(F8 L.qu (L.wq t)).length_le;dsimp only;omega
def kG.Bd.take{H:kG}(h:H.Bd N)(t k:Int)(w:Bool):(H.take t k w).Bd (N+1):=by
 unfold kG.take;split
 .split
  .rename_i i _ L hL;refine⟨h.c.mono (oS N),λM P=>?_⟩;rcases xg P with q|q
   .exact JH (h.sm M q)
   .subst q;have:=P4 L t w;have:=h.sm L (nF hL);omega
  .exact h.mono (oS N)
 .exact h.mono (oS N)
def kG.Bd.leave{H:kG}(h:H.Bd N)(t k:Int):(H.leave t k).1.Bd (N+1):=by
 unfold kG.leave;split
 .split
  .rename_i i _ L hL;split
   .refine⟨h.c.BU k,λM P=>?_⟩;rcases xg P with q|q
    .exact JH (h.sm M q)
    .subst q;have:=P5 L t;have:=h.sm L (nF hL);omega
   .exact h.mono (oS N)
  .exact h.mono (oS N)
 .exact h.mono (oS N)
def kG.Bd.set{H:kG}(h:H.Bd N)(t k:Int)(n:Nd):(H.set t k n).Bd N:=by
 unfold kG.set;split
 .rename_i z;unfold kG.fits at z;rw[l5]at z;exact⟨h.c.set k (Qh z.2),h.sm⟩
 .exact h
def kG.Bd.born{H:kG}(h:H.Bd N)(t k:Int)(n:Nd):(H.born t k n).Bd N:=by
 unfold kG.born;split
 .rename_i z;exact⟨h.c.name t k (Qh z.2),h.sm⟩
 .exact h
def kG.Bd.write{H:kG}(h:H.Bd N)(k:Int)(n:Nd):(H.write k n).Bd N:=by
 unfold kG.write;split
 .exact⟨h.c,h.sm⟩
 .exact h
def kG.Bd.Jd{H:kG}(h:H.Bd N):H.Jd.1.Bd N:=by
 unfold kG.Jd;exact kG.Bd.write (H:={H with s:=match H.s.next with|some i=>H.s.alloc i|none=>H.s}) ⟨h.c,h.sm⟩ _ _
theorem kG.Bd.yo{H:kG}(h:H.Bd N):∀n,(kG.yo n H).1.Bd N
 |0=>h
 |n+1=>(kG.Bd.yo h n).Jd
def kG.Bd.alloc{H:kG}(h:H.Bd N)(t n:Int):(H.alloc t n).1.Bd N:=by
 unfold kG.alloc;split
 .split
  .exact⟨h.c.nS t,h.sm⟩
  .exact h.yo _
 .exact h
def kG.Bd.claim{H:kG}(h:H.Bd N)(t:Int):({H with c:=H.c.claim t}:kG).Bd (N+1):=⟨h.c.claim t,λL hL=>JH (h.sm L hL)⟩
def kG.Bd.me{H:kG}(h:H.Bd N):H.me.1.Bd N:=by
 unfold kG.me;split
 .split
  .exact kG.Bd.write (H:={H with c:=H.c.me.1}) ⟨h.c.me,h.sm⟩ _ _
  .exact⟨h.c.me,h.sm⟩
 .exact⟨h.c.me,h.sm⟩
def OE(c:kP)(t:Int):(c.claim t).fr.length=c.fr.length:=by
 unfold kP.claim;split
 .split
  .unfold kP.ask;split<;>rfl
  .simp[kP.mJ,kP.leave]
 .rfl
noncomputable def qP.step(w:qP)(H:kG):qP×kG:=
 if w.pc=6∨H.may w.t=false then(w,H)
 else if w.pc=1 then(if(H.pin w.t w.block).2=1∨(H.pin w.t w.block).2=2 then {w with pc:=3,pinned:=true}else if(H.pin w.t w.block).2=3 then {w with pc:=2,pinned:=true}else w,(H.pin w.t w.block).1)
 else if w.pc=2 then({w with pc:=3},(H.load w.t w.block).1)
 else if w.pc=3 then({w with pc:=if w.above=true then 4 else 5},H.take w.t w.block false)
 else if w.pc=4 then({w with pc:=5,above:=false},(H.leave w.t w.parent).1)
 else w.look H
theorem adM{U:u0}{w:World}{B:nE}{H:Hp}{x:AV}:∀{o C:List AV} {c:List Value},qQ U w (o++x::C) B H c-> ∃D,Rd U w x B H D/\ ∀X,Rd U w X B H D->qQ U w (o++X::C) B H c
 | [],C,c,k=>by
  simp only[List.nil_append,qQ]at k⊢;obtain⟨c1,c2,e,f,k2⟩:=k;exact⟨c1,f,λX h=>⟨c1,c2,e,h,k2⟩⟩
 |y::o,C,c,k=>by
  simp only[List.cons_append,qQ]at k⊢;obtain⟨c1,c2,e,f,k2⟩:=k;obtain⟨D,a,b⟩:=adM k2;exact⟨D,a,λX h=>⟨c1,c2,e,f,b X h⟩⟩
def Rp(x g:Nat)(H:List (Nat×Bx)):Bool:=H.all λp=>Nat.beq p.1 g||(Nat.beq p.1 x||(qA p.2).all λq=> !Nat.beq q g)
def Rp.all{x:Nat}{H:List (Nat×Bx)}(h:Rp x g H=true):∀j n,kV j H=some n->j≠g->j≠x->g∉qA n:=λj n i k l T=>by
 have h1:=mq.1 h _ (mI i);simp only[wu]at h1;rcases h1 with h1|h1|h1
 .exact k (mi h1)
 .exact l (mi h1)
 .have:=mq.1 h1 g T;simp at this
section
variable {T:List (Nat×AV)}{H:List (Nat×Bx)}{c:Code}
theorem UA(l:nz)(gb g:Nat)(pre post:List AV){m n len:Nat}{e:TypeId}{G:List AV}(T':List (Nat×AV))(L:∀b,¬E.E3 b)(x:kV 4999 H=some (.ext (Sg X)))(d:kV gb H=some (.var (.agg m (pre++ .own g n len .row::post))))(u:kV g H=some (.own e n G))(hlo:g<1000)(hne:gb≠g)(hln:len=G.length)(hT:OV g T T')(hH:Rp gb g H=true)(Y:(ow pre++ow post).all (λq=> !Nat.beq q g)=true)
 (k:∀A cap,AW P E nt c ⟨T',(4999,.ext (Sg (X.put l (.my e n A cap G))))::VG g ((gb,.var (.agg m (pre++ .raw l [] (sv n A G.length cap)::post)))::H)⟩ Q):AW P E nt c ⟨T,H⟩ Q:=λB a w r=>by
 subst hln;have hH2:=Rp.all hH;have N:(St.h ⟨T,H⟩) g=some (.own e n G):=u;have hb':(St.h ⟨T,H⟩) gb=some (.var (.agg m (pre++ .own g n G.length .row::post))):=d;obtain⟨oj,cs,t,f,k2,k3,D⟩:=r.box gb _ hb';have k3':=k3;simp only[Rd]at k3';obtain⟨km,kr⟩:=k3';obtain⟨cx,C,Z⟩:=adM kr;simp only[Rd]at C;obtain⟨v,C,rfl⟩:=C;obtain⟨n1,n2⟩:=C.now N O;have hgb4:gb≠4999:=λe=>by rw[e,x]at d;cases d
 have hg4:g≠4999:=eY
 have hone:v.oneCell'=true:=by
  rcases(r.Bq N).2 with⟨o1,o2⟩|⟨b,cur,cp,c,o1,_⟩
  .rw[n1 o1];rfl
  .obtain⟨cu,M,cap,m2,_⟩:=n2 b o1;rw[m2];rfl
 have K:=r.store (x':=.agg m (pre++ .raw l [] v::post)) hb' f k2 ⟨O,rfl,rfl,rfl,λ_ _=>rfl⟩ k2 O (by
  simp only[Rd];exact⟨km,Z _ (by simp only[Rd];exact⟨hone,trivial⟩)⟩)
 generalize hH1:l9 (St.h ⟨T,H⟩) gb (.var (.agg m (pre++ .raw l [] v::post)))=H1 at K;have hg1:H1 g=some (.own e n G):=by rw[<-hH1,kF _ _ (pv hne)];exact u
 have hX1:H1 4999=some (.ext (Sg X)):=by rw[<-hH1,kF _ _ (pv hgb4)];exact x
 obtain⟨hpos,hbox⟩:=K.Bq hg1
 obtain⟨A,cap,S,y,J⟩:∃A cap,(A.map (·.1)=B g)/\v=sv n A G.length cap/\ ∀U:u0,(∀b o,U b o->kI E B H1 b o)->yp U w (.my e n A cap G):=by
  rcases hbox with⟨f,k2⟩|⟨b,cur,cp,c,f,k2,k3,D,k5,k6,k7,k8,k9⟩
  .subst k2;exact⟨none,0,f.symm,n1 f,λU hU=>⟨hpos,kK _,kO _,rfl⟩⟩
  .obtain⟨cu,M,cap,m2,m3,m4,m5⟩:=n2 b f;rw[k2]at M;injection M with M;injection M with M _ _;subst M
   exact⟨some (b,0),cap,f.symm,by rw[m2];simp[sv],λU hU=>⟨hpos,m3,m4,cur,c,k2,by rw[m5,oa];exact kK _,λo W=>by rw[Mg,oa];exact k6 o W,nr (nK.refl _ w) (λb o _ h=>hU b o h) n G (qt.nj _ _) k7⟩⟩
 have I:=K.nS (T':=St.t ⟨T',(4999,.ext (Sg (X.put l (.my e n A cap G))))::VG g H⟩) (xb:=.my e n A cap G) (l:=l) hX1 hg1 O L O hlo S J (λj bj i hjg=>by
  rw[<-hH1]at i;by_cases ej:j=gb
  .subst ej;rw[kB]at i;injection i with i;subst i;intro V
   have:g∈ow pre++ow post:=by
    simp only[qA,mR]at V
    have R:∀(p q:List AV),ow (p++q)=ow p++ow q:=λp q=>by
     induction p with
     |nil=>rfl
     |cons a p F=>simp only[List.cons_append,ow,F,oH]
    rw[R]at V;simpa[ow,mR]using V
   have:=mq.1 Y g this;simp at this
  .rw[kF _ _ ej]at i;exact hH2 j bj i hjg ej) (λs' z s=>.inl (hT.all _ (mI s)))
 have hfin:Hp.nS H1 g (Sg (X.put l (.my e n A cap G)))=hL ((4999,.ext (Sg (X.put l (.my e n A cap G))))::VG g ((gb,.var (.agg m (pre++ .raw l [] (sv n A G.length cap)::post)))::H)):=by
  rw[<-Wy hg4,<-hH1,y]
  congr 1
  exact(kZ _ _ _).symm
 rw[hfin]at I;exact k A cap _ a w I
end
section
variable {T:List (Nat×AV)}{H:List (Nat×Bx)}{c:Code}
def aob(x:AV):Prop:=∀U w B H c,Rd U w x B H c-> ∀U' B' H',Rd U' w x B' H' c
def agK(l:nz)(s g:Nat){x:AV}(T':List (Nat×AV))(L:∀b,¬E.E3 b)(j:kV 4999 H=some (.ext (Sg X)))(u:kV g H=some (.var x))(n:aob x)(Y:g<1000)(o:kV s T=some (.ptr g 0 []))(C:OV g T T')(G:OW g H=true)
 (k:∀b,AW P E nt c ⟨(s,lQ l b)::T',(4999,.ext (Sg (X.put l (.var b x))))::VG g H⟩ Q):AW P E nt c ⟨T,H⟩ Q:=λB a w r=>by
 obtain⟨b,cs,t,d,f,m,A⟩:=r.box g _ u;have S:g≠4999:=eY
 have I:=r.nS (T':=St.t ⟨(s,lQ l b)::T',(4999,.ext (Sg (X.put l (.var b x))))::VG g H⟩) (xb:=.var b x) (l:=l) j u O L O Y d.symm
  (λU y=>⟨cs,t,f,n _ _ _ _ _ m _ _ _⟩) (OW.all G) (λD z i=>by
   have J:St.t ⟨(s,lQ l b)::T',(4999,.ext (Sg (X.put l (.var b x))))::VG g H⟩=l9 (λk=>kV k T') s (lQ l b):=kZ _ _ _;rw[J]at i;by_cases e:D=s
   .subst e;rw[kB]at i;injection i with i;subst i
    obtain⟨v,q,p⟩:=r.tmp D _ o;rw[kJ ki]at p;obtain⟨F,V,R⟩:=p;simp only[Rd]at V;obtain⟨_,b',K,rfl⟩:=V;rw[d]at K;injection K with K;subst K
    exact .inr ⟨v,q,λU=>by rw[R];exact Bn O⟩
   .rw[kF _ _ e]at i;exact .inl (C.all _ (mI i)))
 rw[show St.h ⟨T,H⟩=hL H from rfl,Wy S]at I;exact k b _ a w I
def aa2(m:Nat)(i W:nz)(D x:List Nat)(N S:Value):aob (.agg m [.raw i D N,.raw W x S]):=λU w B H c h U' B' H'=>by
 simp only[Rd,qQ]at h⊢;exact h
end
variable {es:Nat}{ea:Bool}{y:Operand}{k k':IntKind}
section
def FB{bytes:Nat}(d:lB prog e z)(o:lK nt (some g)=true)(p:kM.ti t=some (.sl e (es+1) bytes ea))(j:kv T x=some (.v (.int k (n:Nat))))(F:kv T y=some (.v (.int k' (n:Nat))))(u:H g=none)(c:bytes*n<=140737488355328)(C:n<=9223372036854775807):
 kE prog E nt ops ⟨some g,.makeSlice t x y,ty,pos,af,gd⟩ T H [] ⟨.own g (es+1) n .row,[(g,.own e (es+1) (List.replicate n z))]⟩:=
 oC o λB T' H' a w r s D G=>by
  have X:H' g=none:=(G (g,.own e (es+1) (List.replicate n z)) ki).trans u;have R:=r.od ((s x js).trans j);have b:=r.od ((s y js).trans F);obtain⟨_,hu,Y,i,N,z1,z2,v,A,q⟩:=kM.ok t _ p;obtain⟨K,S,y1,y2,I⟩:=d;rw[z1]at y1;injection y1 with y1;subst y1
  rw[z2]at y2;injection y2 with y2;subst y2
  have J:=run_make (P:=prog) w t e i N hu z1 z2 k k' n n kh (qH _) (by rw[A];exact YS _ _ c) kh;simp only[Int.toNat_natCast,v]at J;have V:=vY (U:=kI E B H') (w:=w) (I _ _) (by rw[q];omega) n;rw[q]at V;obtain⟨m,l⟩:=r.aeP (e:=e) X (qh es) V (by rw[pj];unfold maxLen;omega);rw[zd,pj]at l;rw[zd]at m;refine⟨_,_,_,?_,m,Fw l⟩;simp[execOp,R,b,J]
end
def L4:List (BitVec 8):=List.replicate 256 0#8
def sO.new(n:Nat):sO:=⟨List.replicate n L4,List.replicate n false⟩
def Z6:lB prog 154 (.v (.pointer none)):=lR (v:=.pointer none) (n:=1) j6 λU w=>(qV O).2 O
def amv(W:kY)(i:Nat)(C:kY)(v:Value):Prop:=∃b,v= .pointer (some ⟨b,0,none⟩)/\mP i W C/\sx C i b nT.new
def kG.bare(b f:Nat):kG:=⟨kP.new f,sO.new b,List.replicate f nT.new,λ_=>none⟩
noncomputable def kG.new(b f:Nat):kG:=({kG.bare b f with s:=(sO.new b).alloc 0}:kG).write 0 ⟨true,[],[],[],[]⟩
abbrev abw(h cb J i:Nat)(A:Option (Nat×Nat))(len cap:Nat):AV:=.agg 4 [lQ (4,h) cb,lQ (13,h) J,.raw (2,h) [] (sv 1 A len cap),.raw (16,h) [] (.map (some i))]
def aaz(h:1<=n):(sO.new n).next=some 0:=by
 obtain⟨k,rfl⟩:∃k,n=k+1:=⟨n- 1,by omega⟩;unfold sO.next sO.new;simp[List.replicate_succ,List.findIdx?_cons]
section
attribute [local irreducible] kE lM AW mU lL mG mC lj lT ly kN AS lF kP.mm kP.waits kP.free BA kP.u9 mK mo kG.read lh kP.me kG.write qj lx rO oc nZ rI
def akn(X:kY)(i:Nat)(t:Int)(k:kH):mZ prog 120 [kq t,k.av] X (.hv 4998) (λC v=>∃b,v= .pointer (some ⟨b,0,none⟩)/\C=X.put (24,i) (.var b (qP.new t k).av)):=by
 refine kz func120 O ntmps120 O ki [_] O λE S N j=>?_
 repeat (first|(refine BC (24,i) (qP.new t k).av O O O O h8 (λH=>Wk.data O) ?_)|refine tT ?_)
 intro b;refine wV ?_;exact uq (v:=.pointer (some ⟨b,0,none⟩)) (.inr O) O ⟨b,rfl,rfl⟩ λ_=>⟨vl O,trivial⟩
def aad(X:kY)(i b:Nat)(w:qP)(e:Xt X i b w):mZ prog 72 [lQ (24,i) b] X (.mz [w.value.av,kA w.found]) (λC _=>C=X):=by
 have a:=e.o;unfold qP.av at a;refine kz func72 O ntmps72 O ki [_,_] O λE S N j=>?_;refine wV ?_;exact ns O (O) λ_=>⟨⟨2,_,rfl,rfl,kM.u5 O,.inl (Wk.data O)⟩,gx,trivial⟩
section
attribute [local irreducible] kG.may kG.pin kG.load kG.take kG.leave Co ta rU rV rD
def acI(X:kY)(i:Nat)(t:Int)(k:Bool):mZ prog 131 [kq t,kA k] X (.hv 4998) (λC v=>∃b,v= .pointer (some ⟨b,0,none⟩)/\C=X.put (26,i) (.var b (mT.new t k).av)):=by
 refine kz func131 O ntmps131 O ki [_] O λE S N j=>?_
 repeat (first|(refine BC (26,i) (mT.new t k).av O O O O h8 (λH=>Wk.data O) ?_)|refine MT ?_)
 exact dd
def E5(X:kY)(h d i b:Nat)(H:kG)(r:mT)(D:mY X h d H)(w:H.Ok)(I:X (26,i)=some (.var b r.av)):mZ prog 197 [lQ (26,i) b,lQ (1,h) d] X (.mz []) (λC _=>uw h d (26,i) b X (r.below H).2 (r.below H).1.av C):=by
 obtain⟨p,rfl,Z⟩:=D;have e:uw h p.b (26,i) b X H r.av X:=⟨pR.refl _ _ _,⟨p,rfl,Z⟩,I⟩;have a:=I;unfold mT.av at a;have W:=kS Dk (BP X h p H r.t r.lower Z w.w w.sm w.pn);refine kz Gi O ntmps197 O ki [] O λE S N j=>?_;refine wU ?_;intro Y y s;have K:=e.Hb ki O s;have c:=K.2.2;unfold mT.av at c;refine wU ?_;exact ns O (K.put ki _) λ_=>trivial
def RJ(X:kY)(h d i b:Nat)(H:kG)(r:mT)(D:mY X h d H)(w:H.Ok)(I:X (26,i)=some (.var b r.av)):mZ prog 198 [lQ (26,i) b,lQ (1,h) d] X (.mz []) (λC _=>uw h d (26,i) b X (r.above H).2 (r.above H).1.av C):=by
 obtain⟨p,rfl,f⟩:=D;obtain⟨t,n,A,z,lo,o,G,u,e⟩:=r;have g:uw h p.b (26,i) b X H (mT.av ⟨t,n,A,z,lo,o,G,u,e⟩) X:=⟨pR.refl _ _ _,⟨p,rfl,f⟩,I⟩;have a:=I;unfold mT.av at a;unfold mT.above;dsimp only at a⊢;refine kz func198 O ntmps198 O ki [] O λE S N j=>?_;by_cases c:z=0
 .rw[kx c];cases n
  .rw[ku ki]
   repeat (first|(refine xu 4 (uw h p.b (26,i) b X H (mT.av ⟨t,false,A,z,lo,false,G,false,e⟩)) O ((g.put ki _).put ki _) λY s=>?_;obtain⟨q,P,m⟩:=s.2.1;have k:=s.2.2;unfold mT.av at k;(have V:=kS Dk (BP Y h q H t z m w.w w.sm w.pn));rw[P]at V)|refine MT ?_)
   refine Kv iJ O λZ y l=>?_;exact⟨undef,s.Hb ki P l,trivial⟩
  .rw[kx O];refine wU ?_;exact ns O (g.put ki _) λ_=>trivial
 .rw[ku c]
  repeat (first|(refine xu 4 (uw h p.b (26,i) b X H (mT.av ⟨t,n,A,z,lo,false,G,u,e⟩)) O (g.put ki _) λY s=>?_;obtain⟨q,P,m⟩:=s.2.1;have k:=s.2.2;unfold mT.av at k;(have V:=kS Dk (BP Y h q H t z m w.w w.sm w.pn));rw[P]at V)|refine MT ?_)
  refine Kv iJ O λZ y l=>?_;exact⟨undef,s.Hb ki P l,trivial⟩
section
attribute [local irreducible] kG.set x6
def aga:mG prog 117 [] (.arr 5 1 [.fn (.func 172) [] [],.fn (.func 173) [] [],.fn (.func 174) [] [],.fn (.func 175) [] [],.fn (.func 176) [] []]):=by
 refine kL func117 O ntmps117 O ki [_] O λE S N i=>?_
 repeat (first|refine Wb (oR Kw O O) hP ?_|refine Wv (PV Kw O O O O O O O O O) hP ?_|refine wEs ?_)
 exact oY ⟨gu,trivial⟩
def U4(X:kY)(i:Nat)(t:Int)(m:lq):mZ prog 121 [kq t,m.av] X (.hv 4998) (λC v=>∃b,v= .pointer (some ⟨b,0,none⟩)/\C=X.put (25,i) (.var b ((o9.new t m).av i none))):=by
 refine kz func121 O ntmps121 O ki [_] O λE S N j=>?_
 repeat (first|(refine BC (25,i) ((o9.new t m).av i none) O O O O h8 (λH=>Wk.data O) ?_)|refine MT ?_)
 exact dd
def akm(X:kY)(h d i b:Nat)(H:kG)(w:o9)(F:BitVec 64)(D:mY X h d H)(y:H.Ok)(f:Uo X i b w):mZ prog 172 [lQ (25,i) b,lQ (1,h) d,qU F] X (kA false) (λC _=>Rt h d i b X (w.pin H).2 (w.pin H).1 C):=by
 obtain⟨rb,j,I⟩:=f;have Z:uw h d (25,i) b X H (w.av i rb) X:=⟨pR.refl _ _ _,D,j⟩;have a:=j;unfold o9.av at a;have W:=aj3 h d H w.t 0 y;unfold o9.pin;generalize H.pin w.t 0=P at W⊢;obtain⟨H',g⟩:=P;dsimp only at W⊢;refine kz func172 O ntmps172 O ki [_] O λE S N k=>?_;cases rb
 all_goals
  unfold tE at a;refine wU ?_;intro Y z s;have K:=Z.go ki s;have c:=K.2.2;unfold o9.av tE at c;have p:g=1∨g=2∨g=3∨ ¬(g=1∨g=2∨g=3):=eY;rcases p with e|e|e|e
  .subst e;rw[kx (.inl O)];exact dk
  .subst e;rw[kx (.inr O)];exact dk
  .subst e;rw[ku ki,kx O];exact dk
  .have m:¬g=1:=λx=>e (.inl x);have l:¬g=2:=λx=>e (.inr (.inl x));have U:¬g=3:=λx=>e (.inr (.inr x));rw[ku (by simp[m,l]),ku U];refine wU ?_;exact ns O (Rt.of I K) λ_=>⟨gx,trivial⟩
def ag7(X:kY)(h d i b:Nat)(H:kG)(w:o9)(F:BitVec 64)(D:mY X h d H)(x:H.Ok)(e:Uo X i b w):mZ prog 173 [lQ (25,i) b,lQ (1,h) d,qU F] X (kA false) (λC _=>Rt h d i b X (w.load H).2 (w.load H).1 C):=by
 obtain⟨rb,j,I⟩:=e;have Z:uw h d (25,i) b X H (w.av i rb) X:=⟨pR.refl _ _ _,D,j⟩;have a:=j;unfold o9.av at a;have W:=afP h d H w.t 0 x;refine kz func173 O ntmps173 O ki [_] O λE S N k=>?_;exact bs
def ag4(X:kY)(h d i b:Nat)(H:kG)(w:o9)(F:BitVec 64)(D:mY X h d H)(x:H.Ok)(e:Uo X i b w):mZ prog 174 [lQ (25,i) b,lQ (1,h) d,qU F] X (kA false) (λC _=>Rt h d i b X (w.take H).2 (w.take H).1 C):=by
 obtain⟨rb,j,I⟩:=e;have Z:uw h d (25,i) b X H (w.av i rb) X:=⟨pR.refl _ _ _,D,j⟩;have a:=j;unfold o9.av at a;have W:=afN h d H w.t 0 true x;refine kz func174 O ntmps174 O ki [_] O λE S N k=>?_;exact bs
def RG(X:kY)(h d i b:Nat)(H:kG)(w:o9)(e:Int)(D:mY X h d H)(x:H.Ok)(f:∃rb,X (25,i)=some (.var b (w.av i rb))):mZ prog 230 [lQ (25,i) b,lQ (1,h) d,kq e] X (.mz []) (λC _=>uw h d (25,i) b X (w.leave H e).2 ((w.leave H e).1.av i none) C):=by
 obtain⟨rb,j⟩:=f;have Z:uw h d (25,i) b X H (w.av i rb) X:=⟨pR.refl _ _ _,D,j⟩;have a:=j;unfold o9.av at a;have W:=Qm h d H w.t 0 x;refine kz func230 O ntmps230 O ki [] O λE S N k=>?_;cases rb
 all_goals
  unfold tE at a;refine wU ?_;intro Y y s;have K:=Z.go ki s;have c:=K.2.2;unfold o9.av tE at c;refine wU ?_;refine ns O ?_ λ_=>trivial;exact(((K.put ki _).put ki _).put ki _).put ki _
section
attribute [local irreducible] pf mT.step
def acQ(X:kY)(i:Nat)(t:Int):mZ prog 62 [kq t] X (.hv 4998) (λC v=>∃b,v= .pointer (some ⟨b,0,none⟩)/\C=X.put (27,i) (.var b ((qf.new t).av i none))):=by
 refine kz func62 O ntmps62 O ki [_] O λE S N j=>?_
 repeat (first|(refine BC (27,i) ((qf.new t).av i none) O O O O h8 (λH=>Wk.data O) ?_)|refine MT ?_)
 exact dd
def Nz(X:kY)(i b:Nat)(f:qf)(z:Jk X i b f):mZ prog 141 [lQ (27,i) b] X (kA f.rest) (λC _=>C=X):=by
 obtain⟨rb,a,_⟩:=z;unfold qf.av at a;unfold qf.rest;refine kz func141 O ntmps141 O ki [_] O λE S N j=>?_;by_cases c:f.pc=1
 .rw[kW c,xl];exact dL
 .rw[la c,yM];exact dL
def Em(X:kY)(h c i b:Nat)(H:kG)(f:qf)(g:Bool)(D:mY X h c H)(z:∃rb,X (27,i)=some (.var b (f.av i rb)))(B: -1000000000<=f.rounds/\f.rounds<=1000000000/\ -1000000000<=f.Cu/\f.Cu<=1000000000):mZ prog 77 [kA g,.ref (lQ (27,i) b)] X (.mz []) (λC _=>uw h c (27,i) b X H ((f.round g).av i none) C):=by
 obtain⟨rb,j⟩:=z;have Y:uw h c (27,i) b X H (f.av i rb) X:=⟨pR.refl _ _ _,D,j⟩;have a:=j;unfold qf.av at a;unfold qf.round;refine kz func77 O ntmps77 O ki [] O λE S N k=>?_;cases rb
 all_goals
  unfold tE at a;cases g
  .rw[ku ki];refine wU ?_;refine ns O ?_ λ_=>trivial;exact((Y.put ki _).put ki _).put ki _
  .rw[kx O];refine wU ?_;refine ns O ?_ λ_=>trivial;exact(((Y.put ki _).put ki _).put ki _).put ki _
def acP(X:kY)(h d i b:Nat)(H:kG)(f:qf)(D:mY X h d H)(w:H.Ok)(z:Jk X i b f):mZ prog 78 [lQ (27,i) b,lQ (1,h) d] X (.mz []) (λC _=>Uw h d i b X (f.pin H).2 (f.pin H).1 C):=by
 obtain⟨rb,j,I⟩:=z;have Z:uw h d (27,i) b X H (f.av i rb) X:=⟨pR.refl _ _ _,D,j⟩;have a:=j;unfold qf.av at a;have W:=aj3 h d H f.t 0 w;unfold qf.pin;generalize H.pin f.t 0=P at W⊢;obtain⟨H',g⟩:=P;dsimp only at W⊢;refine kz func78 O ntmps78 O ki [] O λE S N k=>?_;cases rb
 all_goals
  unfold tE at a;refine wU ?_;intro Y y s;have K:=Z.go ki s;have c:=K.2.2;unfold qf.av tE at c;have p:g=1∨g=2∨g=3∨ ¬(g=1∨g=2∨g=3):=eY;rcases p with e|e|e|e
  .subst e;rw[kx (.inl O)];exact ds
  .subst e;rw[kx (.inr O)];exact ds
  .subst e;rw[ku ki,kx O];exact ds
  .have m:¬g=1:=λx=>e (.inl x);have l:¬g=2:=λx=>e (.inr (.inl x));have U:¬g=3:=λx=>e (.inr (.inr x));rw[ku (by simp[m,l]),ku U];refine wU ?_;exact ns O (Uw.of I (K.put ki _)) λ_=>trivial
def amZ(X:kY)(h c:Nat)(H:kG)(D:mY X h c H)(w:H.Ok)(g:(H.look 0).1.In):mZ prog 142 [lQ (1,h) c] X (kA ((H.look 0).2&&pf (H.look 0).1)) (λC _=>C=X):=by
 obtain⟨p,rfl,I⟩:=D;have W:=lH func93 (XN X h p H 0 I w.w);generalize H.look 0=r at W g⊢;obtain⟨n,ok⟩:=r;dsimp only at W g⊢;have z:=kD func130 (IT n (Nd.NO g.sm) (λ_=>g.gd.lf.ok.bd));refine kz func142 O ntmps142 O ki [_] O λE S N i=>?_;cases ok
 .rw[yM];exact dL
 .rw[xl];exact dL
end
end
def BO(X:kY)(h d i b:Nat)(H:kG)(r:mT)(e:Int)(D:mY X h d H)(w:H.Ok)(I:X (26,i)=some (.var b r.av)):mZ prog 193 [lQ (26,i) b,lQ (1,h) d,kq e] X (.mz []) (λC _=>uw h d (26,i) b X (r.fin H e).2 (r.fin H e).1.av C):=by have W:=kS func198 (RJ X h d i b H r D w I);refine kz xf O ntmps193 O ki [] O λE S N j=>?_;refine wU ?_;intro Y y s;have c:=s.2.2;unfold mT.av at c;refine wU ?_;exact ns O ((s.put ki _).put ki _) λ_=>trivial
def KF(X:kY)(h d i b:Nat)(H:kG)(r:mT)(F:Int)(D:mY X h d H)(w:H.Ok)(I:X (26,i)=some (.var b r.av)):mZ prog 134 [lQ (26,i) b,lQ (1,h) d,kq F] X (.mz []) (λC _=>uw h d (26,i) b X (r.claim H F).2 (r.claim H F).1.av C):=by
 obtain⟨p,rfl,Z⟩:=D;have f:uw h p.b (26,i) b X H r.av X:=⟨pR.refl _ _ _,⟨p,rfl,Z⟩,I⟩;have a:=I;have j:=Z.o;unfold mT.av at a;have W:=kS func199 (acX X h p.c H.c r.t Z.c w.w.c);unfold mT.claim;refine kz JG O ntmps134 O ki [] O λE S N k=>?_;cases e:H.c.Ql r.t
 .rw[e]at W;refine wU ?_;intro Y y s;have K:=f.Hb ki O (Z.toC s (OE _ _));refine wU ?_;exact ns O (K) λ_=>trivial
 .rw[e]at W;refine wU ?_;intro Y y s;have K:=f.Hb ki O (Z.toC s (OE _ _));have c:=K.2.2;unfold mT.av at c;refine wU ?_;exact ns O (K.put ki _) λ_=>trivial
def aaf(X:kY)(h c i b:Nat)(H:kG)(r:mT)(p:Nd)(Z:p.In)(D:mY X h c H)(w:H.Ok)(I:X (26,i)=some (.var b r.av)):mZ prog 132 [lQ (26,i) b,lQ (1,h) c,p.av] X (.mz []) (λC _=>uw h c (26,i) b X (r.choose H p).2 (r.choose H p).1.av C):=by
 have W:=kD func192 (an4 p Z);have z:=kS xf (BO X h c i b H r 0 D w I);have d:uw h c (26,i) b X H r.av X:=⟨pR.refl _ _ _,D,I⟩;have a:=I;have G:=aii (n:=p);have l1:=Z.es;have l2:=Z.ks;unfold mT.av at a;unfold mT.choose;refine kz func132 O ntmps132 O ki [] O λE S N j=>?_;by_cases c1:r.upper=0/\p.leaf=true/\p.es.length<2
 .rw[kx c1];obtain⟨a1,a2,t⟩:=c1;refine wU ?_;intro Y y s;refine wU ?_;exact ns O (s) λ_=>trivial
 .rw[ku c1];by_cases c2:r.upper=0/\(p.leaf=true∨p.ks.length=4)
  .rw[kx c2];obtain⟨a1,a2⟩:=c2;cases t:p.leaf
   .have F:p.ks.length=4:=by
     rcases a2 with a2|a2
     .rw[t]at a2;cases a2
     .exact a2
    refine wU ?_;exact eN
   .have F:¬p.es.length<2:=λq=>c1 ⟨a1,t,q⟩;refine wU ?_;exact eN
  .rw[ku c2]
   have u:(r.upper=0/\p.leaf=false/\ ¬p.ks.length=4)∨ ¬r.upper=0:=by
    by_cases q:r.upper=0
    .refine .inl ⟨q,?_,λe=>c2 ⟨q,.inr e⟩⟩;cases k:p.leaf
     .rfl
     .exact absurd ⟨q,.inl k⟩ c2
    .exact .inr q
   by_cases c3:Co p<0
   .rw[kx c3];rcases u with⟨a1,a2,t⟩|a1
    all_goals
     refine wU ?_;intro Y y s;refine wU ?_;exact ns O (s) λ_=>trivial
   .rw[ku c3];obtain⟨m,T⟩:∃m:Nat,Co p=(m:Nat):=⟨(Co p).toNat,by omega⟩;rw[T]at W G c3⊢;rw[pP];have U:m<p.ks.length:=eY;rw[show p.ks.getD m 0=p.ks[m] by rw[nI,kQ U];rfl];rcases u with⟨a1,a2,t⟩|a1
    all_goals
     refine wU ?_;exact ns O ((d.put ki _).put ki _) λ_=>trivial
end
section
attribute [local irreducible] kG.may kG.pin kG.load kG.take kG.leave
def acA(X:kY)(h f i b:Nat)(H:kG)(w:qP)(D:mY X h f H)(x:H.Ok)(j:Xt X i b w)(T:w.Ok)(c:(H.c.node w.block).isSome=true/\qj lx w.k (H.nd w.block).ps<(H.nd w.block).ks.length):mZ prog 116 [lQ (24,i) b,lQ (1,h) f] X (.mz []) (λC _=>uw h f (24,i) b X (w.look H).2 (w.look H).1.av C):=by
 obtain⟨p,rfl,I⟩:=D;have W:=lH yJ (zX X h p.c H.c w.block I.c x.w.c);have P:=x.nd w.block;rw[show(H.c.node w.block).getD ⟨false,[],[],[],[]⟩=H.nd w.block from rfl]at W;have d:=j.o;have e:=I.o;unfold qP.av at d;have Y:uw h p.b (24,i) b X H w.av X:=⟨pR.refl _ _ _,⟨p,rfl,I⟩,j.o⟩;unfold qP.look qP.alD;generalize H.nd w.block=n at W P c⊢;have t:=P.gd;have l1:=t.es;have l2:=t.ks;have M:=t.ps;have r:=t.ms;have z:=kD func168 (aj7 n.ps w.k kh);refine kz func116 O ntmps116 O ki [] O λE S N k=>?_;obtain⟨c1,c2⟩:=c;rw[c1]at W;rw[kx (by simp[c1,c2])];have Z:=kD func169 (abZ n.ms w.k t.bf.DV kh);have K:n.ks.getD (qj lx w.k n.ps) 0=n.ks[qj lx w.k n.ps]:=by rw[nI,kQ c2];rfl
 cases g:rO w.k n.ms with
 |none=>
  rw[g]at Z;have o:w.down n={w with parent:=w.block,block:=n.ks[qj lx w.k n.ps],above:=true,pinned:=false,pc:=1}:=by simp only[qP.down,qP.got,g,K]
  rw[o];have Z:zV 169 [nk n.ms,w.k.av] (.mz [lq.zero.av,kA false]):=Z;refine wU ?_;refine ns O ?_ λ_=>trivial;exact((((Y.put ki _).put ki _).put ki _).put ki _).put ki _
 |some m=>
  rw[g]at Z;have Z:zV 169 [nk n.ms,w.k.av] (.mz [m.av,kA true]):=Z;have L:m.ok=true:=t.bf.ok m ((Dc t.bf.DV _ _).1 g).1;cases a:w.any
  .have o:w.down n={w with m:=m,any:=true,parent:=w.block,block:=n.ks[qj lx w.k n.ps],above:=true,pinned:=false,pc:=1}:=by simp only[qP.down,qP.got,g,a,K];simp
   rw[o];rw[a]at d;exact bZ
  .have o:w.down n={w with m:=nZ m w.m,any:=true,parent:=w.block,block:=n.ks[qj lx w.k n.ps],above:=true,pinned:=false,pc:=1}:=by simp only[qP.down,qP.got,g,a,K];simp
   rw[o];rw[a]at d;have l:=kD func170 (GW m w.m L (T a));exact bZ
end
end
section
attribute [local irreducible] kE lM AW mU lL mG mC lj lT ly kN AS
def acE(X:kY)(h n:Nat)(a:1<=n)(c:n<=256):mZ prog 105 [kq (n:Nat)] X (.mz [.hv 4998,kq 0]) (λC v=>∃p,v= .pointer (some ⟨p.b,0,none⟩)/\ry h X C/\zS C h p (sO.new n)):=by
 have c1:¬((n:Nat):Int)<1:=eY;have c2:¬((n:Nat):Int)>256:=eY;have c3:¬256<((n:Nat):Int):=eY;refine kz func105 O ntmps105 O ki [_,_] O λE S N i=>?_
 repeat (first|(refine UA (14,h) 15 11 [] [.own 13 (0+1) n .row] [(2,.ptr 15 0 []),(3,.v (.int .i64 0))] S O O O kh kh (by rw[pj]) ⟨O,rfl,rfl,rfl,trivial⟩ O O ?_;intro A cap;refine UA (15,h) 15 13 [.raw (14,h) [] (sv 256 A (List.replicate n (H3 (List.replicate 256 0#8))).length cap)] [] [(2,.ptr 15 0 []),(3,.v (.int .i64 0))] S O O O kh kh (by rw[pj]) ⟨O,rfl,rfl,rfl,trivial⟩ O O ?_;intro A2 cap2;refine agK (13,h) 2 15 [(3,.v (.int .i64 0))] S O O (aa2 _ _ _ _ _ _ _) kh O ⟨O,rfl,trivial⟩ O ?_;intro b;refine pB (l:=(14,h)) O ij (λf D r=>?_);refine pB (l:=(15,h)) O iQ (λz Z b3=>?_))|(apply Wb;(focus (first|exact FB Ry O O O O O kh kh|exact FB Nv O O O O O kh kh));(focus exact ig))|refine Wv (sI Kx O O O O O O O) hP ?_|refine XR ?_)
 obtain⟨⟨k,ob⟩,rfl⟩:∃q,A=some q:=by
  cases A with
  |none=>
   have P:=py List.length (r O).1;rw[pj]at P;simp at P;omega
  |some q=>exact⟨q,rfl⟩
 obtain⟨⟨W,Y⟩,rfl⟩:∃q,A2=some q:=by
  cases A2 with
  |none=>
   have P:=py List.length (b3 O).1;rw[pj]at P;simp at P;omega
  |some q=>exact⟨q,rfl⟩
 refine uq (v:=.pointer (some ⟨b,0,none⟩)) (.inr O) O ⟨⟨b,k,ob,cap,W,Y,cap2⟩,rfl,λl g=>?_,?_,?_,?_,?_,?_,λl g=>?_⟩ λ_=>⟨vl O,gx,trivial⟩
 .have d:l≠(13,h):=λe=>g iL;have B:l≠(14,h):=λe=>g iL;have j:l≠(15,h):=λe=>g iL;simp only[ky _ _ d,ky _ _ B,ky _ _ j]
 .rw[kC];simp only[X6,sO.new,xj];rfl
 .rw[ky _ _ ki,ky _ _ ki,kC];simp only[sO.new,xj];rfl
 .rw[ky _ _ ki,kC];simp only[sO.new,xj]
 .simp[sO.new]
 .simpa[sO.new]using c
 .rw[xe g];simp[L4]
section
attribute [local irreducible] lF kP.mm kP.waits kP.free BA kG.write kP.new sO.new
def acN(X:kY)(h nb nf:Nat)(b1:1<=nb)(b2:nb<=256)(f1:1<=nf)(f2:nf<=64)(r:X (3,h)=none):mZ prog 60 [kq (nb:Nat),kq (nf:Nat)] X (.mz [.hv 4998,kq 0]) (λC v=>(∀l,¬uZ h l->l≠(17,h)->C l=X l)/\ ∃p,v= .pointer (some ⟨p.b,0,none⟩)/\qR C h p (kG.new nb nf)):=by
 have u:=kS func105 (acE X h nb b1 b2);refine kz func60 O ntmps60 O ki [_,_] O λE S P G=>?_;refine wV ?_;rintro Y v ⟨ps,rfl,hY1,hY2⟩;have h3':Y (3,h)=none:=(hY1 _ (uy ki)).trans r;have T:=kS func106 (akx Y h nf f1 f2 h3');refine wV ?_;rintro Z v ⟨hZ1,pc,rfl,hZ2⟩
 repeat (first|(refine l7 (lL.Cs 30 (13,h) [] O) ?_;refine l7 (lL.Cs 29 (4,h) [] O) ?_;refine Rl (t:=151) (16,h) O O h8 ?_;intro rr)|(refine BC (1,h) (abw h pc.b ps.b rr none 0 0) rfl rfl rfl rfl h8 (λH=>Wk.agg (.cons (Wk.data O) (.cons (Wk.data O) (.cons Wk.raw (.cons (Wk.data O) .nil))))) ?_;intro b;refine l7 (lL.MR (2,h) 154 1 O kg) ?_)|refine tT ?_)
 refine lU (lL.Cs 6 (13,h) [] O) ?_
 refine kU (λj:Nat×(Option (Nat×Nat)×Nat)×List Nat×kY=>⟨[(6,lQ (13,h) ps.b),(10,lQ (1,h) b),(34,kq (nf:Nat)),(35,kq (j.1:Nat))],[(4999,.ext (Sg j.2.2.2))]⟩) (λj=>j.1<=nf/\j.2.2.1.length=j.1/\j.2.2.2 (1,h)=some (.var b (abw h pc.b ps.b rr j.2.1.1 (og h j.2.2.1).length j.2.1.2))/\j.2.2.2 (2,h)=some (.my 154 1 j.2.1.1 j.2.1.2 (og h j.2.2.1))/\j.2.2.2 (16,h)=some (.ob rr (ua [] 0))/\om j.2.2.2 h pc (kP.new nf)/\zS j.2.2.2 h ps (sO.new nb)/\(∀i bl,j.2.2.1[i]?=some bl->sx j.2.2.2 (64*h+i) bl nT.new)/\ ∀l,¬uZ h l->l≠(17,h)->j.2.2.2 l=X l) (λj=>nf- j.1)
  (0,(none,0),[],((Z.put (16,h) (.ob rr (ua [] 0))).put (1,h) (.var b (abw h pc.b ps.b rr none 0 0))).put (2,h) (.my 154 1 none 0 [])) ?init ed (λj o=>?_)
 case init=>
  refine⟨kO _,rfl,?_,?_,?_,?_,?_,λi bl hi=>by simp at hi,λl f k=>?_⟩
  .dsimp only;rw[ky _ _ ki,kC];rfl
  .dsimp only;rw[kC];rfl
  .dsimp only;rw[ky _ _ ki,ky _ _ ki,kC]
  .exact hZ2.off λl m=>by
    have:=x8 m;dsimp only;rw[ky _ _ (λe=>by rw[e]at this;simp at this),ky _ _ (λe=>by rw[e]at this;simp at this),ky _ _ (λe=>by rw[e]at this;simp at this)]
  .exact hY2.off λl m=>by have K:l≠(2,h):=λe=>gn;have J:l≠(1,h):=λe=>gn;have q3:l≠(16,h):=λe=>gn;dsimp only;rw[ky _ _ K,ky _ _ J,ky _ _ q3];exact hZ1 l (WU (by obtain⟨a,b,_⟩:=m;omega))
  .have K:l≠(2,h):=λe=>f iG;have J:l≠(1,h):=λe=>f iU;have q3:l≠(16,h):=λe=>f (by rw[e];exact .inl ⟨.inr (.inr O),rfl⟩);dsimp only;rw[ky _ _ K,ky _ _ J,ky _ _ q3];exact(hZ1 l λe=>f (.inr (.inl e))).trans (hY1 l λe=>f (.inr (.inr (.inl e))))
 obtain⟨j,⟨A,cap⟩,lb,W⟩:=j;obtain⟨g0,gl,g1,g2,g3,g4,g5,g6,g7⟩:=o;dsimp only at g0 gl g1 g2 g3 g4 g5 g6 g7⊢;by_cases x:j<nf
 .have hlt2:((j:Nat):Int)<((nf:Nat):Int):=by omega
  have hlen:(og h lb).length=j:=by unfold og;simp[gl]
  have hraw:∀(U:u0) (w:World) (B:nE) (H:Hp) (c:List Value),Rd U w (.hv 42) B H c-> ∀(U':u0) (w':World),Rd U' w' (.raw (10,64*h+j) [] (B.hv 42)) B0 H0 c:=λU w B H c I U' w'=>by
   simp only[Rd]at I⊢;exact I.2
  have hN1:∀X0 v,amv W (64*h+j) X0 v->X0 (1,h)=some (.var b (abw h pc.b ps.b rr A (og h lb).length cap)):=λX0 v n=>by
   obtain⟨bl,_,R,_⟩:=n;rw[R _ ki ki ki];exact g1
  have hN2:∀X0 v,amv W (64*h+j) X0 v->X0 (2,h)=some (.my 154 1 A cap (og h lb)):=λX0 v n=>by
   obtain⟨bl,_,R,_⟩:=n;rw[R _ ki ki ki];exact g2
  have dl:=kS func107 (acJ W (64*h+j))
  repeat (first|(refine G8 (id:=8) (KnX (1,h) (.var b (abw h pc.b ps.b rr A (og h lb).length cap)) 44) (ae6 g1) zD ?_)|refine tT ?_)
  repeat (first|(apply Uv;(focus (exact aex O O O O O O O));(focus exact ig))|(apply Uc2;(focus (exact kE.i (pt O O O O O dl O O)));(focus exact ig);(focus (exact YP λC y e=>by obtain⟨bl,_,R,_⟩:=e;rw[R _ ki ki ki];exact g1)))|(apply Uc2;(focus (exact kE.i (aeL (k1:=42) (N:=amv W (64*h+j)) (17,h) (λv=>.raw (10,64*h+j) [] v) Z6 O O O O O O O kg hraw)));(focus exact ig);(focus (exact YP λC y e=>by obtain⟨X0,v,b2,n1,R,_⟩:=e;rw[R,ky _ _ ki];exact hN1 _ _ n1)))|(apply Uc2;(focus (exact kE.i (Yx O O O O O hN2 ki O kh kh O)));(focus exact ig);(focus (exact YO kg)))|(apply Us2;(focus (exact kE.i (kE.anz (g:=44) O kg (aeu (λA' cap'=>abw h pc.b ps.b rr A' ((og h lb).length+1) cap') O O O O hN1 ki ki O O (λ_ _=>rfl) O))));(focus exact ig);(focus (exact YO kg)))|(first|refine And.intro jC ?_|(first|(apply Uv;(focus exact gI);(focus exact ig))|(apply Ub;(focus exact gU);(focus exact ig);(focus (exact afg kg))))))
  repeat (first|(refine xr (M:=ZP _ _ _ _ _ _ _ _ _ _) O λV y hV=>?_;obtain⟨X0,v,b3,A',cap',n1,hV⟩:=hV;obtain⟨bl,hv1,n2,n3⟩:=n1;subst hv1)|refine tT ?_)
  have ha:og h (lb++[bl])=og h lb++[.raw (10,64*h+j) [] (.pointer (some ⟨bl,0,none⟩))]:=by
   unfold og;rw[QC,<-gl];simp[LA]
  have D:∀l,l≠(1,h)->l≠(2,h)->l≠(17,h)->V l=X0 l:=λl a b c=>by rw[hV,ky _ _ a,ky _ _ b,ky _ _ c]
  have F:∀l,l≠(1,h)->l≠(2,h)->l≠(17,h)-> ¬(10<=l.1/\l.1<=12/\l.2=64*h+j)->V l=W l:=λl a b c d=>(D l a b c).trans (n2 l (λe=>d jX) (λe=>d jX) λe=>d jX);refine⟨(j+1,(A',cap'),lb++[bl],V),⟨x,by simp[gl],?_,?_,?_,?_,?_,?_,?_⟩,by dsimp only;omega,ed⟩
  .dsimp only;rw[hV,kC,ha,lA];rfl
  .dsimp only;rw[hV,ky _ _ ki,kC,ha]
  .exact(F _ ki ki ki ki).trans g3
  .exact g4.off λl m=>F l (λe=>by have:=x8 m;rw[e]at this;simp at this) (λe=>by have:=x8 m;rw[e]at this;simp at this) (λe=>by have:=x8 m;rw[e]at this;simp at this) (λe=>by have:=x8 m;omega)
  .exact g5.off λl m=>F l (λe=>by rw[e]at m;exact absurd m (uy ki)) (λe=>by rw[e]at m;exact absurd m (uy ki)) (λe=>by rw[e]at m;exact absurd m (uy ki)) (λe=>absurd m (uy kh))
  .intro i bi hi;by_cases e:i<j
   .rw[pF kh]at hi;exact(g6 i bi hi).off (F _ ki ki ki jY) (F _ ki ki ki jY) (F _ ki ki ki jY)
   .rw[o7 kh,gl]at hi
    have z:i- j=0:=by have:=(mS.1 hi).1;simpa using this
    have e3:i=j:=eY;subst e3;rw[z]at hi;injection hi with hi;subst hi;exact n3.off (D _ ki ki ki) (D _ ki ki ki) (D _ ki ki ki)
  .intro l f k;exact(F l (λe=>f iU) (λe=>f iG) k (λe=>f (.inr (.inr (.inr ⟨e.1,e.2.1,by omega⟩))))).trans (g7 l f k)
 .have hlt2:¬((j:Nat):Int)<((nf:Nat):Int):=by omega
  obtain rfl:j=nf:=eY;refine pB O g2 λp1 p2 p3=>?_
  obtain⟨⟨bl,ol⟩,rfl⟩:∃q,A=some q:=by
   cases A with
   |none=>
    have R:=py List.length (p3 O).1;have z:lb.length=0:=by simpa[og]using R
    omega
   |some q=>exact⟨q,rfl⟩
  have da:=kS func108 (RI W h ps (sO.new nb) g5);rw[aaz b1]at da;dsimp only[Option.getD_some,Option.isSome_some]at da;refine wV ?_;rintro V v ⟨hV1,hV2⟩;have y:∀l,¬MB h l->V l=W l:=hV1
  have hR:qR V h ⟨b,pc,ps,bl,ol,cap,lb,rr,0,[]⟩ {kG.bare nb j with s:=(sO.new nb).alloc 0}:=by
   refine⟨(y _ (uy ki)).trans g1,(y _ (uy ki)).trans g2,(y _ (uy ki)).trans g3,Xx.nil,λ_=>rfl,g4.off λl m=>y l (uy (by have:=x8 m;omega)),hV2,?_,?_,λi L c f k=>?_⟩
   .show(List.replicate j nT.new).length=(kP.new j).fr.length
    unfold kP.new;simp
   .show lb.length=(List.replicate j nT.new).length
    simp[gl]
   .have hL:L=nT.new:=xe (nF f);subst hL;exact(g6 i c k).off (y _ (uy ki)) (y _ (uy ki)) (y _ (uy ki))
  have hnz:(⟨true,[],[],[],[]⟩:Nd).Sm:=⟨by simp,by simp,by simp,by simp⟩;have dw:=kS func84 (KG V h ⟨b,pc,ps,bl,ol,cap,lb,rr,0,[]⟩ {kG.bare nb j with s:=(sO.new nb).alloc 0} 0 ⟨true,[],[],[],[]⟩ hnz hR);refine wV ?_;refine l7 (lL.wk 55 (Nd.av ⟨true,[],[],[],[]⟩) O O O (λH=>Wk.agg (.cons (Wk.data O) (.cons Wk.nil (.cons Wk.nil (.cons Wk.nil (.cons Wk.nil .nil))))))) ?_;refine wV ?_;rintro U v2 ⟨hU1,p',R,hU2⟩;refine wV ?_;refine uq (v:=.pointer (some ⟨b,0,none⟩)) (.inr O) O ⟨λl f k=>?_,p',?_,hU2⟩ λ_=>⟨vl O,gx,trivial⟩
  .exact(hU1 l f).trans ((y l λe=>f (.inr (.inr (.inl e)))).trans (g7 l f k))
  .rw[R]
end
end
