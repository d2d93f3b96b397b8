/- Part of the proof, without conditions. -/
import Derived.Test.YtfkhhohdgeckdaaGreatP42
import Derived.Test.YtfkhhohdgeckdaaGreatP34
namespace Go.Proofs.YtfkhhohdgeckdaaGreat
open Go RowKit Proofs.Tryz
set_option linter.all false
set_option maxRecDepth 100000
set_option maxHeartbeats 16000000
def He:lB prog 95 (.v .nilIface):=lR (v:=.nilIface) (n:=1) j6 λU w=>(qV O).2 O
noncomputable def lX.fresh(c:MI):lX:=⟨kG.new c.blocks.toNat c.uM.toNat,ox.new (c.ops.length+c.mN.toNat+1),c.ops.map λl=>⟨l,0,none,none⟩,(List.range c.mN.toNat).map λi=>qf.new ((c.ops.length+i:Nat):Int),c.ops,[],1#64,0⟩
noncomputable def lX.new(c:MI):lX:=(lX.fresh c).tell
abbrev M6(h c:Nat)(ops:List (List qn))(A:Option (Nat×Nat))(len cap:Nat):AV:=.agg 7 [lQ (1,h) c,.v (.pointer none),.raw (20,h) [] (sv 1 A len cap),wK ops,.raw (22,h) [] (.slice none 0 0),.v (.int .u64 1),kq 0]
structure HwR(X W:kY)(h b hb:Nat)(H:kG)(ops:List (List qn))(A:Option (Nat×Nat))(cap:Nat)(cb fb:List Nat)(cn:Nat):Prop where
 o:W (19,h)=some (.var b (M6 h hb ops A (cb.length+fb.length) cap))
 t:W (20,h)=some (.my 95 1 A cap (cb.mapIdx (R4 h)++fb.mapIdx (R3 h cn)))
 e:W (22,h)=some (.my 51 22 none 0 [])
 hl:mY W h hb H
 cl:∀i l bi,ops[i]?=some l->cb[i]?=some bi->Ux W (8*h+i) bi ⟨l,0,none,none⟩
 fl:∀i bi,fb[i]?=some bi->Jk W (8*h+(cn+i)) bi (qf.new ((cn+i:Nat):Int))
 off:pw h X W
def aiP(n:Nat)(h:n<=64):(kP.new n).Bd 0:=by
 refine⟨?_,λf z=>?_,λf z=>?_,λk i h=>kd,?_,λw e=>(by cases e),λk l h=>kd,?_⟩
 .show(List.replicate n Fr.empty).length<=64
  rw[pj];exact h
 .rw[xe z];exact pD
 .rw[xe z];exact⟨by decide,by decide⟩
 .exact QH
 .exact⟨by show(0:Int)<=0;omega,by show(0:Int)<=64;omega⟩
def FV(b f:Nat)(h:f<=64):(kG.new b f).Bd 0:=
 kG.Bd.write ⟨aiP f h,λL hL=>by rw[xe hL];decide⟩ _ _
variable {E:su}{nt:Nat}{ops:Array Oper}{T:Nat->Option AV}{H:Hp}{d:Option Nat}{ty:TypeId}{pos:String}{af:Array Edge}{gd:Option (Nat×Bool)}
section
def alh(n:lK nt d=true):kE prog E nt ops ⟨d,.build 103 #[],ty,pos,af,gd⟩ T H [] ⟨.agg 0 [],[]⟩:=
 lO n λB T' H' a w r s D=>by
  refine⟨.agg #[],?_,?_⟩
  .have e:(Instr.build 103 #[]).run prog w= .ok (.agg #[]) w:=by kernel_rfl
   simp[execOp,e]
  .rw[kJ ki];exact⟨[],by simp[Rd,qQ],rfl⟩
end
def NF(W:kY)(n i:Nat)(C:kY)(v:Value):Prop:=∃b,v= .pointer (some ⟨b,0,none⟩)/\C=W.put (27,i) (.var b ((qf.new (n:Nat)).av i none))
variable {X W:kY}{h b hb cap cn j cap2:Nat}{A A2:Option (Nat×Nat)}{cb:List Nat}
def HwR.cli{H:kG}{ops:List (List qn)}{o:Nat}{L S:XB}{l:List qn}(g:HwR X W h b hb H ops A cap cb [] cn)(w:H.Wf)(I:cb.length=j)(m:j<8)(k:ops[j]?=some l)
 (hL:L= .my 95 1 A2 cap2 ((cb++[o]).mapIdx (R4 h)++([]:List Nat).mapIdx (R3 h cn))) (n:S= .var b (M6 h hb ops A2 ((cb++[o]).length+([]:List Nat).length) cap2)):
 HwR X (((W.put (23,8*h+j) (.var o ((⟨l,0,none,none⟩:wa).av (8*h+j) none none))).put (20,h) L).put (19,h) S) h b hb H ops A2 cap2 (cb++[o]) [] cn:=by
 subst hL n;refine⟨kC _ _ _,(ky _ _ ki).trans (kC _ _ _),?_,((g.hl.put ki).put ki).put ki,λi l' s a c=>?_,λi s a=>by simp at a,λl' F=>?_⟩
 .rw[ky _ _ ki,ky _ _ ki,ky _ _ ki];exact g.e
 .by_cases e:i=j
  .subst e;rw[k]at a;injection a with a;subst a
   rw[o7 kh,I,DG]at c;injection c with c;subst c;exact⟨none,none,(ky _ _ ki).trans ((ky _ _ ki).trans (kC _ _ _)),rfl,rfl⟩
  .have hi:i<cb.length:=by
    have:=(mS.1 c).1;rw[lA]at this;simp at this;omega
   rw[pF hi]at c;obtain⟨rb,K,f,k2,k3⟩:=g.cl i l' s a c;exact⟨rb,K,by rw[ky _ _ ki,ky _ _ ki,ky _ _ jY];exact f,k2,k3⟩
 .rw[ky _ _ (λe=>F io),ky _ _ (λe=>F io),ky _ _ (λe=>F (by rw[e];exact .inr (.inr ⟨by simp,by simp,by show(8*h+j)/8=h;omega⟩)))];exact g.off l' F
variable {V:kY}{fb:List Nat}
def HwR.fls{H:kG}{ops:List (List qn)}{d:Nat}(g:HwR X W h b hb H ops A cap cb fb cn)(w:H.Wf)(r:fb.length=j)(m:cn+j<8)(I:cb.length<=cn)
 (U:∀l,l≠(19,h)->l≠(20,h)->l≠(17,h)->l≠(27,8*h+(cn+j))->V l=W l)
 (a:V (19,h)=some (.var b (M6 h hb ops A2 (cb.length+(fb++[d]).length) cap2))) (c:V (20,h)=some (.my 95 1 A2 cap2 (cb.mapIdx (R4 h)++(fb++[d]).mapIdx (R3 h cn)))) (n:V (27,8*h+(cn+j))=some (.var d ((qf.new ((cn+j:Nat):Int)).av (8*h+(cn+j)) none))):
 HwR X V h b hb H ops A2 cap2 cb (fb++[d]) cn:=by
 refine⟨a,c,?_,?_,λi l' s f k2=>?_,λi s f=>?_,λl' F=>?_⟩
 .rw[U _ ki ki ki ki];exact g.e
 .obtain⟨p,e,Y⟩:=g.hl;refine⟨p,e,Y.off w λl k=>U l (λe=>?_) (λe=>?_) (λe=>?_) (λe=>?_)⟩<;>(have:=Az k;rw[e]at this;simp at this)
 .have hi:i<cb.length:=(mS.1 k2).1;obtain⟨rb,K,q,o,Z⟩:=g.cl i l' s f k2;exact⟨rb,K,by rw[U _ ki ki ki ki];exact q,o,Z⟩
 .by_cases e:i=j
  .subst e;rw[o7 kh,r,DG]at f;injection f with f;subst f;exact⟨none,n,rfl⟩
  .have hi:i<fb.length:=by
    have:=(mS.1 f).1;rw[lA]at this;simp at this;omega
   rw[pF hi]at f;obtain⟨rb,q,o⟩:=g.fl i s f;exact⟨rb,by rw[U _ ki ki ki jY];exact q,o⟩
 .rw[U _ (λe=>F io) (λe=>F io) (λe=>F io) (λe=>F (by rw[e];exact .inr (.inr ⟨by simp,by simp,by show(8*h+(cn+j))/8=h;omega⟩)))];exact g.off l' F
def oX.fresh{r t v:Nat}{c:MI}{B E D u:Nat}(g:HwR X W h b hb (kG.new r t) c.ops A cap cb fb c.ops.length)(w:(kG.new r t).Wf)(x:c.blocks=(r:Int))(m:c.uM=(t:Int))(d:c.mN=(v:Int))(y:cb.length=c.ops.length)(fl:fb.length=v)(z:c.ops.length+v+1<=8)
 (F:V (19,h)=some (.var b (.agg 7 [lQ (1,h) hb,lQ (18,h) B,.raw (20,h) [] (sv 1 (some (E,D)) (yt h cb fb).length u),wK c.ops,.raw (22,h) [] (.slice none 0 0),.v (.int .u64 1),kq 0]))) (I:V (20,h)=some (.my 95 1 (some (E,D)) u (yt h cb fb))) (G:V (18,h)=some (.var B (ox.new (c.ops.length+v+1)).av)) (U:∀l,l≠(19,h)->l≠(20,h)->l≠(18,h)->V l=W l):
 oX V h ⟨b,hb,B,E,D,u,none,0,cb,fb⟩ (lX.fresh c)/\pw h X V:=by
 have P:c.blocks.toNat=r:=eY;have a:c.uM.toNat=t:=eY;have R:c.mN.toNat=v:=eY;refine⟨⟨?_,I,?_,?_,⟨?_⟩,?_,?_,λj c' b' f k2=>?_,λj f' b' f k2=>?_,?_⟩,λl k=>?_⟩
 .rw[F];have s:(AV.v (.int .u64 1))=qU 1#64:=by unfold qU w5;rfl
  rw[s];rfl
 .rw[U _ ki ki ki];exact g.e
 .unfold lX.fresh;dsimp only;rw[P,a];obtain⟨p,e,Y⟩:=g.hl;refine⟨p,e,Y.off w λl k=>U l (λe=>?_) (λe=>?_) (λe=>?_)⟩<;>(have:=Az k;rw[e]at this;simp at this)
 .unfold lX.fresh;dsimp only;rw[R];exact G
 .show cb.length=(c.ops.map _).length
  rw[kX];exact y
 .show fb.length=((List.range c.mN.toNat).map _).length
  rw[kX,Gj,R];exact fl
 .have f:(c.ops.map λl=>(⟨l,0,none,none⟩:wa))[j]?=some c':=f;rw[oI]at f;obtain⟨l,o,rfl⟩:=s9.1 f;obtain⟨rb,K,n,Z,T⟩:=g.cl j l b' o k2;exact⟨rb,K,by rw[U _ ki ki ki];exact n,Z,T⟩
 .have f:((List.range c.mN.toNat).map λi=>qf.new ((c.ops.length+i:Nat):Int))[j]?=some f':=f;rw[oI]at f;obtain⟨i,o,rfl⟩:=s9.1 f
  have C:i=j:=by
   have:=mS.1 o;obtain⟨_,q⟩:=this;simpa using q.symm
  subst C;have S:(lX.fresh c).cl.length=c.ops.length:=by show(c.ops.map _).length=_;rw[kX]
  rw[S];obtain⟨rb,n,Z⟩:=g.fl i b' k2;exact⟨rb,by rw[U _ ki ki ki];exact n,Z⟩
 .show(c.ops.map _).length+((List.range c.mN.toNat).map _).length+1<=8
  rw[kX,kX,Gj,R];exact z
 .rw[U _ (λe=>k io) (λe=>k io) (λe=>k io)];exact g.off l k
section
attribute [local irreducible] kE lM AW mU lL mG mC lj lT ly kN AS lF kP.mm kP.waits kP.free BA kP.u9 mK mo kG.read lh kP.me kG.write kG.may pf kG.look kG.due yt kG.new lX.tell
def RL(X:kY)(h:Nat)(c:MI)(k:c.Ok)(r:X (3,h)=none):mZ prog 24 [c.av] X (.mz [.hv 4998,kq 0]) (λC v=>∃p:va,v= .pointer (some ⟨p.b,0,none⟩)/\pw h X C/\oX C h p (lX.new c)):=by
 have kb:=k.b;have kf:=k.f;have kn:=k.n;have kr:=k.r;have ko:=k.o;obtain⟨nb,hnb⟩:∃n:Nat,c.blocks=(n:Int):=⟨c.blocks.toNat,by omega⟩;obtain⟨nf,hfr⟩:∃n:Nat,c.uM=(n:Int):=⟨c.uM.toNat,by omega⟩;obtain⟨nl,hnl⟩:∃n:Nat,c.mN=(n:Int):=⟨c.mN.toNat,by omega⟩;have a:=lH func59 (U8 X c k);have z:=kS func60 (acN X h nb nf kh kh kh kh r);unfold MI.av;rw[hnb,hfr,hnl];unfold MI.av at a;rw[hnb,hfr,hnl]at a;have ops1:∀l∈c.ops,l.length<=1000:=λl m=>by have:=(ko l m).1;omega
 refine kz func24 O ntmps24 O ki [_,_] O λE T P s=>?_;refine tB ?_;rintro Y v ⟨hY1,ph,rfl,hY2⟩;have d3:=lH func61 (acU Y c.ops kh ops1)
 repeat (first|(refine BC (19,h) (M6 h ph.b c.ops none 0 0) O O O O h8 (λH=>Wk.agg (.cons (Wk.data O) (.cons (Wk.data O) (.cons Wk.raw (.cons (Wk.data O) (.cons Wk.raw (.cons (Wk.data O) (.cons (Wk.data O) .nil)))))))) ?_;intro b;refine l7 (lL.MR (20,h) 95 1 O kg) ?_;refine l7 (lL.MR (22,h) 51 22 O kg) ?_)|(refine l7 (lL.Cs 26 (1,h) [] O) ?_;refine vd ?_)|refine vd ?_)
 refine kU (λj:Nat×(Option (Nat×Nat)×Nat)×List Nat×kY=>⟨[(1,.ptr 1 0 []),(7,lQ (19,h) b),(35,wK c.ops),(36,kq (c.ops.length:Nat)),(37,kq (j.1:Nat))],[(1,.var (.agg 4 [kq (nb:Nat),kq (nf:Nat),kq (nl:Nat),wK c.ops])),(4999,.ext (Sg j.2.2.2))]⟩) (λj=>j.1<=c.ops.length/\j.2.2.1.length=j.1/\HwR X j.2.2.2 h b ph.b (kG.new nb nf) c.ops j.2.1.1 j.2.1.2 j.2.2.1 [] c.ops.length) (λj=>c.ops.length- j.1)
  (0,(none,0),[],((Y.put (19,h) (.var b (M6 h ph.b c.ops none 0 0))).put (20,h) (.my 95 1 none 0 [])).put (22,h) (.my 51 22 none 0 [])) ?init ed (λj o=>?_)
 case init=>
  refine⟨kO _,rfl,?_⟩;dsimp only;refine⟨(ky _ _ ki).trans ((ky _ _ ki).trans (kC _ _ _)),(ky _ _ ki).trans (kC _ _ _),kC _ _ _,mY.put (mY.put (mY.put ⟨ph,rfl,hY2⟩ ki) ki) ki,λi l bi k1 k2=>(by simp at k2),λi bi k1=>(by simp at k1),λl m=>?_⟩;rw[ky _ _ (λe=>m io),ky _ _ (λe=>m io),ky _ _ (λe=>m io)];exact hY1 l (λe=>m (.inl e)) (λe=>m io)
 obtain⟨j,⟨A,cap⟩,cb,W⟩:=j;obtain⟨g0,gl,g⟩:=o;dsimp only at g0 gl g⊢;have u:=g.o;have t:=g.t;have hol:(c.ops.map qW).length=c.ops.length:=kX _;rw[show(cb.length+([]:List Nat).length)=(cb.mapIdx (R4 h)++([]:List Nat).mapIdx (R3 h c.ops.length)).length by simp]at u;unfold wK;by_cases d:j<c.ops.length
 .have hlt2:j<(c.ops.map qW).length:=by omega
  have hoj:(c.ops.map qW)[j]?=some (qW c.ops[j]):=by rw[oI,kQ d];rfl
  have D:(cb.mapIdx (R4 h)++([]:List Nat).mapIdx (R3 h c.ops.length)).length=j:=by simp[gl]
  repeat (first|(refine BC (23,8*h+j) ((⟨c.ops[j],0,none,none⟩:wa).av (8*h+j) none none) O O O O h8 (λH=>Wk.data O) ?_;intro bi)|refine Vb (qo He rfl rfl rfl rfl rfl rfl rfl rfl) hP ?_|(refine ZK rfl rfl rfl rfl gF rfl (kK _) (KY (uz kM rfl)) iO iO rfl h8 λA2 cap2 hA2=>?_)|refine vd ?_)
  have hwf:(kG.new nb nf).Wf:=((FV nb nf kh).ok kh).w;refine⟨(j+1,(A2,cap2),cb++[bi],((W.put (23,8*h+j) (.var bi ((⟨c.ops[j],0,none,none⟩:wa).av (8*h+j) none none))).put (20,h) ?L).put (19,h) ?S),⟨?h1,?h2,HwR.cli g hwf gl kh (kQ d) ?hL ?hS⟩,?mu,?sub⟩
  case sub=>(refine lL.sub ⟨?_,?_,?_⟩<;>repeat' (first|exact True.intro|rfl|apply And.intro))
  case h1=>exact d
  case h2=>show(cb++[bi]).length=j+1;rw[lA,gl];rfl
  case mu=>dsimp only;omega
  case hL=>rw[nQ];simp[QC,R4,gl]
  case hS=>simp[M6,gl]
 .obtain rfl:j=c.ops.length:=by omega
  have hlt2:¬c.ops.length<(c.ops.map qW).length:=eY;have hlt3:¬((c.ops.length:Nat):Int)<(c.ops.length:Nat):=eY;refine tB ?_
  refine kU (λj:Nat×(Option (Nat×Nat)×Nat)×List Nat×kY=>⟨[(7,lQ (19,h) b),(56,kq (nl:Nat)),(57,kq (j.1:Nat))],[(4999,.ext (Sg j.2.2.2))]⟩) (λj=>j.1<=nl/\j.2.2.1.length=j.1/\HwR X j.2.2.2 h b ph.b (kG.new nb nf) c.ops j.2.1.1 j.2.1.2 cb j.2.2.1 c.ops.length) (λj=>nl- j.1)
   (0,(A,cap),[],W) ⟨kO _,rfl,g⟩ ed (λj o=>?_)
  clear u t g;obtain⟨j,⟨A,cap⟩,fb,W⟩:=j;obtain⟨f0,fl,g⟩:=o;dsimp only at f0 fl g⊢;have u:=g.o;have t:=g.t;have D:(cb.mapIdx (R4 h)++fb.mapIdx (R3 h c.ops.length)).length=c.ops.length+j:=by simp[gl,fl]
  rw[show(cb.length+fb.length)=(cb.mapIdx (R4 h)++fb.mapIdx (R3 h c.ops.length)).length by simp]at u;by_cases d:j<nl
  .have hlt2:((j:Nat):Int)<((nl:Nat):Int):=by omega
   generalize hxs:cb.mapIdx (R4 h)++fb.mapIdx (R3 h c.ops.length)=G at u t D;have dl:=kS func62 (acQ W (8*h+(c.ops.length+j)) (G.length:Nat))
   have hraw:∀(U:u0) (w:World) (B:nE) (H:Hp) (c0:List Value),Rd U w (.ifc 100 (.agg 1 [.hv 69])) B H c0-> ∀(U':u0) (w':World),Rd U' w' (.ifc 100 (.agg 1 [.raw (27,8*h+(c.ops.length+j)) [] (B.hv 69)])) B0 H0 c0:=λU w B H c0 I U' w'=>by
    simp only[Rd,qQ]at I⊢;obtain⟨c1,⟨h1,c2,c3,rfl,⟨_,h2,rfl⟩,rfl⟩,rfl⟩:=I;exact⟨_,⟨h1,_,_,rfl,⟨h2,rfl⟩,rfl⟩,rfl⟩
   repeat (first|(refine G8 (id:=15) (KnX (19,h) (.var b (M6 h ph.b c.ops A G.length cap)) 73) (ae6 u) zD ?_)|refine vd ?_)
   have hN1:∀X0 v,NF W G.length (8*h+(c.ops.length+j)) X0 v->X0 (19,h)=some (.var b (M6 h ph.b c.ops A G.length cap)):=λX0 v n=>by
    obtain⟨bl,_,rfl⟩:=n;exact(ky _ _ ki).trans u
   have hN2:∀X0 v,NF W G.length (8*h+(c.ops.length+j)) X0 v->X0 (20,h)=some (.my 95 1 A cap G):=λX0 v n=>by
    obtain⟨bl,_,rfl⟩:=n;exact(ky _ _ ki).trans t
   repeat (first|(apply Uv;(focus (first|exact aex O O O O O O O|exact kE.i (S5 O O O)|exact kE.i (FE O O O jC)));(focus exact ig))|(apply Uc2;(focus (exact kE.i (pt O O O O O dl O O)));(focus exact ig);(focus (exact YP λC y e=>hN1 _ _ e)))|(apply Uc2;(focus (exact kE.i (aeL (k1:=69) (N:=NF W G.length (8*h+(c.ops.length+j))) (17,h) (λv=>.ifc 100 (.agg 1 [.raw (27,8*h+(c.ops.length+j)) [] v])) He O O O O O O O kg hraw)));(focus exact ig);(focus (exact YP λC y e=>by obtain⟨X0,v,b2,n1,R,_⟩:=e;rw[R,ky _ _ ki];exact hN1 _ _ n1)))|(apply Uc2;(focus (exact kE.i (Yx O O O O O hN2 ki O kh kh O)));(focus exact ig);(focus (exact YO kg)))|(apply Us2;(focus (exact kE.i (kE.anz (g:=73) O kg (aeu (λx f=>M6 h ph.b c.ops x (G.length+1) f) O O O O hN1 ki ki O O (λ_ _=>rfl) O))));(focus exact ig);(focus (exact YO kg)))|(first|refine And.intro jC ?_|(first|(apply Uv;(focus exact gI);(focus exact ig))|(apply Ub;(focus exact gU);(focus exact ig);(focus (exact afg kg))))))
   repeat (first|(refine xr (M:=ZP _ _ _ _ _ _ _ _ _ _) O λV y hV=>?_;obtain⟨X0,v,b3,x,f,n1,hV⟩:=hV;obtain⟨bl,hv1,n2⟩:=n1;subst hv1)|refine vd ?_)
   have hwf:(kG.new nb nf).Wf:=((FV nb nf kh).ok kh).w;have hxl:G.length=cb.length+fb.length:=by rw[D,gl,fl]
   refine⟨(j+1,(x,f),fb++[bl],V),⟨?f1,?f2,HwR.fls g hwf fl kh kh (λl u t K q4=>?f3) ?f4 ?f5 ?f6⟩,?f7,?f8⟩
   case f8=>(refine lL.sub ⟨?_,?_,?_⟩<;>repeat' (first|exact True.intro|rfl|apply And.intro))
   case f1=>exact d
   case f2=>show(fb++[bl]).length=j+1;rw[lA,fl];rfl
   case f7=>dsimp only;omega
   case f3=>
    dsimp only;rw[hV,ky _ _ u,ky _ _ t,ky _ _ K,n2,ky _ _ q4]
   case f4=>
    dsimp only;rw[hV,kC,hxl,lA];rfl
   case f5=>
    dsimp only;rw[hV,ky _ _ ki,kC,<-hxs,QC,oH];simp[R3,fl]
   case f6=>
    dsimp only;rw[hV,ky _ _ ki,ky _ _ ki,ky _ _ ki,n2,kC,D]
  .obtain rfl:j=nl:=by omega
   have hlt2:¬((j:Nat):Int)<((j:Nat):Int):=eY;have hwf:(kG.new nb nf).Wf:=((FV nb nf kh).ok kh).w;have htk:cb.mapIdx (R4 h)++fb.mapIdx (R3 h c.ops.length)++[AV.ifc 103 (.agg 0 [])]=yt h cb fb:=by unfold yt tkE;rw[gl,oH]
   have hT:(cb.mapIdx (R4 h)++fb.mapIdx (R3 h c.ops.length)).length+[AV.ifc 103 (.agg 0 [])].length=(yt h cb fb).length:=by rw[<-htk];exact lA.symm
   have hTn:(yt h cb fb).length=c.ops.length+j+1:=by rw[<-hT,D];rfl
   have hsome:∀(A2:Option (Nat×Nat)) (cap2:Nat),(A2=none->yt h cb fb= []/\cap2=0)-> ∃q,A2=some q:=λA2 cap2 p=>by
    cases A2 with
    |none=>have:=py List.length (p O).1;rw[hTn]at this;simp at this
    |some q=>exact⟨q,rfl⟩
   have F:(lX.fresh c).H.Ok:=(FV _ _ kh).ok kh;have htb:(lX.fresh c).tb.Wf:=⟨⟨by show 1<=c.ops.length+c.mN.toNat+1;omega,by show c.ops.length+c.mN.toNat+1<=8;omega⟩,rfl,rfl,rfl⟩;refine tB ?_
   repeat (first|refine Vv (alh O) hP ?_|refine Vv (FE O O O jC) hP ?_|refine Vb (qo He O O O O O O O O) hP ?_|(refine ZK O O O O gF O (kK _) (KY (uz kM O)) iO iO O h8 λA2 cap2 hA2=>?_)|(refine xu 18 (λZ=>Z (19,h)=some (.var b (M6 h ph.b c.ops A2 (yt h cb fb).length cap2))/\Z (20,h)=some (.my 95 1 A2 cap2 (yt h cb fb))/\ ∀l,l≠(19,h)->l≠(20,h)->Z l=W l) O ⟨(kC _ _ _).trans (by rw[hT];rfl),((ky _ _ ki).trans (kC _ _ _)).trans (by rw[nQ,htk]),λl J r2=>(ky _ _ J).trans (ky _ _ r2)⟩ λZ hZ=>?_;obtain⟨z1,z2,z3⟩:=hZ;refine pB O z2 λp1 p2 p3=>?_;obtain⟨⟨bt,ot⟩,rfl⟩:=hsome _ _ p3;have dt:=kS func63 (akq Z h (yt h cb fb).length kh kh))|refine vd ?_)
   rintro V v ⟨tb,rfl,rfl⟩
   repeat (first|(refine l7 (lL.Cs 96 (18,h) [] O) ?_;refine vd ?_)|(refine xu 21 (λV=>oX V h ⟨b,ph.b,tb,bt,ot,cap2,none,0,cb,fb⟩ (lX.fresh c)/\pw h X V) O (oX.fresh g hwf hnb hfr hnl gl fl kh (kC _ _ _) ((ky _ _ ki).trans ((ky _ _ ki).trans z2)) ((ky _ _ ki).trans ((kC _ _ _).trans (by rw[hTn]))) (λl J r2 r3=>(ky _ _ J).trans ((ky _ _ r3).trans (z3 l J r2)))) λV hV=>?_;obtain⟨v1,v2⟩:=hV;have du:=kS func40 (Hh V h _ _ v1 F htb))|refine vd ?_)
   rintro V2 v ⟨o1,p',R,hR'⟩;refine tB ?_;refine uq (v:=.pointer (some ⟨b,0,none⟩)) (.inr O) O ⟨p',by rw[R],v2.trans o1,hR'⟩ λ_=>⟨vl O,gx,trivial⟩
end
