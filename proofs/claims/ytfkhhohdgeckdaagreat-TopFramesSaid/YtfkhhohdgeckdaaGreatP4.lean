/- Part of the proof, without conditions. -/
import Derived.Test.YtfkhhohdgeckdaaGreatP2
namespace Go.Proofs.YtfkhhohdgeckdaaGreat
open Go RowKit Proofs.Tryz
set_option linter.all false
set_option maxRecDepth 100000
set_option maxHeartbeats 16000000
variable {E:su}{nt:Nat}{ops:Array Oper}{T:Nat->Option AV}{H:Hp}{d:Option Nat}{ty:TypeId}{pos:String}{af:Array Edge}{gd:Option (Nat×Bool)}
variable {α:Type}
section
def YA(f:α->AV){t e:TypeId}{es bytes:Nat}{P:Bool}{x y:Operand}{k k':IntKind}{n:Nat}{g:Nat}(o:lK nt (some g)=true)(p:kM.ti t=some (.sl e (es+1) bytes P))(j:kv T x=some (.v (.int k 0)))(F:kv T y=some (.v (.int k' (n:Nat))))(u:H g=none)(c:bytes*n<=140737488355328)(B:n<=9223372036854775807):
 kE prog E nt ops ⟨some g,.makeSlice t x y,ty,pos,af,gd⟩ T H [] ⟨.sl (some g) (es+1) (([]:List α).map f),[(g,.tail e (es+1) ([]:List α).length)]⟩:=aec kM o p j F u c B
end
def qk(s:ByteArray):kH×Int:=if s.size<=8 then(vh (tq s),0)else(kH.zero,2)
def zZ(s:ByteArray):Vl×Int:=if s.size<=16 then(vX (tq s),0)else(Vl.zero,2)
def ae5(o:qn):Bool:=decide (8<o.key.size)||(decide (o.kind=1)&&decide (16<o.val.size))
def Tm:kH.zero.ok=true:=by
 rw[kH.rm];exact⟨by decide,by decide,by decide⟩
def afa(s:ByteArray):(qk s).1.ok=true:=by
 unfold qk;split
 .exact aeV _ iY
 .exact Tm
def ahp(s:ByteArray):(zZ s).1.ok=true:=by
 unfold zZ;split
 .exact YH _ iY
 .exact Vl.XD
def zC(o:qn):lq:=⟨o.kind,0#64,(qk o.key).1,if o.kind=1 then(zZ o.val).1 else Vl.zero,if o.kind=3 then o.add else 0#64⟩
variable {R:Prop}
def wM{Q:Prop}(k:R)(h:zT R->Q:=by intro kHid;(repeat (first|refine Ip ?_|(first|(apply Wv;(focus (first|exact oB O O|exact vW O O O O iP|exact wg O O O O iP|exact tl O O O|exact vV O O O|exact xV O O O|exact xU O O|exact rW O O O kh|exact xZ O O O kh|exact uh O O O kh|exact sG O O O kh|exact vf O O O kh|exact Cm O O O kh|exact Ck O O O kh|exact t6 O O O kg O|exact vI O O O|exact vH O O O|exact Ao O O O|exact qx O O O O j5|exact An O O O|exact wh O O O O kh|exact wi O O O O kh|exact uF O O O O kh|exact uG O O O O kh|exact sH O O O O O O O kh kh|exact sI q9 O O O O O O O|exact sI tv O O O O O O O|exact wQ O O O|exact zc O O|exact t5 O O O O O|exact vb O O O O O O O|exact y7 O O O|exact BN O O O O O O O O O|exact Cn O O O O O O|exact Cl O O O kh|exact FD O O O kh));(focus exact ig))|(apply Wb;(focus (first|exact zB O O O O|exact xY O O O O O iu iO iO|exact xW O O O O O iu iO iO|exact xX O O O O O iu iO iO|exact y6 O O O|exact xH O O O O O O O O O|exact tQ O O O|exact oR q9 O O|exact oR tv O O|exact qo tv O O O O O O O O|exact qo q9 O O O O O O O O));(focus exact ig))|(apply Ws;(focus (exact nX kM (d:=none) O O O O O O O O O O));(focus exact ig))|(refine sN gS O ?_)|refine Mx O O iK ?_|refine My O O iK ?_|(refine Mz O O jh ?_)|(refine tc _ j5 ?_))));exact kHid.out):Q:=h ⟨k⟩
def Qn(s:ByteArray):AD s=(tq s).map lN:=by
 unfold AD tq;rw[QK];refine Kb λb _=>?_;simp only[Function.comp,lN,rB];rfl
def aa7{m:Nat}(b:Vector (BitVec 8) m)(J:List (BitVec 8))(h:J.length<=m):(BF b J).toList=J++b.toList.drop J.length:=by
 apply List.ext_getElem
 .simp;omega
 .intro i a d;have hi:i<m:=by simpa using a
  rw[Vector.getElem_toList,xQ b J i hi];by_cases c:i<J.length
  .rw[List.getElem_append_left c,kQ c];rfl
  .rw[List.getElem_append_right kh,pN kh];simp[show J.length+(i- J.length)=i by omega]
variable {t e:TypeId}{tn len es g off:Nat}{ea:Bool}{x:Operand}{p:List Nat}
variable {y:Operand}{cap:Nat}{z z' src:AV}
section
def S6(n:lK nt d=true)(o:kM.ti t=some (.arr tn (len+1) es ea e))(j:kv T x=some (.ptr g off p))(i:Nat.blt len 9223372036854775807=true):
 kE prog E nt ops ⟨d,.slice t x none none none,ty,pos,af,gd⟩ T H [] ⟨.seg g off es p (len+1) (len+1),[]⟩:=
 Ez kM n o j (show se T none (len+1) (len+1)from rfl) (kK _) jU
def abk{tx:TypeId}{bytes:Nat}{m:Nat}{b:Vector (BitVec 8) m}{J:List (BitVec 8)}(n:lK nt d=true)(o:kM.ti t=some (.sl e 1 bytes ea))(j:kv T x=some (.seg g off 1 p m cap))(F:kv T y=some src)(I:Ic prog 1 src (J.map lN))
 (u:H g=some (.var z)) (X:sU p z=some (E7 b)) (U:tj p z=off) (f:xM (E7 (BF b J)) p z=some z') (q:J.length<=m):
 kE prog E nt ops ⟨d,.call {callee:=.builtin .copy,args:= #[x,y],argTypes:= #[t,tx]},ty,pos,af,gd⟩ T H [g] ⟨.v (.int .i64 (J.length:Nat)),[(g,.var z')]⟩:=by
 have K:min (J.map lN).length m=J.length:=fX
 have h:=Js kM (E:=E) (nt:=nt) (ops:=ops) (T:=T) (H:=H) (d:=d) (ty:=ty) (pos:=pos) (af:=af) (gd:=gd) (x:=x) (y:=y) (t:=t) (tx:=tx) (g:=g) (off:=off) (len:=m) (cap:=cap) (m:=m) (p:=p) (z:=z) (z':=z') (src:=src) (G:=b.toList.map lN) (J:=J.map lN) n o j F I u X U ki (by
  rw[K];rw[<-f,E7,aa7 b J q,oq,DF];rw[pO ki])
 rw[K]at h;exact h
def aia{tx:TypeId}{bytes:Nat}{m:Nat}{b:Vector (BitVec 8) m}{s:ByteArray}(n:lK nt d=true)(o:kM.ti t=some (.sl e 1 bytes ea))(j:kv T x=some (.seg g off 1 p m cap))(F:kv T y=some (.v (.string s)))
 (u:H g=some (.var z)) (X:sU p z=some (E7 b)) (U:tj p z=off) (f:xM (E7 (BF b (tq s))) p z=some z') (q:s.size<=m):
 kE prog E nt ops ⟨d,.call {callee:=.builtin .copy,args:= #[x,y],argTypes:= #[t,tx]},ty,pos,af,gd⟩ T H [g] ⟨.v (.int .i64 (s.size:Nat)),[(g,.var z')]⟩:=by
 have h:=abk (E:=E) (nt:=nt) (ops:=ops) (ty:=ty) (pos:=pos) (af:=af) (gd:=gd) (tx:=tx) n o j F (by rw[<-Qn];exact ads) u X U f (by rw[rT];exact q);rw[rT]at h;exact h
end
section
def aib{s:TypeId}{l:ByteArray}(p:prog.underlying s=some .string)(u:prog.underlying t=some (.slice e))(L:prog.underlying e=some (.int .u8))(n:lK nt d=true)(j:kv T x=some (.v (.string l)))(g:l.size<=maxLen):
 kE prog E nt ops ⟨d,.convert s t x,ty,pos,af,gd⟩ T H [] ⟨.sl none 1 ((tq l).map lN),[]⟩:=
 oC n λB T' H' a w r N D f=>by
  have W:=r.od ((N x js).trans j);have v:=run_bytes_of_string (P:=prog) w s t e l p u L;have V:=DJ w l.size 0 e;have y:=DK w l.size 0 e g;have I:mg E nt B T' H' a (w.drew.alloc (.cells (bytesRow l (grownCap w l.size 0 e)) e ((bytesRow l (grownCap w l.size 0 e)).size,(bytesRow l (grownCap w l.size 0 e)).size+1))):=r.drew.ext ((pr.refl _).alloc _);refine⟨_,_,B,by simp only[execOp,W,Sem.run_bind,v];rfl,I,?_⟩;have U:((tq l).map lN).length=l.size:=by rw[kX,rT]
  rw[kJ ki];refine⟨[.slice (some ⟨w.heap.size,0,none⟩) l.size (grownCap w l.size 0 e)],?_,rfl⟩;simp only[Rd];refine⟨some ⟨w.heap.size,0,none⟩,grownCap w l.size 0 e,by rw[U],by rw[U];exact V,y,λ_=>?_,λt u=>(by cases u)⟩;have M:(w.drew.alloc (.cells (bytesRow l (grownCap w l.size 0 e)) e ((bytesRow l (grownCap w l.size 0 e)).size,(bytesRow l (grownCap w l.size 0 e)).size+1))).heap[w.heap.size]?=some (.cells (bytesRow l (grownCap w l.size 0 e)) e ((bytesRow l (grownCap w l.size 0 e)).size,(bytesRow l (grownCap w l.size 0 e)).size+1)):=o8 _ _;refine⟨w.heap.size,0,(tq l).map (λx=>Value.int .u8 (B8 x)),rfl,?_,λo _ _ hu=>?_,(CY _).2 O⟩
  .rw[mX M];unfold mD;rw[U,kx (by simp[bytesRow])]
   congr 1
   apply sr;simp only[bytesRow,uR,oa];have hb:tq l=l.data.toList.map (·.toBitVec):=rfl;rw[hb,QK];have q:l.size=l.data.toList.length:=rfl;rw[ZA,List.extract_eq_take_drop];simp only[Zp,Array.toList_map,Array.toList_replicate,Nat.sub_zero,A1];rw[Zk ki,pO ki];refine Kb λb _=>?_;simp only[Function.comp,rB];rfl
  .have:=r.mem.w7 hu;omega
end
def ami(G:List (BitVec 8))(h:G.length<=16):mG prog 177 [.sl none 1 (G.map lN)] (vX G).av:=λU w vs H=>by
 obtain⟨N,J,rfl,a,H⟩:=oo H;obtain rfl:=rE H;exact PI (KO N G w (Iv a) h) λw'=>dVl.rdv.2 O
def Wn(l:List mL)(ms:List lq)(j:Nat)(h:j<ms.length):tH l (ms.take (j+1))=ui (tH l (ms.take j)) ms[j]:=by
 unfold tH;rw[<-vM h,GD];rfl
def EBd(l:List mL):Prop:=∀e∈l,(0<=e.key.n/\e.key.n<=8)/\(0<=e.val.n/\e.val.n<=16)
def EOk.bd{l:List mL}(h:EOk l):EBd l:=λe L=>⟨kH.EA (h e L).1,Vl.EA (h e L).2⟩
def TJ(a b:List mL):rX (a++b)=rX a+rX b:=by simp[rX]
def OC(l:List mL)(j:Nat)(h:j<l.length):rX (l.take (j+1))=rX (l.take j)+l[j].size:=by
 rw[<-vM h,TJ];simp[rX]
theorem EBd.sum:∀{l:List mL},EBd l->2*(l.length:Int)<=rX l/\rX l<=26*(l.length:Int)
 | [],_=>fY
 |e::l,h=>by have a:=EBd.sum (l:=l) (λx j=>h x (nV _ j));have b:=h e ki;have k:rX (e::l)=e.size+rX l:=fY;unfold mL.size at k;rw[k];simp only[List.length_cons];omega
def EBd.take{l:List mL}(h:EBd l)(j:Nat):EBd (l.take j):=λe L=>h e (GC L)
def vF(s:kH->kH->Int)(l:List mL):Prop:=∀j (h:j<l.length),l[j].key.ok=true/\l[j].val.ok=true/\ ∀i (hi:i+1=j),s (l[i]'kh).key l[j].key<0
noncomputable def xa(s:kH->kH->Int)(l:List mL):Bool:= @decide (vF s l) (Classical.propDecidable _)
variable {cmp:kH->kH->Int}
def F4{l:List mL}(h:vF cmp l):xa cmp l=true:=by unfold xa;exact@kW _ (Classical.propDecidable _) h
def tL{l:List mL}(h:¬vF cmp l):xa cmp l=false:=by unfold xa;exact@la _ (Classical.propDecidable _) h
def Lf.aoL{l:List mL}(h:Lf l):vF lx l:=λj k=>⟨(h.ok _ (ng k)).1,(h.ok _ (ng k)).2,λi hi=>by
 rw[qy,CU];exact h.DV.lt kh k kh⟩
def vF.eok{l:List mL}(h:vF cmp l):EOk l:=λe L=>by
 obtain⟨j,i,rfl⟩:=vN.1 L;exact⟨(h j i).1,(h j i).2.1⟩
def nE.nS(B:nE)(g:Nat)(l:nz)(D:Option Nat):nE:=⟨λj=>if j=g then none else B j,λj=>if j=l then D else B.fx j,B.hv⟩
def Hp.nS(H:Hp)(g:Nat)(M:kY->(Nat->Value)->Prop):Hp:=λj=>if j=g then none else if j=4999 then some (.ext M)else H j
variable {B:nE}{T':Nat->Option AV}{a:Act}{w:World}
section
theorem mg.nS(r:mg E nt B T H a w){X:kY}{l:nz}{g:Nat}{bx:Bx}{xb:XB}(V:H 4999=some (.ext (Sg X)))(D:H g=some bx)(p:wN bx=true)(N:∀b,¬E.E3 b)(I:Ed bx=0)(hlo:g<1000)(hat:xb.at=B g)
 (hok:∀U:u0,(∀b o,U b o->kI E B H b o)->yp U w xb) (L:∀j bj,H j=some bj->j≠g->g∉qA bj)
 (hT:∀s x,T' s=some x->(T s=some x/\g∉mR x)∨ ∃v,a.tmps[s]?=some v/\ ∀U,qJ U w B0 H0 x v):mg E nt (B.nS g l (B g)) T' (H.nS g (Sg (X.put l xb))) a w:=by
 obtain⟨_,hB,X0,rfl,hff,F⟩:=r.nB V;have hg4:g≠4999:=λe=>by rw[e,V]at D;injection D with D;subst D;cases p
 have K:(H.nS g (Sg (X0.put l xb))) 4999=some (.ext (Sg (X0.put l xb))):=by simp[Hp.nS,pv hg4]
 have hgn:(H.nS g (Sg (X0.put l xb))) g=none:=by simp[Hp.nS]
 have hne:∀{j:Nat},j≠g->j≠4999->(H.nS g (Sg (X0.put l xb))) j=H j:=λd f=>by simp[Hp.nS,d,f]
 have bne:∀{j:Nat},j≠g->(B.nS g l (B g)) j=B j:=λd=>by simp[nE.nS,d]
 have lg:nR (H g)=true:=by rw[D];exact nG p
 have un:∀j,nR ((H.nS g (Sg (X0.put l xb))) j)=true->j≠g/\j≠4999/\nR (H j)=true:=λj h=>by
  have d:j≠g:=λe=>by rw[e,hgn]at h;cases h
  have f:j≠4999:=λe=>by rw[e,K]at h;cases h
  rw[hne d f]at h;exact⟨d,f,h⟩
 have hun:∀b o,kI E (B.nS g l (B g)) (H.nS g (Sg (X0.put l xb))) b o->kI E B H b o:=by
  rintro b o (h|⟨j,h⟩|⟨j,d,f⟩)
  .exact .inl h
  .simp only[nE.nS]at h;split at h
   .exact xJ D p h (by rw[I];exact kO _)
   .exact .inr (.inl ⟨j,h⟩)
  .obtain⟨bj,m,k2,k3⟩:=sh f;obtain⟨Z,W,q3⟩:=un j (by rw[m];exact nG k2);rw[bne Z]at d;rw[hne Z W]at f;exact .inr (.inr ⟨j,d,f⟩)
 have pic1:qt w w B B H (l9 H 4999 (.ext (Sg (X0.put l xb)))):=by
  have ne:∀{j:Nat} {bx:Bx},H j=some bx->Ap bx=true->j≠4999:=λd f e=>by
   rw[e,V]at d;injection d with d;subst d;cases f
  refine⟨λ_ _ _ h=>h,λj h=>?_,λt n len A cap h=>?_,sC (nK.refl (λ_ _=>False) w) λg' e' n' J h=>?_,λj h=>?_⟩
  .have y:j≠4999:=λe=>by rw[e,V]at h;cases h
   rw[kF _ _ y];exact h
  .obtain⟨e,k,d,f⟩:=h;exact⟨e,k,by rw[kF _ _ (ne d O)];exact d,f⟩
  .exact⟨(kF _ _ (ne h O)).trans h,rfl⟩
  .exact⟨(kF _ _ (ne h O)).trans h,rfl⟩
 have sub:∀(x:AV) {c:List Value},g∉mR x->Rd (kI E B H) w x B H c->Rd (kI E (B.nS g l (B g)) (H.nS g (Sg (X0.put l xb)))) w x (B.nS g l (B g)) (H.nS g (Sg (X0.put l xb))) c:=λx c hx h=>
  v9 (B:=B) (B':=B.nS g l (B g)) O x (λq S=>by
   have c1:q≠g:=λe=>hx (e▸S);refine⟨?_,bne c1⟩;by_cases c2:q=4999
   .subst c2;rw[K,kB]
   .rw[hne c1 c2,kF _ _ c2]) (n6 (nK.refl _ w) (λb o _ h=>hun b o h) x pic1 h)
 have fx:Fx E (B.nS g l (B g)) (H.nS g (Sg (X0.put l xb))) w:=by
  refine⟨λj b h=>?_,λj b h=>?_,λj j' b h h'=>?_,λj b i h d f=>?_⟩
  .simp only[nE.nS]at h;split at h
   .have:=r.mem.mine D p h;rw[I]at this;rcases this with k|k
    .exact .inl k
    .exact absurd k.2.1 (N b)
   .exact r.fx.mine j b h
  .simp only[nE.nS]at h;split at h
   .exact r.qp D h
   .exact r.fx.lt j b h
  .simp only[nE.nS]at h h';split at h<;>split at h'
   .rename_i m k2;rw[m,k2]
   .exact absurd h (r.fx.out _ b g h' lg)
   .exact absurd h' (r.fx.out _ b g h lg)
   .exact r.fx.inj j j' b h h'
  .obtain⟨Z,W,q3⟩:=un i d;rw[bne Z]at f;simp only[nE.nS]at h;split at h
   .exact Z (r.inj i g b q3 lg f h)
   .exact r.fx.out j b i h q3 f
 refine⟨r.nt,r.df,λs x C=>?_,λj bj y=>?_,λj y=>?_,λj j' b d f z K=>?_,r.left,λj y=>?_,fx⟩
 .rcases hT s x C with⟨d,f⟩|⟨v,d,f⟩
  .obtain⟨v,Z,W⟩:=r.tmp s x d;refine⟨v,Z,?_⟩;rcases Ec x with⟨us,rfl⟩|hx
   .rw[mW]at W⊢;obtain⟨vs,P,R⟩:=W;refine⟨vs,P,?_⟩
    have:∀(us:List AV) {vs:List Value},g∉ow us->oe (kI E B H) w us B H vs->oe (kI E (B.nS g l (B g)) (H.nS g (Sg (X0.put l xb)))) w us (B.nS g l (B g)) (H.nS g (Sg (X0.put l xb))) vs:=by
     intro us
     induction us with
     |nil=>intro vs _ h;simpa[oe]using h
     |cons u us ih=>
      intro vs L h;simp only[ow,rJ,not_or]at L;simp only[oe]at h⊢;obtain⟨c,vs',e,m,k2⟩:=h;exact⟨c,vs',e,sub u L.1 m,ih L.2 k2⟩
    exact this us (by simpa[mR]using f) R
   .rw[kJ hx]at W⊢;obtain⟨c,P,R⟩:=W;exact⟨c,sub x f P,R⟩
  .exact⟨v,d,G1 (f _)⟩
 .have d:j≠g:=λe=>by rw[e,hgn]at y;cases y
  by_cases f:j=4999
  .subst f;rw[K]at y;injection y with y;subst y
   refine⟨⟨O,by rw[bne d];exact hB⟩,X0.put l xb,rfl,λi=>?_,λi yb hi=>?_⟩
   .simp only[nE.nS];by_cases hil:i=l
    .subst hil;rw[kC,kx O];exact hat
    .rw[ky _ _ hil,ku hil];exact hff i
   .by_cases hil:i=l
    .subst hil;rw[kC]at hi;injection hi with hi;subst hi;exact hok _ hun
    .rw[ky _ _ hil]at hi;exact(F i yb hi).go (λ_ _=>rfl) (nK.refl _ w) (λb o _ h=>hun b o h)
  .rw[hne d f]at y;have hb:=r.box j bj y;have hnm:=L j bj y d;cases bj with
   |var x=>
    obtain⟨b,cs,t,m,k2,k3,Y⟩:=hb;exact⟨b,cs,t,(bne d).trans m,k2,sub x hnm k3,Y⟩
   |froz x=>
    obtain⟨b,cs,m,k2,k3,Y⟩:=hb;exact⟨b,cs,(bne d).trans m,k2,λo Z W q3=>k3 o Z W (hun b o q3),sub x hnm Y⟩
   |hid=>exact(bne d).trans hb
   |ext M=>exact absurd (r.nB y).1 f
   |tail e n k=>
    obtain⟨k0,kT,m⟩:=hb;exact⟨k0,by rw[bne d];exact kT,by rw[bne d];exact m⟩
   |own e n G=>
    obtain⟨k0,kT,m⟩:=hb;refine⟨k0,by rw[bne d];exact kT,?_⟩;rw[bne d];refine m.imp id ?_;rintro⟨b,cur,cap,c,m1,m2,m3,m4,m5,m6,m7,m8⟩;exact⟨b,cur,cap,c,m1,m2,m3,m4,m5,m6,nr (nK.refl _ w) (λb o _ h=>hun b o h) n G (qt.nj _ _) m7,m8⟩
 .by_cases d:j=g
  .simp[nE.nS,d]
  .rw[bne d];refine r.x3 j ?_;have f:j≠4999:=λe=>by rw[e,K]at y;cases y
   rw[hne d f]at y;exact y
 .obtain⟨Z,_,q3⟩:=un j d;obtain⟨q4,_,q6⟩:=un j' f;rw[bne Z]at z;rw[bne q4]at K;exact r.inj j j' b q3 q6 z K
 .by_cases d:j=g
  .subst d;exact E.lo j hlo
  .have f:j≠4999:=λe=>by rw[e,K]at y;cases y
   rw[hne d f]at y;exact r.qa j y
end
def VG(g:Nat):List (Nat×Bx)->List (Nat×Bx)
 | []=> []
 |p::l=>bif Nat.beq p.1 g||Nat.beq p.1 4999 then VG g l else p::VG g l
theorem K6(g j:Nat):∀l:List (Nat×Bx),kV j (VG g l)=if j=g∨j=4999 then none else kV j l
 | []=>by simp[VG,kV]
 |(i,b)::l=>by
  have y:=K6 g j l;simp only[VG];cases h:(Nat.beq i g||Nat.beq i 4999)
  .rw[Kk];simp only[kV];cases d:Nat.beq i j
   .simp only[cond_false];exact y
   .have:=mi d;subst this;simp only[af7]at h;have c1:¬i=g:=λe=>by subst e;simp at h
    have c2:¬i=4999:=λe=>by subst e;simp at h
    simp[c1,c2]
  .rw[cond_true,y];by_cases c:j=g∨j=4999
   .simp[c]
   .simp only[c,rL];simp only[kV];cases d:Nat.beq i j
    .rfl
    .have:=mi d;subst this;simp only[wu]at h;exact absurd (h.imp mi mi) c
def OV(g:Nat)(T:List (Nat×AV)):List (Nat×AV)->Prop
 | []=>True
 |(s,x)::l=>kV s T=some x/\(mR x).all (λq=> !Nat.beq q g)=true/\OV g T l
theorem OV.all{T:List (Nat×AV)}:∀{l:List (Nat×AV)},OV g T l-> ∀p∈l,kV p.1 T=some p.2/\g∉mR p.2
 | [],_,p,h=>fk
 |(s,x)::l,⟨a,b,k⟩,p,h=>by
  rcases mf.1 h with rfl|h
  .exact⟨a,λU=>by have:=mq.1 b g U;simp at this⟩
  .exact k.all p h
def OW(g:Nat)(H:List (Nat×Bx)):Bool:=H.all λp=>Nat.beq p.1 g||(qA p.2).all λq=> !Nat.beq q g
def OW.all{H:List (Nat×Bx)}(h:OW g H=true):∀j n,kV j H=some n->j≠g->g∉qA n:=λj n i k T=>by
 have h1:=mq.1 h _ (mI i);simp only[wu]at h1;rcases h1 with h1|h1
 .exact k (mi h1)
 .have:=mq.1 h1 g T;simp at this
variable {P:Program}{Q:Exit->St->Prop}
variable {X:kY}
section
variable {T:List (Nat×AV)}{H:List (Nat×Bx)}{c:Code}
def Wy{M:kY->(Nat->Value)->Prop}(t:g≠4999):Hp.nS (hL H) g M=hL ((4999,.ext M)::VG g H):=by
 funext j;simp only[Hp.nS,hL,kV];by_cases a:j=g
 .subst a
  have:Nat.beq 4999 j=false:=by
   cases hb:Nat.beq 4999 j
   .rfl
   .exact absurd (mi hb).symm t
  rw[kx O,this,Kk,K6];simp
 .rw[ku a];by_cases b:j=4999
  .subst b;simp
  .have:Nat.beq 4999 j=false:=by
    cases hb:Nat.beq 4999 j
    .rfl
    .exact absurd (mi hb).symm b
   rw[ku b,this,Kk,K6];simp[a,b]
def ZX(l:nz)(s g:Nat){e:TypeId}{n len:Nat}{G:List AV}(T':List (Nat×AV))(L:∀b,¬E.E3 b)(i:kV 4999 H=some (.ext (Sg X)))(t:kV g H=some (.own e n G))(K:g<1000)(p:kV s T=some (.own g n len .row))(hln:len=G.length)(D:OV g T T')(hH:OW g H=true)
 (k:∀A cap,AW P E nt c ⟨(s,.raw l [] (sv n A G.length cap))::T',(4999,.ext (Sg (X.put l (.my e n A cap G))))::VG g H⟩ Q):AW P E nt c ⟨T,H⟩ Q:=λB a w r=>by
 subst hln;have Y:(St.h ⟨T,H⟩) g=some (.own e n G):=t;obtain⟨hpos,hbox⟩:=r.Bq Y;have hg4:g≠4999:=eY;obtain⟨v,q,j⟩:=r.tmp s _ p;obtain⟨R,n2⟩:=(Fv j).now Y O
 obtain⟨A,cap,Z,y,F⟩:∃A cap,(A.map (·.1)=B g)/\v=sv n A G.length cap/\ ∀U:u0,(∀b o,U b o->kI E B (St.h ⟨T,H⟩) b o)->yp U w (.my e n A cap G):=by
  rcases hbox with⟨f,k2⟩|⟨b,cur,C,c,f,k2,k3,m,J,S,W,k8,k9⟩
  .subst k2;exact⟨none,0,f.symm,R f,λU u=>⟨hpos,kK _,kO _,rfl⟩⟩
  .obtain⟨cu,M,cap,m2,x,m4,m5⟩:=n2 b f;rw[k2]at M;injection M with M;injection M with M _ _;subst M
   exact⟨some (b,0),cap,f.symm,by rw[m2];simp[sv],λU u=>⟨hpos,x,m4,cur,c,k2,by rw[m5,oa];exact kK _,λo V=>by rw[Mg,oa];exact S o V,nr (nK.refl _ w) (λb o _ h=>u b o h) n G (qt.nj _ _) W⟩⟩
 have I:=r.nS (T':=St.t ⟨(s,.raw l [] (sv n A G.length cap))::T',(4999,.ext (Sg (X.put l (.my e n A cap G))))::VG g H⟩) (xb:=.my e n A cap G) (l:=l) i Y O L O K Z F (OW.all hH) (λN z d=>by
  have eT:St.t ⟨(s,.raw l [] (sv n A G.length cap))::T',(4999,.ext (Sg (X.put l (.my e n A cap G))))::VG g H⟩=l9 (λk=>kV k T') s (.raw l [] (sv n A G.length cap)):=kZ _ _ _;rw[eT]at d;by_cases e:N=s
  .subst e;rw[kB]at d;injection d with d;subst d
   exact .inr ⟨v,q,λU=>by rw[y];exact Bn O⟩
  .rw[kF _ _ e]at d;exact .inl (D.all _ (mI d)))
 rw[show St.h ⟨T,H⟩=hL H from rfl,Wy hg4]at I;exact k A cap _ a w I
end
variable {s:Operand}{i:Nat}{k kn:IntKind}{l:nz}{A:Option (Nat×Nat)}{G:List AV}
variable {J:List AV}
variable {tk:Nat}
section
theorem aet{tx:TypeId}{bytes m:Nat}(g:Nat)(I:kM.ti t=some (.sl e (es+1) bytes ea))(hz:lB prog e z)(C:kv T s=some (.raw l p (sv (es+1) A i cap)))(htx:prog.underlying tx=some (.int kn))(N:kv T x=some (.v (.int k (m:Nat))))
 (hX:H 4999=some (.ext (Sg X))) (y:X l=some (.my e (es+1) A cap G)) (hi:i<=G.length) (L:cap<i+m) (hlen:(i+m)*bytes<=140737488355328) (hlen2:i+m<=4611686018427387904) (K:H g=none) (F:lK nt d=true):
 kE prog E nt ops ⟨d,.call {callee:=.builtin .append,args:= #[s,x],argTypes:= #[t,tx]},ty,pos,af,gd⟩ T H [4999] ⟨.own g (es+1) (i+m) .row,[(g,.own e (es+1) (G.take i++List.replicate m z))]⟩:=
 oC F λB T' H' a w r J M hw=>by
  have hX':H' 4999=some (.ext (Sg X)):=(M 4999 ki).trans hX;have hg':H' g=none:=(hw (g,.own e (es+1) (G.take i++List.replicate m z)) ki).trans K;have h:=r.pe ((J s iV).trans C);have hev:=r.od ((J x iV).trans N);obtain⟨_,hu,hte,inf,zv,z1,z2,z3,z4,z5⟩:=kM.ok t _ I;obtain⟨i',zv',y1,y2,y3⟩:=hz;rw[z1]at y1;injection y1 with y1;subst y1
  rw[z2]at y2;injection y2 with y2;subst y2
  have V:=vY (U:=kI E B H') (w:=w) (y3 _ _) jB m;rw[z5]at V;have hml:=lG V;rw[pj]at hml;have hzc:∀n,Builtin.zeroCells zv.cells n=madeCells zv.cells (n*(es+1)):=λn=>fC;obtain⟨h0,f,u,D⟩:=r.El hX' y;have htl:(G.take i).length=i:=fA;have hel:(G.take i++List.replicate m z).length=i+m:=fy;have hcmax:∀c,grownCap w (i+m) c e<=maxLen:=λc=>DK w _ c e jp
  obtain⟨olds,hO,hold⟩:∃olds,ov (kI E B H') w (es+1) (G.take i) B0 H0 olds/\(Builtin.firstCells inf.size i (sv (es+1) A i cap)).run prog w.drew= .ok olds.toArray w.drew:=by
   cases A with
   |none=>
    obtain rfl:cap=0:=D;obtain rfl:G= []:=pE kh;exact⟨[],by simp[ov],rfl⟩
   |some A=>
    obtain⟨b,o⟩:=A;obtain⟨cur,c,v,k2,k3,k4⟩:=D;have hcl:=lG k4;have htk:=qK i k4;have htc:=lG htk;rw[htl]at htc;have S:G.length*(es+1)<=cap*(es+1):=mH _ f;have e3:(o+cap)*(es+1)=o*(es+1)+cap*(es+1):=lZ _ _ _;have e4:i*(es+1)<=G.length*(es+1):=mH _ hi;refine⟨_,htk,?_⟩;refine xm (P:=prog) w.drew inf.size i ⟨b,o*(es+1),none⟩ i cap _ (by rw[htc,z3]) ?_
    have hrow:mQ w b (o*(es+1)) (c.take (i*(es+1))).length=some (c.take (i*(es+1))).toArray:=yW v kh λq Y=>by rw[k3 q kh,yP kh]
    simpa using pg hrow
  have hol:=lG hO;rw[htl]at hol;have R:=Zn (P:=prog) w t tx ty e inf zv k kn hu htx z1 z2 (A.map λp=>⟨p.1,p.2*(es+1),none⟩) i cap olds hold m kh (by rw[z3];omega) L kh (by rw[z4];have:m*bytes<=(i+m)*bytes:=mH _ kh;omega) (Bb kh (by rw[z4];exact hlen));have hge:=DJ w (i+m) cap e
  have hsz:(olds.toArray++Builtin.zeroCells zv.cells m++Builtin.zeroCells zv.cells (grownCap w (i+m) cap e-(i+m))).size=grownCap w (i+m) cap e*(es+1):=by
   simp only[xo,xn,GU,z5,hol,<-lZ]
   congr 1;omega
  have hext:pr w (w.drew.alloc (.cells (olds.toArray++Builtin.zeroCells zv.cells m++Builtin.zeroCells zv.cells (grownCap w (i+m) cap e-(i+m))) e)):=(pr.refl w).drew.alloc _;have Z:∀j bj b,H' j=some bj->B j=some b->b<w.heap.size:=λj bj b f u=>r.qp f u
  have hreg:=(r.drew).new (g:=g) (bx:=.own e (es+1) (G.take i++List.replicate m z)) (o:=.cells (olds.toArray++Builtin.zeroCells zv.cells m++Builtin.zeroCells zv.cells (grownCap w (i+m) cap e-(i+m))) e) hg'
   ⟨qh es,Ks.none (r.qa _ hg'),.inr ⟨w.heap.size,_,grownCap w (i+m) cap e,olds++(madeCells zv.cells (m*(es+1))).toList,nq _ _ _,o8 w.drew _,hsz,by rw[hel];exact hge,hcmax cap,λo W=>by
    rw[hel,lZ,<-hol,<-hml,<-lA]at W;rw[AI (by simp[hzc]at W⊢;omega),hzc];by_cases ho':o<olds.length
    .rw[AI (by simpa using ho'),pF ho'];simp
    .rw[Q6 jY,o7 kh];simp,nr (nK.oD hext) (vT Z) _ _ (qt.nj _ _) (oi hO V),.inl r.left.size⟩⟩
  refine⟨.slice (some ⟨w.heap.size,0,none⟩) (i+m) (grownCap w (i+m) cap e),_,_,by simp only[execOp,resolve,invoke,builtin,Qz,nc,AJ,h,hev,Sem.run_bind,Sem.run_pure,Result.andThen_ok,R],hreg,Fw ⟨e,_,kB _ _ _,yd hel.symm,rfl,λ_=>⟨λh=>?_,λb hb=>?_⟩⟩⟩
  .rw[show(B.E2 g w.drew.heap.size) g=some w.drew.heap.size from nq _ _ _]at h;cases h
  .rw[show(B.E2 g w.drew.heap.size) g=some w.drew.heap.size from nq _ _ _]at hb;injection hb with hb;subst hb
   exact⟨_,o8 w.drew _,_,rfl,hge,hcmax cap,hsz⟩
def aeA{tx:TypeId}{bytes:Nat}{l:Nat}(o:kM.ti t=some (.sl e es bytes ea))(j:kv T x=some (.own g es len (.part off l)))(F:kv T y=some src)(m:H 4999=some (.ext (Sg X)))(U:IZ X es src J)
 (u:H g=some (.own e es G)) (hln:len=G.length) (p:0<len) (W:off+J.length<=len) (hyl:J.length<=l) (n:lK nt d=true):
 kE prog E nt ops ⟨d,.call {callee:=.builtin .copy,args:= #[x,y],argTypes:= #[t,tx]},ty,pos,af,gd⟩ T H [g,4999] ⟨.v (.int .i64 (J.length:Nat)),[(g,.own e es (G.take off++(J++G.drop (off+J.length))))]⟩:=
 oC n λB T' H' a w r s D k=>by
  subst hln;have Y:H' g=some (.own e es G):=(D g ki).trans u;have N:H' 4999=some (.ext (Sg X)):=(D 4999 ki).trans m;have h:=Fv (r.eval ((s x iV).trans j));obtain⟨V,C,K,Z⟩:=U E B H' w _ J.length (λl xb i=>r.El N i) (kK _) (r.eval ((s y iV).trans F));rw[nQ]at Z;obtain⟨hn1,hn2⟩:=h.now Y O;obtain⟨hpos,hbox⟩:=r.Bq Y;rcases hbox with⟨f,k2⟩|⟨b,cur,S,c,f,k2,_⟩
  .subst k2;simp at p
  .obtain⟨cu,M,cap,z,A,I,R⟩:=hn2 b f;obtain⟨v,q⟩:=r.VP (P:=prog) Y f M Z W;obtain⟨_,hu,L,_⟩:=kM.ok t _ o;have hzz:=lC L w;have hmin:Nat.min J.length l=J.length:=AX hyl;have hmin':min J.length l=J.length:=AX hyl;refine⟨.int .i64 (J.length:Nat),_,B,?_,q,by rw[nM];exact⟨O,rfl⟩⟩;simp[execOp,resolve,invoke,builtin,Builtin.copy_,z,lu hu,V,hmin,hmin',hzz,K,v,goInt]
def ah6{tx:TypeId}{bytes:Nat}(o:kM.ti t=some (.sl e es bytes ea))(j:kv T s=some (.sl (some tk) es G))(y:H tk=some (.tail e es G.length))(m:H 4999=some (.ext (Sg X)))
 (F:kv T x=some src) (I:Nt X tx es src J) (U:(G.length+J.length)*bytes<=140737488355328) (q:G.length+J.length<=9223372036854775807) (n:lK nt d=true):
 kE prog E nt ops ⟨d,.call {callee:=.builtin .append,args:= #[s,x],argTypes:= #[t,tx]},ty,pos,af,gd⟩ T H [tk,4999] ⟨.sl (some tk) es (G++J),[(tk,.tail e es (G.length+J.length))]⟩:=
 oC n λB T' H' a w r u D i=>by have Y:H' tk=some (.tail e es G.length):=(D tk ki).trans y;have p:H' 4999=some (.ext (Sg X)):=(D 4999 ki).trans m;have h:=ml ki (r.eval ((u s iV).trans j)) O;obtain⟨v,w',B',b,f,k⟩:=EL kM (ty:=ty) r o h Y (I E B H' w _ (λl xb g=>r.El p g) (r.eval ((u x iV).trans F))) (λc z=>Bb z U) q;refine⟨v,w',B',by simp[execOp,resolve,invoke,builtin,b],f,?_⟩;rw[kJ ki];exact⟨[v],k,rfl⟩
end
def wEs{Q:Prop}(k:R)(h:zT R->Q:=by intro kHid;((first|refine Ip ?_|(first|(apply Wv;(focus (first|exact oB O O|exact Lh O O|exact HH O O O O|exact Ob O O gF O O O O O|exact Li O O O|exact PO O O O|exact PM O O O O|exact Lj O O O O iF O|exact Jt O O O O j5 j7 O|exact Ju O O O j5 gE j7 O|exact qx O O O O j5|exact vW O O O O iP|exact tl O O O|exact vV O O O|exact rW O O O kh|exact uh O O O kh|exact sG O O O kh|exact vf O O O kh|exact wQ O O O|exact t5 O O O O O|exact vb O O O O O O O|exact Am O O O|exact w9 O O O O O O j5));(focus exact ig))|(apply Wb;(focus (first|exact zB O O O O|exact tQ O O O|exact Jv O O O O j5 j7 O|exact xH O O O O O O O O O));(focus exact ig))|(apply Ws;(focus (first|exact ID O O O O O gF O O O O O O O|exact nX kM (d:=none) O O O O O O O O O O));(focus exact ig))|(refine sN gS O ?_)|refine Mx O O iK ?_|refine My O O iK ?_|(refine Mz O O jh ?_)|(refine tc _ j5 ?_))));exact kHid.out):Q:=h ⟨k⟩
def wE{Q:Prop}(k:R)(h:zT R->Q:=by intro kHid;(repeat refine wEs ?_);exact kHid.out):Q:=h ⟨k⟩
def Z5:lB prog 226 (.agg 2 [kq 0,kA false]):=lR (v:=.agg #[.int .i64 0,.bool false]) (n:=2) j6 λU w=>by
 simp only[kq,kA,Rd,qQ,Value.cells];exact ee
def UI:lB prog 268 (.agg 3 [kq 0,kq 0,kA false]):=lR (v:=.agg #[.int .i64 0,.int .i64 0,.bool false]) (n:=3) j6 λU w=>by
 simp only[kq,kA,Rd,qQ,Value.cells];exact ee
variable {S:St}{v:Value}
def B4{t:Tmp}{x y:AV}(h:S.t t=some x)(n:mO x=true)(B:lS x=true)(e:x=y):MD P S v (.tmp t) y:=⟨x,h,l6 B,.inl (e▸Wk.data n)⟩
def ana{t:Tmp}{x y:AV}(h:S.t t=some x)(e:KM x=some y)(B:lS x=true):MD P S v (.tmp t) y:=⟨x,h,l6 B,.inl (RV _ _ e)⟩
variable {n:Nat}
def aaM{t:Tmp}(h:S.t t=some (.v (.slice none 0 0))):MD P S v (.tmp t) (.sl none n []):=⟨_,h,by simp,.inl Wk.nil⟩
def vl{t:Tmp}(h:S.t t=some (.raw l p v)):MD P S v (.tmp t) (.hv 4998):=⟨_,h,by simp,.inr ⟨⟨l,p,rfl⟩,rfl⟩⟩
theorem L3{d:Nat}:se T none d d:=rfl
def Jb{o:Operand}{d:Nat}{i:Int}(h:kv T o=some (.v (.int k i)))(e:i=(n:Int)):se T (some o) d n:=⟨k,i,h,e⟩
variable {hi:Operand}{lb:nz}{b h:Nat}
variable {lo:Operand}
variable {k':IntKind}
section
def PN{bytes:Nat}{i:Int}(o:kM.ti t=some (.sl e es bytes ea))(j:kv T x=some (.raw lb p (.slice (some ⟨b,off,none⟩) len cap)))(D:kv T hi=some (.v (.int k i)))(P:i=(h:Int))(c:h<=cap)(n:lK nt d=true):
 kE prog E nt ops ⟨d,.slice t x none (some hi) none,ty,pos,af,gd⟩ T H [] ⟨.raw lb p (.slice (some ⟨b,off,none⟩) h cap),[]⟩:=by
 have:=HI (E:=E) (ops:=ops) (H:=H) (ty:=ty) (pos:=pos) (af:=af) (gd:=gd) o j L3 (Jb D P) L3 ki (kO _) c (kK _) n;simpa using this
def Al{bytes:Nat}{l:Nat}{i:Int}(o:kM.ti t=some (.sl e es bytes ea))(j:kv T x=some (.raw lb p (.slice (some ⟨b,off,none⟩) len cap)))(g:kv T lo=some (.v (.int k i)))(P:i=(l:Int))(a:l<=len)(c:len<=cap)(m:l<cap)(n:lK nt d=true):
 kE prog E nt ops ⟨d,.slice t x (some lo) none none,ty,pos,af,gd⟩ T H [] ⟨.raw lb p (.slice (some ⟨b,off+l*es,none⟩) (len- l) (cap- l)),[]⟩:=by
 have:=HI (E:=E) (ops:=ops) (H:=H) (ty:=ty) (pos:=pos) (af:=af) (gd:=gd) o j (Jb g P) L3 L3 ki a c (kK _) n;rwa[ku kh]at this
def Yv{bytes:Nat}{l:Nat}{i:Int}(o:kM.ti t=some (.sl e es bytes ea))(j:kv T x=some (.raw lb p (.slice (some ⟨b,off,none⟩) len cap)))(g:kv T lo=some (.v (.int k i)))(P:i=(l:Int))(a:l=len)(c:len=cap)(n:lK nt d=true):
 kE prog E nt ops ⟨d,.slice t x (some lo) none none,ty,pos,af,gd⟩ T H [] ⟨.raw lb p (.slice (some ⟨b,off,none⟩) 0 0),[]⟩:=by
 subst a c;have:=HI (E:=E) (ops:=ops) (H:=H) (ty:=ty) (pos:=pos) (af:=af) (gd:=gd) o j (Jb g P) L3 L3 ki (kK _) (kK _) (kK _) n;simpa using this
def SX{bytes:Nat}{l:Nat}{i j:Int}(q:kM.ti t=some (.sl e es bytes ea))(m:kv T x=some (.raw lb p (.slice (some ⟨b,off,none⟩) len cap)))(g:kv T lo=some (.v (.int k i)))(P:i=(l:Int))(D:kv T hi=some (.v (.int k' j)))(f:j=(h:Int))(a:l<=h)(c:h<=cap)(n:l<cap)(o:lK nt d=true):
 kE prog E nt ops ⟨d,.slice t x (some lo) (some hi) none,ty,pos,af,gd⟩ T H [] ⟨.raw lb p (.slice (some ⟨b,off+l*es,none⟩) (h- l) (cap- l)),[]⟩:=by
 have:=HI (E:=E) (ops:=ops) (H:=H) (ty:=ty) (pos:=pos) (af:=af) (gd:=gd) q m (Jb g P) (Jb D f) L3 ki a c (kK _) o;rwa[ku kh]at this
end
def aaD{tx:TypeId}{bytes:Nat}{o c k m:Nat}(q:kM.ti tx=some (.sl e n bytes ea))(f:X l=some (.my e n (some (b,o)) cap G))(U:off=o*n+k*n)(w:k+m=G.length):Nt X tx n (.raw lb p (.slice (some ⟨b,off,none⟩) m c)) (G.drop k):=by have:=Fh (lb:=lb) (p:=p) (c:=c) (off:=off) q f (k:=k) (m:=m) (by rw[lZ];exact U) kh;rwa[pO i4]at this
def aaE{tx:TypeId}{bytes:Nat}{o c:Nat}(q:kM.ti tx=some (.sl e n bytes ea))(f:X l=some (.my e n (some (b,o)) cap G)):Nt X tx n (.raw lb p (.slice (some ⟨b,o*n,none⟩) 0 c)) []:=by have:=Fh (lb:=lb) (p:=p) (c:=c) (off:=o*n) q f (k:=0) (m:=0) ki kh;simpa using this
def F7{G:List α}(h:i<G.length):i+(G.drop (i+1)).length=G.length- 1:=by rw[q8];omega
def akC{G:List α}(h:i<G.length):(G.take i++G.drop (i+1)).length=G.length- 1:=by rw[lA,n5,q8];omega
variable {C:kY}{M:kY->Value->Prop}{rv:List ResultVar}
def BD{e:Exit}(L:e= .normal∨e= .ret)(f:kV 4999 S.H=some (.ext (Sg C)))(N:M C v)(H:Ej P S v rv J):(e= .normal∨e= .ret)/\ ∃C v,kV 4999 S.H=some (.ext (Sg C))/\M C v/\Ej P S v rv J:=⟨L,C,v,f,N,H⟩
def amt(X:kY)(n:Nat)(src:AV)(len:Nat)(zs:List AV):Prop:=∀E B H w v,(∀l xb,X l=some xb->yp (kI E B H) w xb)->qJ (kI E B H) w B H src v->(Builtin.lenOf v).run prog w= .ok len w/\ ∃f,(Builtin.firstCells n zs.length v).run prog w= .ok f.toArray w/\ov (kI E B H) w n zs B0 H0 f
def aow(h:IZ X n src J):amt X n src J.length J:=λE B H w v j y=>by obtain⟨a,f,b,k⟩:=h E B H w v J.length j (kK _) y;rw[nQ]at k;exact⟨a,f,b,k⟩
variable {j:Nat}
def adt{o c k m:Nat}(z:X l=some (.my e n (some (b,o)) cap G))(U:off=o*n+k*n)(x:k+j<=G.length):amt X n (.raw lb p (.slice (some ⟨b,off,none⟩) m c)) m ((G.drop k).take j):=λE B H w v r y=>by
 obtain⟨_,rfl⟩:=qI.1 y;obtain⟨A,a,d,cur,D,f,k2,k3,C⟩:=r l _ z;have g:=lG C;have T:((G.drop k).take j).length=j:=fQ;have s:=uY k C kh;have t:=qK j s;have R:k*n+j*n<=G.length*n:=fR;have i:G.length*n<=cap*n:=mH _ a;have S:(o+cap)*n=o*n+cap*n:=lZ _ _ _;refine⟨by simp[Builtin.lenOf],(D.drop (k*n)).take (j*n),?_,t⟩;have V:((D.drop (k*n)).take (j*n)).length=j*n:=fQ;rw[T];refine xm (P:=prog) w n j ⟨b,off,none⟩ m c _ V ?_
 have W:mQ w b off ((D.drop (k*n)).take (j*n)).length=some ((D.drop (k*n)).take (j*n)).toArray:=yW f kh λq u=>by rw[show off+q=o*n+(k*n+q) by omega,k3 _ kh,yP kh,wy]
 exact pg W
def Vw{o c k m:Nat}(f:X l=some (.my e n (some (b,o)) cap G))(U:off=o*n+k*n)(w:k+m=G.length):IZ X n (.raw lb p (.slice (some ⟨b,off,none⟩) m c)) (G.drop k):=by have:=aaF (lb:=lb) (p:=p) (c:=c) (off:=off) f (k:=k) (m:=m) (by rw[lZ];exact U) kh;rwa[pO i4]at this
section
def SY{tx:TypeId}{bytes:Nat}{o m c:Nat}(q:kM.ti t=some (.sl e es bytes ea))(j:kv T x=some (.raw lb p (.slice (some ⟨b,off,none⟩) m c)))(F:kv T y=some src)(k:H 4999=some (.ext (Sg X)))(g:X l=some (.my e es (some (b,o)) cap G))(U:off=o*es+i*es)(hi:i<=G.length)
 (K:amt X es src len J) (P:min len m=J.length) (z:i+J.length<=cap) (n:lK nt d=true):
 kE prog E nt ops ⟨d,.call {callee:=.builtin .copy,args:= #[x,y],argTypes:= #[t,tx]},ty,pos,af,gd⟩ T H [4999] ⟨.v (.int .i64 (J.length:Nat)),[(4999,.ext (Sg (X.put l (.my e es (some (b,o)) cap (G.take i++(J++G.drop (i+J.length)))))))]⟩:=
 oC n λB T' H' a w r s D f=>by
  rw[<-lZ]at U;subst U;have I:H' 4999=some (.ext (Sg X)):=(D 4999 ki).trans k;have h:=r.pe ((s x iV).trans j);obtain⟨V,A,C,M⟩:=K E B H' w _ (λl xb g=>r.El I g) (r.eval ((s y iV).trans F));obtain⟨v,u⟩:=r.amR I g M hi z;obtain⟨_,hu,L,_⟩:=kM.ok t _ q;have R:=lC L w;have N:Nat.min len m=J.length:=P;refine⟨.int .i64 (J.length:Nat),_,B,?_,u,by rw[nM];exact⟨O,rfl⟩⟩;simp[execOp,resolve,invoke,builtin,Builtin.copy_,h,lu hu,V,N,P,R,C,v,goInt]
def ah5{bytes:Nat}(q:kM.ti t=some (.sl e es bytes ea))(j:kv T x=some (.raw lb p (.slice none 0 0)))(g:kv T lo=some (.v (.int k 0)))(o:lK nt d=true):
 kE prog E nt ops ⟨d,.slice t x (some lo) none none,ty,pos,af,gd⟩ T H [] ⟨.raw lb p (.slice none 0 0),[]⟩:=
 lO o λB T' H' a w r s D=>by have I:=r.pe ((s x js).trans j);obtain⟨_,hu,L,_⟩:=kM.ok t _ q;have f:=lC L w;have R:=qs (T:=T) (T':=T') (Jb (d:=0) (n:=0) g O) (λy F=>s y im);have M:=rH (P:=prog) (isS:=true) (len:=0) (cap:=0) r R (show se T' none 0 0 from rfl) (show se T' none 0 0 from rfl) ki (kK _) (kK _) (kK _);simp only[Option.map_some,Option.map_none]at M;exact⟨.slice none 0 0,by simp[execOp,I,Instr.sliceAt,lu hu,Instr.slice,M,f],Bn rfl⟩
end
def ajS{G:List α}{t z:α}(h:i<G.length):((G.take i++List.replicate (G.length+1- i) z).take i++([t]++(G.take i++List.replicate (G.length+1- i) z).drop (i+[t].length))).take (i+1)++(G.drop i++((G.take i++List.replicate (G.length+1- i) z).take i++([t]++(G.take i++List.replicate (G.length+1- i) z).drop (i+[t].length))).drop (i+1+(G.drop i).length))=G.take i++t::G.drop i:=by have a:(G.take i).length=i:=fA;have k:((G.take i++List.replicate (G.length+1- i) z).drop (i+[t].length)).length=G.length- i:=fy;generalize (G.take i++List.replicate (G.length+1- i) z).drop (i+[t].length)=R at k;rw[QJ a];have e:G.take i++([t]++R)=(G.take i++[t])++R:=e1;have g:(G.take i++[t]).length=i+1:=fy;have n:((G.take i++[t])++R).drop (i+1+(G.drop i).length)= []:=ub (by rw[lA,g,q8];omega);rw[e,QJ g,n];simp
def anv{G:List α}{t:α}(h:i<G.length):(G.take (i+1)++((G.drop i).take (G.length- i)++G.drop (i+1+((G.drop i).take (G.length- i)).length))).take i++([t]++(G.take (i+1)++((G.drop i).take (G.length- i)++G.drop (i+1+((G.drop i).take (G.length- i)).length))).drop (i+[t].length))=G.take i++t::G.drop i:=by have P:(G.drop i).take (G.length- i)=G.drop i:=pO i4;rw[P];have a:G.drop (i+1+(G.drop i).length)= []:=ub i4;have R:(G.take (i+1)).length=i+1:=fA;rw[a,oT,Zk kh,QS,AX kh,show i+[t].length=i+1 from rfl,List.drop_left' R];rfl
section
attribute [local irreducible] kE lM AW mU lL mG mC lj lT ly kN
def abW(l:List mL)(m:lq)(h:Lf l)(T:m.key.ok=true)(w:1<=m.kind/\m.kind<=3)(g:l.length<=1000000000):mG prog 97 [pI l,m.av] (pI (ui l m)):=by
 refine kR func97 O ntmps97 O ki [_] O λE S=>?_;have c1:=IV l m.key h.DV g;have c2:=ZH (N9 (oc m.key l)).1 (N9 (oc m.key l)).2 m w;rw[abP]at c2;have k:=P1 m.key l;unfold ui;by_cases e:∃hi:oK m.key l<l.length,l[oK m.key l].key=m.key
 .obtain⟨hi,e⟩:=e;rw[ahF h.DV _ hi e];rw[YW h.DV hi e]at c2⊢;rw[Cq hi,kW e]at c1;have o:(l.drop (oK m.key l+1)).length<=l.length:=e1;generalize oK m.key l=p at c1 k hi e o⊢;have W:=kD Kc (c1);have z:=kD Kd (c2);generalize ap m (some l[p].val)=r at z⊢;have X:(l.take p).length<=l.length:=fA;cases r with
  |none=>
   have Z:zV 152 [l[p].val.av,kA true,m.av] (.mz [Vl.zero.av,kA false]):=z;rw[show l.take p++(BG m.key none++l.drop (p+1))=([]++l.take p)++l.drop (p+1)from by simp[BG]];exact bC
  |some v=>
   have Z:zV 152 [l[p].val.av,kA true,m.av] (.mz [v.av,kA true]):=z;rw[show l.take p++(BG m.key (some v)++l.drop (p+1))=(([]++l.take p)++[⟨m.key,v⟩])++l.drop (p+1)from by simp[BG]];exact a8
 .have hn:∀hi:oK m.key l<l.length,l[oK m.key l].key≠m.key:=λhi e'=>e ⟨hi,e'⟩;rw[akM h T _ hn];rw[Wz h.DV hn]at c2⊢
  have L:mG prog 151 [pI l,m.key.av] (.mz [kq (oK m.key l:Nat),kA false]):=by
   by_cases hi:oK m.key l<l.length
   .rwa[Cq hi,la (hn hi)]at c1
   .rwa[HN hi]at c1
  clear c1 hn e;generalize oK m.key l=p at L k⊢;have W:=kD Kc (L);have z:=kD Kd (c2);generalize ap m none=r at z⊢;have X:(l.take p).length<=l.length:=fA;cases r with
  |none=>
   have Z:zV 152 [Vl.zero.av,kA false,m.av] (.mz [Vl.zero.av,kA false]):=z;rw[show l.take p++(BG m.key none++l.drop (p))=([]++l.take p)++l.drop (p)from by simp[BG]];exact bC
  |some v=>
   have Z:zV 152 [Vl.zero.av,kA false,m.av] (.mz [v.av,kA true]):=z;rw[show l.take p++(BG m.key (some v)++l.drop (p))=(([]++l.take p)++[⟨m.key,v⟩])++l.drop (p)from by simp[BG]];exact a8
def agh(s:ByteArray):mG prog 118 [Ps s] (.mz [(qk s).1.av,kq (qk s).2]):=by
 refine kR func118 O ntmps118 O ki [_,_] O λE S=>?_;unfold qk;by_cases h:s.size<=8
 .have p:¬(8:Int)<(s.size:Nat):=by omega
  rw[kx h];refine wM ?_;apply Wv;(focus (exact S6 O O O O));(focus exact ig);refine wM ?_;apply Wb;(focus (exact aia (b:=kH.zero.b) O O O O O O O O h));(focus exact ig);refine wM ?_
  have e:(vh (tq s)).av= .agg 9 [.v (.int .i64 s.size),E7 (BF kH.zero.b (tq s))]:=by
   unfold vh kH.av;rw[rT,<-C0];rfl
  rw[e];exact oY ⟨gu,gr,trivial⟩
 .have p:(8:Int)<(s.size:Nat):=by omega
  rw[ku h];exact dI
def ai6(s:ByteArray):mG prog 119 [Ps s] (.mz [(zZ s).1.av,kq (zZ s).2]):=by
 refine kR func119 O ntmps119 O ki [_,_] O λE S=>?_;unfold zZ;by_cases h:s.size<=16
 .have p:¬(16:Int)<(s.size:Nat):=by omega
  rw[kx h];have x:=ami (tq s) (by rw[rT];exact h);have c1:=kD func177 (x);refine wM ?_;apply Wv;(focus (exact aib uU s8 pz O O jp));(focus exact ig);exact dI
 .have p:(16:Int)<(s.size:Nat):=by omega
  rw[ku h];exact dI
def OO(l:List mL)(ms:List lq)(h:Lf l)(T:∀m∈ms,m.ok=true)(g:l.length<=100000000)(k:ms.length<=100000000):mG prog 51 [pI l,nk ms] (pI (tH l ms)):=by
 refine kR func51 O ntmps51 O ki [_] O λE S=>?_;refine wB ?_;refine kU (λj:Nat=>⟨[(0,pI (tH l (ms.take j))),(7,nk ms),(8,kq ms.length),(9,kq j)],[]⟩) (λj=>j<=ms.length) (λj=>ms.length- j) 0 (kO _) ed (λj i=>?_);have U:=DM (ms.take j) l;rw[n5]at U;have B:=ae2 (ms:=ms.take j) h (λm F=>T m (GC F));by_cases c:j<ms.length
 .have n:=lq.spec (T ms[j] (ng c));have o:=Wn l ms j c;have W:=kD func97 (abW (tH l (ms.take j)) ms[j] B n.2.2.1 ⟨n.1,n.2.1⟩ kh);exact cK
 .obtain rfl:j=ms.length:=by omega
  exact dR
def Ms(e:mL)(h:(0<=e.key.n/\e.key.n<=8)/\(0<=e.val.n/\e.val.n<=16)):mG prog 296 [e.av] (kq e.size):=by
 refine kR func296 O ntmps296 O ki [_] O λE S=>?_;unfold mL.size;exact dW
def IW(l:List mL)(h:EBd l)(g:l.length<=100000000):mG prog 295 [pI l] (kq (rX l)):=by
 refine kR func295 O ntmps295 O ki [_] O λE S=>?_;refine wB ?_;refine kU (λj:Nat=>⟨[(6,pI l),(7,kq l.length),(8,kq j),(3,kq (rX (l.take j)))],[]⟩) (λj=>j<=l.length) (λj=>l.length- j) 0 (kO _) ed (λj i=>?_);have hb:=(h.take j).sum;rw[n5]at hb;by_cases c:j<l.length
 .have o:=OC l j c;have L:=h l[j] (ng c);have d:l[j].size=2+l[j].key.n+l[j].val.n:=rfl;have W:=kD func296 (Ms l[j] L);exact cK
 .obtain rfl:j=l.length:=by omega
  rw[nQ];exact dW
def aaj(X:kY)(l:nz)(A:Option (Nat×Nat))(cap i:Nat)(G:List AV)(f:X l=some (.my 3 1 A cap G))(hi:i<G.length)(g:G.length<=1000000):mZ prog 225 [.raw l [] (sv 1 A G.length cap),kq (i:Nat),kq (i+1:Nat)] X (.raw l [] (sv 1 A (G.length- 1) cap)) (λC _=>C=X.put l (.my 3 1 A cap (G.take i++G.drop (i+1)))):=by
 refine nW func225 O ntmps225 O ki [_] O λE S=>hTF λN j=>?_;have n:=xE;exact aa
def Va(X:kY)(l:nz)(A:Option (Nat×Nat))(cap i:Nat)(G:List AV)(f:X l=some (.my 226 2 A cap G))(hi:i<G.length)(g:G.length<=1000000):mZ prog 227 [.raw l [] (sv 2 A G.length cap),kq (i:Nat),kq (i+1:Nat)] X (.raw l [] (sv 2 A (G.length- 1) cap)) (λC _=>C=X.put l (.my 226 2 A cap (G.take i++G.drop (i+1)))):=by
 refine nW func227 O ntmps227 O ki [_] O λE S=>hTF λN j=>?_;have n:=Z5;exact aa
def RP(X:kY)(l:nz)(A:Option (Nat×Nat))(cap i:Nat)(G:List AV)(f:X l=some (.my 268 3 A cap G))(hi:i<G.length)(g:G.length<=1000000):mZ prog 268 [.raw l [] (sv 3 A G.length cap),kq (i:Nat),kq (i+1:Nat)] X (.raw l [] (sv 3 A (G.length- 1) cap)) (λC _=>C=X.put l (.my 268 3 A cap (G.take i++G.drop (i+1)))):=by
 refine nW func268 O ntmps268 O ki [_] O λE S=>hTF λN j=>?_;have n:=UI;exact aa
theorem amX(X:kY)(l:nz)(A:Option (Nat×Nat))(cap i:Nat)(t:Int)(G:List AV)(f:X l=some (.my 3 1 A cap G))(hi:i<=G.length)(g:G.length<=1000000):mZ prog 274 [.raw l [] (sv 1 A G.length cap),kq (i:Nat),.sl none 1 [kq t]] X (.hv 4998)
 (λC v=>∃R L,C=X.put l (.my 3 1 R L (G.take i++kq t::G.drop i))/\v=sv 1 R (G.length+1) L):=by
 refine nW func274 O ntmps274 O ki [_] O λE S=>hTF λN m=>?_;refine pB O f λz a b3=>?_;have T:¬(([kq t].length:Nat):Int)=0:=e1;cases A with
 |none=>
  obtain⟨rfl,rfl⟩:=b3 O;obtain rfl:i=0:=fJ;refine wE ?_;refine Wv (ah5 O O O O) hP ?_;refine wE ?_;refine Wc (V8 25 (i:=0) O O O O f O (kK _) (KY (uz kM O)) ki ki O) hP ?_
  repeat (first|(refine ML 6 25 l O O λC y h=>?_;obtain⟨R,L,rfl,c,_⟩:=h;rw[c])|refine wEs ?_)
  exact BD (.inr O) O ⟨R,L,by simp,rfl⟩ ⟨vl rfl,trivial⟩
 |some A=>
  obtain⟨b,o⟩:=A;refine wE ?_;by_cases x:cap=i
  .have hn:i=G.length:=by omega
   subst hn;refine Wv (Yv (l:=G.length) O O O O O kh O) hP ?_;exact aH
  .refine Wv (Al (l:=i) O O O O kh kh kh O) hP ?_;by_cases c1:i=G.length
   .subst c1;exact aH
   .have c2:¬((i:Nat):Int)=((G.length:Nat):Int):=by omega
    by_cases c3:cap<G.length+1
    .have n:((cap:Nat):Int)<((G.length+1:Nat):Int):=by omega
     have p:i+(G.length+1- i)=(G.take i++List.replicate (G.length+1- i) (kq 0)).length:=fy;have Z:i<G.length:=eY;refine wE ?_;refine Wv (PN (h:=i) O O O O kh O) hP ?_;refine wE ?_;refine Wri 39 (((G.length+1- i:Nat):Int)) O kh ?_;refine Wb (aet 40 (i:=i) O xE O mc O O f kh kh kh kh O O) hP ?_;refine wE ?_;refine Wv (Ak (l:=i) (h:=i+(G.length+1- i)) O O O O p (Jb O O) L3 kh (kK _)) hP ?_;refine wE ?_;refine Wb (IB (J:= [kq t]) O O O O Aa O p kh jY jY) hP ?_;have P:i+(G.length+1- i)=((G.take i++List.replicate (G.length+1- i) (kq 0)).take i++([kq t]++(G.take i++List.replicate (G.length+1- i) (kq 0)).drop (i+[kq t].length))).length:=fy;refine wE ?_;refine Wv (Ak (l:=i+1) (h:=i+(G.length+1- i)) O O O O P (Jb O O) L3 kh (kK _)) hP ?_;refine wE ?_;refine Wv (Al (l:=i) O O O O kh kh kh O) hP ?_;refine Wb (aeA (J:=G.drop i) O O O O (Vw f O kh) O P kh i4 i4 O) hP ?_
     repeat (first|(refine ZX l 6 40 [] S O O kh O (by rw[ajS Z];simp;omega) trivial O λR L=>?_;rw[ajS Z])|refine wEs ?_)
     exact BD (.inr O) O ⟨R,L,rfl,by simp;omega⟩ ⟨vl O,trivial⟩
    .have n:¬((cap:Nat):Int)<((G.length+1:Nat):Int):=by omega
     have Z:i<G.length:=eY;refine wE ?_;refine Wv (PN (h:=G.length+1) O O O O kh O) hP ?_;refine wE ?_;refine Wv (Al (l:=i+1) O O O O kh kh kh O) hP ?_;refine Wv (ah3 22 4 func292 O jC O O O kh O O O f kh O) hP ?_;refine wE ?_;refine Wv (Al (l:=i+1) O O O O kh kh kh O) hP ?_;refine wE ?_;refine Wv (Al (l:=i) O O O O kh kh kh O) hP ?_;refine Wb (SY (i:=i+1) O O O O f O kh (adt (k:=i) (j:=G.length- i) f O kh) jY jY O) hP ?_;refine wE ?_;refine Wv (Al (l:=i) O O O O kh kh kh O) hP ?_;refine wE ?_;refine Wb (SY (i:=i) O O O O (kC _ _ _) O jY (aow (ajI Aa)) jY jY O) hP ?_;refine wE ?_;exact BD (.inr O) O ⟨some (b,o),cap,by rw[w8];exact py _ (py _ (anv Z)),rfl⟩ ⟨vl O,trivial⟩
end
