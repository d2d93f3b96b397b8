/- Part of the proof, without conditions. -/
import Derived.Test.YtfkhhohdgeckdaaGreatP1
namespace Go.Proofs.YtfkhhohdgeckdaaGreat
open Go RowKit Proofs.Tryz
set_option linter.all false
set_option maxRecDepth 100000
set_option maxHeartbeats 16000000
variable {P:Program}{E:su}{nt:Nat}{S:St}{Q:Exit->St->Prop}
variable {i:Nat}
variable {j:Nat}
section
variable {K:St->Prop}
def oz(h:K S):mC K Q .normal S:=h
def Fc(h:Q .ret S):mC K Q .ret S:=h
def Ff(h:Q (.exit i) S):mC K Q (.exit i) S:=h
def x9(h:Q .normal S):lj i Q .normal S:=h
def Cz(h:Q .ret S):lj i Q .ret S:=h
def CA(h:Q .normal S):lj i Q (.exit i) S:=by simp only[lj,oQ];exact h
def CC(B:Nat.beq j i=false)(h:Q (.exit j) S):lj i Q (.exit j) S:=by
 have:j≠i:=λe=>by subst e;simp at B
 simp only[lj,ku this];exact h
def BZ(h:Q .ret S):lT Q .ret S:=h
def XC{id:Nat}{l:List Oper}(h:lM P E nt l.toArray l S [] (λS' _=>Q .normal S')):AW P E nt (.region id l.toArray false) S Q:=acd jE
def MM{id:Nat}{l:List Oper}(T:P.follows .mixedOrders=true)(h:lM P E nt l.toArray l S [] (λS' rs=>ly l.toArray rs=true/\Q .normal S')):AW P E nt (.region id l.toArray true) S Q:=ajw T jE
def aof{c:Operand}{x y:Code}{b:Bool}(v:Bool)(u:kv S.t c=some (.v (.bool b)))(d:b=v)(h:AW P E nt (if v then x else y) S Q):AW P E nt (.cond c x y) S Q:=by
 subst d;exact ajx b u (λe=>by subst e;exact h) (λe=>by subst e;exact h)
end
def mU(P:Program)(E:su)(nt:Nat)(b:Bool)(x y:Code)(S:St)(Q:Exit->St->Prop):Prop:=AW P E nt (if b then x else y) S Q
section
variable {x y:Code}
def agM{c:Operand}{b:Bool}(u:kv S.t c=some (.v (.bool b)))(h:mU P E nt b x y S Q):AW P E nt (.cond c x y) S Q:=aof b u O h
def afK(h:AW P E nt x S Q):mU P E nt true x y S Q:=h
def afL(h:AW P E nt y S Q):mU P E nt false x y S Q:=h
def LY{p:Prop}[Decidable p](X:p)(h:AW P E nt x S Q):mU P E nt (decide p) x y S Q:=by
 unfold mU;rw[kW X];exact h
def TN{p:Prop}[Decidable p](X:¬p)(h:AW P E nt y S Q):mU P E nt (decide p) x y S Q:=by
 unfold mU;rw[la X];exact h
def tc{b:Bool}(v:Bool)(c:b=v)(h:mU P E nt v x y S Q):mU P E nt b x y S Q:=by subst c;exact h
end
variable {ops:Array Oper}{T:Nat->Option AV}{H:Hp}{d:Option Nat}{ty:TypeId}{pos:String}{af:Array Edge}{gd:Option (Nat×Bool)}
variable {x:Operand}{es n:Nat}{ea:Bool}{G:List AV}
variable {α:Type}
variable {g off len cap:Nat}{p:List Nat}
variable {t t':TypeId}{y:Operand}
variable {b:Nat}
variable {e:TypeId}{z:AV}
variable {ix:Operand}{k:IntKind}
variable {J:List AV}
variable {zs:List AV}
variable {f:FuncId}{fn:Func}{ats:Array TypeId}
variable {s:Operand}{tk:Nat}{src:AV}
variable {vs:List (Nat×AV)}{out:List AV}
variable {h:Nat}
variable {lo:Operand}
variable {hi:Operand}
variable {k':IntKind}
variable {w:World}{v:Value}
variable {U:u0}
variable {args:List AV}
variable {out':List AV}
variable {rs:List MQ}{K:St->List MQ->Prop}
variable {rv:List ResultVar}
section
attribute [local irreducible] kE
def zD:prog.follows .mixedOrders=true:=by kernel_rfl
section
def vV{t e bytes:Nat}{tok:Option Nat}(p:kM.ti t=some (.sl e es bytes ea))(o:lK nt d=true)(j:kv T x=some (.sl tok n G)):
 kE prog E nt ops ⟨d,.call {callee:=.builtin .len,args:= #[x],argTypes:= #[t]},ty,pos,af,gd⟩ T H [] ⟨.v (.int .i64 G.length),[]⟩:=ak1 (kM.ok t _ p).2.1 o j
def tl{f:α->AV}{t e bytes:Nat}{tok:Option Nat}{G:List α}(p:kM.ti t=some (.sl e es bytes ea))(o:lK nt d=true)(j:kv T x=some (.sl tok n (G.map f))):
 kE prog E nt ops ⟨d,.call {callee:=.builtin .len,args:= #[x],argTypes:= #[t]},ty,pos,af,gd⟩ T H [] ⟨.v (.int .i64 G.length),[]⟩:=by
 have:=vV (E:=E) (ops:=ops) (H:=H) (ty:=ty) (pos:=pos) (af:=af) (gd:=gd) p o j;rwa[kX]at this
def xV{t e bytes:Nat}(q:kM.ti t=some (.sl e es bytes ea))(o:lK nt d=true)(j:kv T x=some (.seg g off n p len cap)):
 kE prog E nt ops ⟨d,.call {callee:=.builtin .len,args:= #[x],argTypes:= #[t]},ty,pos,af,gd⟩ T H [] ⟨.v (.int .i64 len),[]⟩:=VX (kM.ok t _ q).2.1 o j
def xU{s:ByteArray}(n:lK nt d=true)(j:kv T x=some (.v (.string s))):
 kE prog E nt ops ⟨d,.call {callee:=.builtin .len,args:= #[x],argTypes:= #[9]},ty,pos,af,gd⟩ T H [] ⟨.v (.int .i64 s.size),[]⟩:=VW uU n j
def uh{a b:Int}(n:lK nt d=true)(j:kv T x=some (.v (.int .i64 a)))(F:kv T y=some (.v (.int .i64 b)))(h: -9223372036854775808<=a+b/\a+b<=9223372036854775807):kE prog E nt ops ⟨d,.binOp .add t x y t',ty,pos,af,gd⟩ T H [] ⟨.v (.int .i64 (a+b)),[]⟩:=aej n j F (aiy h)
def rW{a:Nat}(n:lK nt d=true)(j:kv T x=some (.v (.int .i64 (a:Nat))))(F:kv T y=some (.v (.int .i64 1)))(h:a+1<=9223372036854775807):kE prog E nt ops ⟨d,.binOp .add t x y t',ty,pos,af,gd⟩ T H [] ⟨.v (.int .i64 ((a+1:Nat):Int)),[]⟩:=uh n j F kh
def xZ{a:Nat}(n:lK nt d=true)(j:kv T x=some (.v (.int .i64 (a:Nat))))(F:kv T y=some (.v (.int .i64 (b:Nat))))(h:a+b<=9223372036854775807):kE prog E nt ops ⟨d,.binOp .add t x y t',ty,pos,af,gd⟩ T H [] ⟨.v (.int .i64 ((a+b:Nat):Int)),[]⟩:=uh n j F kh
def vf{a b:Int}(n:lK nt d=true)(j:kv T x=some (.v (.int .i64 a)))(F:kv T y=some (.v (.int .i64 b)))(h: -9223372036854775808<=a- b/\a- b<=9223372036854775807):kE prog E nt ops ⟨d,.binOp .sub t x y t',ty,pos,af,gd⟩ T H [] ⟨.v (.int .i64 (a- b)),[]⟩:=akT n j F (aiu h)
def Cm{a b:Int}(n:lK nt d=true)(j:kv T x=some (.v (.int .i64 a)))(F:kv T y=some (.v (.int .i64 b)))(h: -9223372036854775808<=a*b/\a*b<=9223372036854775807):kE prog E nt ops ⟨d,.binOp .mul t x y t',ty,pos,af,gd⟩ T H [] ⟨.v (.int .i64 (a*b)),[]⟩:=ad9 n j F (aix h)
def FD{a b:Int}(n:lK nt d=true)(j:kv T x=some (.v (.int .i64 a)))(F:kv T y=some (.v (.int .i64 b)))(h:0<=a/\a<=9223372036854775807/\1<=b):kE prog E nt ops ⟨d,.binOp .quo t x y t',ty,pos,af,gd⟩ T H [] ⟨.v (.int .i64 (a/b)),[]⟩:=akV n j F kh (aiw h)
def Ck{a b:Int}(n:lK nt d=true)(j:kv T x=some (.v (.int .i64 a)))(F:kv T y=some (.v (.int .i64 b)))(h:0<=a/\1<=b):kE prog E nt ops ⟨d,.binOp .rem t x y t',ty,pos,af,gd⟩ T H [] ⟨.v (.int .i64 (a%b)),[]⟩:=t6 n j F kh (aiv h.1)
def zB(n:lK nt (some g)=true)(j:kv T x=some z)(N:lS z=true)(t:H g=none):kE prog E nt ops ⟨some g,.box e x,ty,pos,af,gd⟩ T H [] ⟨.ptr g 0 [],[(g,.var z)]⟩:=ak5 n j N t
def oR(d:lB prog e z)(n:lK nt (some g)=true)(t:H g=none):kE prog E nt ops ⟨some g,.alloc e,ty,pos,af,gd⟩ T H [] ⟨.ptr g 0 [],[(g,.var z)]⟩:=by
 have h:=aei (E:=E) (ops:=ops) (T:=T) (ty:=ty) (pos:=pos) (af:=af) (gd:=gd) n d t
 with_reducible exact h
def vW{f:α->AV}{bytes:Nat}{tok:Option Nat}{G:List α}(n:lK nt d=true)(o:kM.ti t=some (.sl e es bytes ea))(j:kv T x=some (.sl tok es (G.map f)))(hi:kv T ix=some (.v (.int k (i:Nat))))
 (g:i<G.length):kE prog E nt ops ⟨d,.indexAddr t x ix,ty,pos,af,gd⟩ T H [] ⟨.ref (f G[i]),[]⟩:=
 abe kM n o j hi (Kl i) (by simp[g])
def ak8{f:α->AV}{bytes:Nat}{tok:Option Nat}{G:List α}{n:Int}(i:Nat)(o:lK nt d=true)(p:kM.ti t=some (.sl e es bytes ea))(j:kv T x=some (.sl tok es (G.map f)))(hi:kv T ix=some (.v (.int k n)))
 (B:n=(i:Int)) (g:i<G.length):kE prog E nt ops ⟨d,.indexAddr t x ix,ty,pos,af,gd⟩ T H [] ⟨.ref (f G[i]),[]⟩:=by
 subst B;exact vW o p j hi g
end
def xI:BL H [] []:=.nil
def Io{x:AV}(j:mO x=true)(h:BL H G J):BL H (x::G) (x::J):=.cons (Wk.data j) h
def MP{t:Option Nat}(h:BL H G J):BL H (.sl t n zs::G) (.sl none n zs::J):=.cons Wk.tok h
def MS(h:BL H G J):BL H (.v (.slice none 0 0)::G) (.sl none n []::J):=.cons Wk.nil h
section
def aic{l:List Operand}{y:AV}(z:Tryz.prog.funcs[f]?=some fn)(u:mG Tryz.prog f J y)(c:fn.body.isSome=true)(F:(fn.name== "runtime.NumGoroutine")=false)(n:lK nt d=true)
 (j:l.map (kv T)=G.map some) (e:∀H',BL H' G J) (N:G.all lS=true):kE prog E nt ops ⟨d,.call {callee:=.value (.func f),args:=l.toArray,argTypes:=ats},ty,pos,af,gd⟩ T H [] ⟨y,[]⟩:=
 ah2 n z c F (by simpa using j) u e N
def td(T:Nat->Option AV):List Operand->Option (List AV)
 | []=>some []
 |x::l=>match kv T x,td T l with
  |some v,some vs=>some (v::vs)
  |_,_=>none
theorem o6{T:Nat->Option AV}:∀{l:List Operand} {G:List AV},td T l=some G->l.map (kv T)=G.map some
 | [],G,h=>by simp only[td]at h;injection h with h;subst h;rfl
 |x::l,G,h=>by
  simp only[td]at h;split at h
  .rename_i v vs a b;injection h with h;subst h;simp only[nc,a,o6 b]
  .cases h
def alf{l:List Operand}{y:AV}(z:Tryz.prog.funcs[f]?=some fn)(u:mG Tryz.prog f J y)(c:fn.body.isSome=true)(F:(fn.name== "runtime.NumGoroutine")=false)(n:lK nt d=true)
 (j:td T l=some G) (e:∀H',BL H' G J) (N:G.all lS=true):kE prog E nt ops ⟨d,.call {callee:=.value (.func f),args:=l.toArray,argTypes:=ats},ty,pos,af,gd⟩ T H [] ⟨y,[]⟩:=aic z u c F n (o6 j) e N
end
section
def An{p q:Nat}(n:lK nt d=true)(j:kv T x=some (.v (.int k (p:Nat))))(F:kv T y=some (.v (.int k (q:Nat)))):
 kE prog E nt ops ⟨d,.call {callee:=.builtin .min,args:= #[x,y],argTypes:= #[t,t']},ty,pos,af,gd⟩ T H [] ⟨.v (.int k (min p q:Nat)),[]⟩:=by
 have h:=akY (P:=prog) (E:=E) (ops:=ops) (H:=H) (ty:=ty) (pos:=pos) (af:=af) (gd:=gd) (t:=t) (t':=t') n j F;have e:(if(q:Int)<p then(q:Int)else p)=((min p q:Nat):Int):=by split<;>omega
 rwa[e]at h
end
theorem aoN:true= !false:=rfl
theorem aoO:false= !true:=rfl
section
def ajM [DecidableEq α] (D:DT α) (R:∀(a b:α) (w:World),(binOp .eql D.t (.agg (D.arr a)) (.agg (D.arr b))).run prog w= .ok (.bool (decide (a=b))) w) (t:prog.eqGuardType prog.depth D.t=false) {t':TypeId} {x y:Operand} {a b:α} (n:lK nt d=true) (j:kv T x=some (D.av a)) (G:kv T y=some (D.av b)):
 kE prog E nt ops ⟨d,.binOp .eql D.t x y t',ty,pos,af,gd⟩ T H [] ⟨.v (.bool (decide (a=b))),[]⟩:=
 lO n λB T' H' A w r s F=>⟨.bool (decide (a=b)),by have c:=D.rdv.1 (r.eval ((s x js).trans j));have e:=D.rdv.1 (r.eval ((s y js).trans G));simp only[execOp,c,e,Sem.run_bind,R a b w];simp[eqGuard,t,R a b w],by rw[nM];exact⟨O,rfl⟩⟩
def anp [DecidableEq α] (D:DT α) (R:∀(a b:α) (w:World),(binOp .neq D.t (.agg (D.arr a)) (.agg (D.arr b))).run prog w= .ok (.bool (!decide (a=b))) w) (t:prog.eqGuardType prog.depth D.t=false) {t':TypeId} {x y:Operand} {a b:α} (n:lK nt d=true) (j:kv T x=some (D.av a)) (G:kv T y=some (D.av b)):
 kE prog E nt ops ⟨d,.binOp .neq D.t x y t',ty,pos,af,gd⟩ T H [] ⟨.v (.bool (decide (a≠b))),[]⟩:=
 lO n λB T' H' A w r s F=>⟨.bool (decide (a≠b)),by have c:=D.rdv.1 (r.eval ((s x js).trans j));have f:=D.rdv.1 (r.eval ((s y js).trans G));have e:(!decide (a=b))=decide (a≠b):=e1;simp only[execOp,c,f,Sem.run_bind,R a b w,e];simp[eqGuard,t,R a b w],by rw[nM];exact⟨O,rfl⟩⟩
def vI{a b:kH}(n:lK nt d=true)(j:kv T x=some a.av)(F:kv T y=some b.av):kE prog E nt ops ⟨d,.binOp .eql 113 x y t',ty,pos,af,gd⟩ T H [] ⟨.v (.bool (decide (a=b))),[]⟩:=ajM WN kH.eql kH.eqG n j F
def vH{a b:kH}(n:lK nt d=true)(j:kv T x=some a.av)(F:kv T y=some b.av):kE prog E nt ops ⟨d,.binOp .neq 113 x y t',ty,pos,af,gd⟩ T H [] ⟨.v (.bool (decide (a≠b))),[]⟩:=anp WN kH.neq kH.eqG n j F
def Ao{a b:Vl}(n:lK nt d=true)(j:kv T x=some a.av)(F:kv T y=some b.av):kE prog E nt ops ⟨d,.binOp .eql 47 x y t',ty,pos,af,gd⟩ T H [] ⟨.v (.bool (decide (a=b))),[]⟩:=ajM dVl Vl.eql Vl.eqG n j F
def xY{f:α->AV}{tx:TypeId}{bytes:Nat}{G zs:List α}(n:lK nt d=true)(o:kM.ti t=some (.sl e es bytes ea))(j:kv T s=some (.sl (some tk) es (G.map f)))(u:H tk=some (.tail e es G.length))
 (F:kv T x=some src) (I:yR prog tx es src (zs.map f)) (U:(G.length+zs.length)*bytes<=140737488355328) (a:G.length+zs.length<=9223372036854775807):
 kE prog E nt ops ⟨d,.call {callee:=.builtin .append,args:= #[s,x],argTypes:= #[t,tx]},ty,pos,af,gd⟩ T H [tk] ⟨.sl (some tk) es ((G++zs).map f),[(tk,.tail e es (G++zs).length)]⟩:=by
 have:=Oa kM (E:=E) (ops:=ops) (H:=H) (ty:=ty) (pos:=pos) (af:=af) (gd:=gd) n o j i0 F I (λc v=>Bb v jM) jQ;rw[<-oq,kX,kX,<-lA]at this;exact this
def xT(f:α->AV)(x:α){tx e:TypeId}{es bytes:Nat}{P:Bool}{tok:Option Nat}(o:kM.ti tx=some (.sl e es bytes P)):yR prog tx es (.sl tok es [f x]) ([x].map f):=uz kM o
def uE{f:α->AV}{G:List α}{tx:TypeId}{bytes:Nat}{tok:Option Nat}(o:kM.ti tx=some (.sl e es bytes ea)):yR prog tx es (.sl tok es (G.map f)) (G.map f):=uz kM o
def xX{f:α->AV}{tx:TypeId}{bytes:Nat}{zs:List α}(n:lK nt (some tk)=true)(o:kM.ti t=some (.sl e (es+1) bytes ea))(j:kv T s=some (.v (.slice none 0 0)))(u:H tk=none)
 (F:kv T x=some src) (G:yR prog tx (es+1) src (zs.map f)) (U:zs.length*bytes<=140737488355328) (a:zs.length<=9223372036854775807):
 kE prog E nt ops ⟨some tk,.call {callee:=.builtin .append,args:= #[s,x],argTypes:= #[t,tx]},ty,pos,af,gd⟩ T H [] ⟨.sl (some tk) (es+1) (zs.map f),[(tk,.tail e (es+1) zs.length)]⟩:=by
 have:=M5 kM (E:=E) (ops:=ops) (H:=H) (ty:=ty) (pos:=pos) (af:=af) (gd:=gd) n o j u F G jM jQ;rw[kX]at this;exact this
def anq{bytes:Nat}{l:List (Nat×Operand)}(d:lB prog e z)(n:lK nt (some g)=true)(o:kM.ti t=some (.sl e (es+1) bytes ea))(y:pL T l=some vs)(U:um vs (List.replicate (len+1) z)=some out)(u:H g=none)
 (f:∀H',BL H' out J) (p:out.all (λx=>Nat.beq (lE x) (es+1))=true) (V:out.length=len+1) (B:Nat.ble ((len+1)*(es+1)) 16777216=true):
 kE prog E nt ops ⟨some g,.buildSlice t (len+1) l.toArray,ty,pos,af,gd⟩ T H [] ⟨.sl (some g) (es+1) J,[(g,.tail e (es+1) (len+1))]⟩:=abg kM n o d y U u f p V B
def Fj(T:Nat->Option AV)(n:Nat):Nat->List (Nat×Operand)->Option (List AV)
 |_,[]=>some []
 |i,(j,x)::l=>bif Nat.beq i j then(match kv T x,Fj T n (i+1) l with
  |some v,some vs=>bif lS v&&Nat.beq (lE v) n then some (v::vs)else none
  |_,_=>none)else none
theorem NT{T:Nat->Option AV}{n:Nat}{z:AV}(d:lE z=n):∀(l:List (Nat×Operand)) (i:Nat) (out o:List AV),Fj T n i l=some out->o.length=i-> ∃vs,pL T l=some vs/\um vs (o++List.replicate out.length z)=some (o++out)
 | [],i,out,o,h,X=>by
  simp only[Fj]at h;injection h with h;subst h
  exact⟨[],rfl,by simp[um]⟩
 |(j,x)::l,i,out,o,h,X=>by
  simp only[Fj]at h;cases hb:Nat.beq i j with
  |false=>rw[hb]at h;cases h
  |true=>
   have:=mi hb;subst this;rw[hb]at h;simp only[cond_true]at h;cases k:kv T x with
   |none=>rw[k]at h;cases h
   |some v=>
    cases g:Fj T n (i+1) l with
    |none=>rw[k,g]at h;cases h
    |some J=>
     rw[k,g]at h;cases u:(lS v&&Nat.beq (lE v) n)with
     |false=>simp only[u,cond_false]at h;cases h
     |true=>
      simp only[u,cond_true,mr]at h;subst h;rw[l5]at u;obtain⟨vs,e,k2⟩:=NT d l (i+1) J (o++[v]) g (by simp[X]);refine⟨(i,v)::vs,by simp only[pL,k,e,u.1,cond_true],?_⟩
      have P:(o++List.replicate (v::J).length z)[i]?=some z:=by
       rw[o7 kh];simp[X]
      have a:(o++List.replicate (v::J).length z).set i v=(o++[v])++List.replicate J.length z:=by
       rw[List.set_append_right _ _ kh,X,DG,sc,GM,List.set_cons_zero];simp
      have R:Nat.beq (lE v) (lE z)=true:=by rw[d];exact u.2
      simp only[um,P,R,cond_true,a,k2];simp
theorem NS{T:Nat->Option AV}{n:Nat}:∀(l:List (Nat×Operand)) (i:Nat) (out:List AV),Fj T n i l=some out->out.all (λx=>Nat.beq (lE x) n)=true
 | [],i,out,h=>by simp only[Fj]at h;injection h with h;subst h;rfl
 |(j,x)::l,i,out,h=>by
  simp only[Fj]at h;cases hb:Nat.beq i j with
  |false=>rw[hb]at h;cases h
  |true=>
   rw[hb]at h;simp only[cond_true]at h;cases k:kv T x with
   |none=>rw[k]at h;cases h
   |some v=>
    cases g:Fj T n (i+1) l with
    |none=>rw[k,g]at h;cases h
    |some J=>
     rw[k,g]at h;cases u:(lS v&&Nat.beq (lE v) n)with
     |false=>simp only[u,cond_false]at h;cases h
     |true=>
      simp only[u,cond_true,mr]at h;subst h;rw[l5]at u;simp only[List.all_cons,u.2,NS l (i+1) J g,QU]
mutual
def KM:AV->Option AV
 | .sl _ n zs=>some (.sl none n zs)
 | .agg n fs=>match tA fs with
  |some us=>some (.agg n us)
  |none=>none
 |_=>none
def tA:List AV->Option (List AV)
 | []=>some []
 |x::l=>match mO x with
  |true=>match tA l with
   |some us=>some (x::us)
   |none=>none
  |false=>match KM x with
   |some u=>match tA l with
    |some us=>some (u::us)
    |none=>none
   |none=>none
end
mutual
theorem RV{H:Hp}:∀(x u:AV),KM x=some u->Wk H x u
 | .sl _ n zs,u,h=>by
  simp only[KM,mr]at h;subst h;exact Wk.tok
 | .agg n fs,u,h=>by
  unfold KM at h;split at h
  .rename_i us e;injection h with h;subst h;exact Wk.agg (pU _ _ e)
  .cases h
 | .v _,_,h| .arr _ _ _,_,h| .ptr _ _ _,_,h| .ref _,_,h| .seg _ _ _ _ _ _,_,h| .mz _,_,h| .fn _ _ _,_,h| .ifc _ _,_,h| .own _ _ _ _,_,h=>by simp[KM]at h
theorem pU{H:Hp}:∀(l us:List AV),tA l=some us->BL H l us
 | [],us,h=>by simp only[tA]at h;injection h with h;subst h;exact .nil
 |x::l,us,h=>by
  unfold tA at h;split at h
  .rename_i hx;split at h
   .rename_i us' h';injection h with h;subst h;exact .cons (Wk.data hx) (pU _ _ h')
   .cases h
  .split at h
   .rename_i u hu;split at h
    .rename_i us' h';injection h with h;subst h;exact .cons (RV _ _ hu) (pU _ _ h')
    .cases h
   .cases h
end
def qo{bytes:Nat}{l:List (Nat×Operand)}(d:lB prog e z)(v:lE z=es+1)(n:lK nt (some g)=true)(o:kM.ti t=some (.sl e (es+1) bytes ea))(y:Fj T (es+1) 0 l=some out)(u:H g=none)
 (U:out.length=len+1) (B:Nat.ble ((len+1)*(es+1)) 16777216=true) (i:tA out=some J):
 kE prog E nt ops ⟨some g,.buildSlice t (len+1) l.toArray,ty,pos,af,gd⟩ T H [] ⟨.sl (some g) (es+1) J,[(g,.tail e (es+1) (len+1))]⟩:=by
 obtain⟨vs,f,k2⟩:=NT v l 0 out [] y O;simp only[List.nil_append,U]at k2;exact anq d n o f k2 u (λ_=>pU _ _ i) (NS l 0 out y) U B
def aeJ{f:α->AV}{bytes:Nat}{lo hi:Option Operand}{tok:Option Nat}{G:List α}{l:Nat}(n:lK nt d=true)(o:kM.ti t=some (.sl e es bytes ea))(j:kv T x=some (.sl tok es (G.map f)))(Y:se T lo 0 l)(B:se T hi G.length h)(a:l<=h)(b:h<=G.length):
 kE prog E nt ops ⟨d,.slice t x lo hi none,ty,pos,af,gd⟩ T H [] ⟨.sl none es (((G.take h).drop l).map f),[]⟩:=by
 have:=V5 kM (E:=E) (ops:=ops) (H:=H) (ty:=ty) (pos:=pos) (af:=af) (gd:=gd) (mx:=none) (m:=0) n o j Y (by simpa using B) (.inl ⟨rfl,rfl⟩) a (by simpa using b);rwa[<-vP,<-DF]at this
def wh{f:α->AV}{bytes:Nat}{tok:Option Nat}{G:List α}{l:Nat}(n:lK nt d=true)(o:kM.ti t=some (.sl e es bytes ea))(j:kv T x=some (.sl tok es (G.map f)))(Y:kv T lo=some (.v (.int k (l:Nat))))(a:l<=G.length):
 kE prog E nt ops ⟨d,.slice t x (some lo) none none,ty,pos,af,gd⟩ T H [] ⟨.sl none es ((G.drop l).map f),[]⟩:=by
 have:=aeJ (E:=E) (ops:=ops) (H:=H) (ty:=ty) (pos:=pos) (af:=af) (gd:=gd) (lo:=some lo) (hi:=none) (h:=G.length) n o j (sk Y) zL a (kK _);rwa[nQ]at this
def wi{f:α->AV}{bytes:Nat}{tok:Option Nat}{G:List α}(n:lK nt d=true)(o:kM.ti t=some (.sl e es bytes ea))(j:kv T x=some (.sl tok es (G.map f)))(B:kv T hi=some (.v (.int k (h:Nat))))(a:h<=G.length):
 kE prog E nt ops ⟨d,.slice t x none (some hi) none,ty,pos,af,gd⟩ T H [] ⟨.sl none es ((G.take h).map f),[]⟩:=by
 have:=aeJ (E:=E) (ops:=ops) (H:=H) (ty:=ty) (pos:=pos) (af:=af) (gd:=gd) (lo:=none) (hi:=some hi) (l:=0) n o j zL (sk B) (kO _) a;rwa[A1]at this
def PT{f:α->AV}{bytes:Nat}{tok:Option Nat}{G:List α}{l:Nat}(n:lK nt d=true)(o:kM.ti t=some (.sl e es bytes ea))(j:kv T x=some (.sl tok es (G.map f)))(Y:kv T lo=some (.v (.int k (l:Nat))))(B:kv T hi=some (.v (.int k' (h:Nat))))(a:l<=h)(b:h<=G.length):
 kE prog E nt ops ⟨d,.slice t x (some lo) (some hi) none,ty,pos,af,gd⟩ T H [] ⟨.sl none es (((G.take h).drop l).map f),[]⟩:=aeJ n o j (sk Y) (sk B) a b
end
def aeO(f:Nat->α):Array.map f (Array.range 0)= #[]:=Zu ki
def Bk(w:World)(t e:TypeId)(ie:TypeInfo)(b:prog.underlying t=some (.slice e))(r:prog.info? e=some ie):(Instr.buildSlice t 0 #[]).run prog w= .ok (.slice (some ⟨w.heap.size,0,none⟩) 0 0) (w.alloc (.cells #[] e)):=by
 simp[Instr.buildSlice,lu b,sizeOf,typeInfo,r,newRow,Instr.fill];rw[aeO]
section
def y6{bytes:Nat}(n:lK nt (some g)=true)(o:kM.ti t=some (.sl e (es+1) bytes ea))(u:H g=none):
 kE prog E nt ops ⟨some g,.buildSlice t 0 #[],ty,pos,af,gd⟩ T H [] ⟨.sl (some g) (es+1) [],[(g,.tail e (es+1) 0)]⟩:=
 oC n λB T' H' a w r s D x=>by
  have X:H' g=none:=(x (g,.tail e (es+1) 0) ki).trans u;obtain⟨_,hu,Y,i,N,z1,z2,v,m,l⟩:=kM.ok t _ o;obtain⟨f,k2⟩:=r.newRow (e:=e) (k:=0) (cap:=0) (J:= []) (cs:= []) X (qh es) (by simp[ov]) rfl ki (kO _) jp;have F:=Bk w t e i hu z1;have j:(execOp a.eval ⟨some g,.buildSlice t 0 #[],ty,pos,af,gd⟩).run prog w= .ok (.value (.slice (some ⟨w.heap.size,0,none⟩) 0 0)) (w.alloc (.cells #[] e)):=by simp[execOp,F]
  exact⟨_,_,_,j,f,by rw[kJ ki];exact⟨_,k2,rfl⟩⟩
def xW{f:α->AV}{tx:TypeId}{bytes:Nat}{zs:List α}(n:lK nt d=true)(o:kM.ti t=some (.sl e es bytes ea))(j:kv T s=some (.sl (some tk) es []))(u:H tk=some (.tail e es 0))
 (F:kv T x=some src) (I:yR prog tx es src (zs.map f)) (U:zs.length*bytes<=140737488355328) (a:zs.length<=9223372036854775807):
 kE prog E nt ops ⟨d,.call {callee:=.builtin .append,args:= #[s,x],argTypes:= #[t,tx]},ty,pos,af,gd⟩ T H [tk] ⟨.sl (some tk) es (zs.map f),[(tk,.tail e es zs.length)]⟩:=by
 have:=xY (f:=f) (G:= []) (zs:=zs) (E:=E) (ops:=ops) (H:=H) (ty:=ty) (pos:=pos) (af:=af) (gd:=gd) n o j u F I jM jQ;rwa[EM]at this
end
def lL.re{T:List (Nat×AV)}{H:List (Nat×Bx)}(s:Nat){x y:AV}(o:kV s T=some x)(h:∀U w B H v,qJ U w B H x v->qJ U w B H y v):lL E nt ⟨T,H⟩ ⟨(s,y)::T,H⟩:=λB a w r=>by
 refine⟨B,r.nt,r.df,λg z j=>?_,r.box,r.x3,r.inj,r.left,r.qa,r.fx⟩;have k:St.t ⟨(s,y)::T,H⟩=l9 (St.t ⟨T,H⟩) s y:=kZ _ _ _;rw[k]at j;by_cases p:g=s
 .subst p;rw[kB]at j;injection j with j;subst j;obtain⟨v,b,c⟩:=r.tmp g _ o;exact⟨v,b,h _ _ _ _ _ c⟩
 .rw[kF _ _ p]at j;exact r.tmp g z j
def lL.aam{T:List (Nat×AV)}{H:List (Nat×Bx)}(s:Nat){tok:Option Nat}{n:Nat}{G:List AV}(o:kV s T=some (.sl tok n G)):lL E nt ⟨T,H⟩ ⟨(s,.sl none n G)::T,H⟩:=lL.re s o λU w B H v h=>by
 rw[kJ ki]at h⊢;obtain⟨c,a,b⟩:=h;simp only[Rd]at a;obtain⟨A,cap,rfl,k2,k3,l,_⟩:=a;refine⟨[_],?_,b⟩;simp only[Rd];exact⟨A,cap,rfl,k2,k3,l,λt u=>by cases u⟩
def am9{E:α->AV}{arr:α->Array Value}(enc:uo arr n)(C:∀(U:u0) (w:World) (G:List α) {c:List Value},ov U w n (G.map E) B0 H0 c↔c=qc arr G){w:World}{G:List α}{v:Value}(h:Sl arr n w v G):qJ (λ_ _=>False) w B0 H0 (.sl none n (G.map E)) v:=by
 obtain⟨A,cap,rfl,d,k,B⟩:=h;rw[kJ ki];refine⟨[_],?_,rfl⟩;simp only[Rd,kX];refine⟨A,cap,rfl,d,k,λi=>?_,λt s=>by cases s⟩;obtain⟨b,off,e,k2,k3⟩:=B.row enc i;refine⟨b,off,qc arr G,e,k3,λ_ _ _ h=>h,(C _ _ G).2 O⟩
def YQ{G:List Int}(h:Sl ie 1 w v G):qJ (λ_ _=>False) w B0 H0 (.sl none 1 (G.map kq)) v:=
 am9 anw (λU w G c=>by rw[AA (arr:=ie) (cell:=λn=>Value.int .i64 n) (λ_=>rfl)];exact zx (cell:=λn=>.int .i64 n) (λ_=>rfl) (λ_=>rfl) G) h
def afh{n:Int}:qJ (λ_ _=>False) w B0 H0 (kq n) (.int .i64 n):=nM.2 ⟨O,rfl⟩
def zy{x:AV}{J:List Value}(B:lS x=true)(h:qJ U w B0 H0 x v)(b:oe U w G B0 H0 J):oe U w (x::G) B0 H0 (v::J):=by rw[kJ (l6 B)]at h;obtain⟨c,a,k⟩:=h;simp only[oe];exact⟨c,J,by rw[k],a,b⟩
def Su:oe U w [] B0 H0 []:=by simp[oe]
def alz{vs:List Value}(h:mG prog f args (kA true))(H:oe (λ_ _=>False) w args B0 H0 vs):Calls prog f vs.toArray w (Is w (.bool true)):=
 (h _ w vs H).mono λe w' ⟨v,h1,h2,h3⟩=>by have:=(nM.1 h2).2;subst this;exact⟨h1,h3⟩
def Bs:Int->Option Nat
 | .ofNat n=>some n
 | .negSucc _=>none
theorem uI:∀{x:Int} {n:Nat},Bs x=some n->x=(n:Int)
 | .ofNat m,n,h=>by simp only[Bs]at h;injection h with h;subst h;rfl
 | .negSucc _,n,h=>by simp[Bs]at h
def EF:List AV->Option (List AV)
 | []=>some []
 |x::l=>match EF l with
  |some J=>some (x::J)
  |none=>none
theorem Oy:∀{l J:List AV},EF l=some J->l=J
 | [],J,h=>by simp only[EF]at h;injection h
 |x::l,J,h=>by
  simp only[EF]at h;split at h
  .rename_i A p;injection h with h;subst h;rw[Oy p]
  .cases h
section
def wg{f:α->AV}{bytes:Nat}{tok:Option Nat}{G:List α}(n:lK nt d=true)(o:kM.ti t=some (.sl e es bytes ea))(j:kv T x=some (.sl tok es (G.map f)))(hi:kv T ix=some (.v (.int k (@OfNat.ofNat Int i (@instOfNat i)))))
 (g: @OfNat.ofNat Nat i (instOfNatNat i)<G.length):kE prog E nt ops ⟨d,.indexAddr t x ix,ty,pos,af,gd⟩ T H [] ⟨.ref (f G[@OfNat.ofNat Nat i (instOfNatNat i)]),[]⟩:=ak8 i n o j hi O g
def uF{f:α->AV}{bytes:Nat}{tok:Option Nat}{G:List α}{l:Nat}(n:lK nt d=true)(o:kM.ti t=some (.sl e es bytes ea))(j:kv T x=some (.sl tok es (G.map f)))(Y:kv T lo=some (.v (.int k (@OfNat.ofNat Int l (@instOfNat l)))))(a: @OfNat.ofNat Nat l (instOfNatNat l)<=G.length):
 kE prog E nt ops ⟨d,.slice t x (some lo) none none,ty,pos,af,gd⟩ T H [] ⟨.sl none es ((G.drop (@OfNat.ofNat Nat l (instOfNatNat l))).map f),[]⟩:=wh n o j Y a
def uG{f:α->AV}{bytes:Nat}{tok:Option Nat}{G:List α}(n:lK nt d=true)(o:kM.ti t=some (.sl e es bytes ea))(j:kv T x=some (.sl tok es (G.map f)))(B:kv T hi=some (.v (.int k (@OfNat.ofNat Int h (@instOfNat h)))))(a: @OfNat.ofNat Nat h (instOfNatNat h)<=G.length):
 kE prog E nt ops ⟨d,.slice t x none (some hi) none,ty,pos,af,gd⟩ T H [] ⟨.sl none es ((G.take (@OfNat.ofNat Nat h (instOfNatNat h))).map f),[]⟩:=wi n o j B a
def sH{f:α->AV}{bytes:Nat}{tok:Option Nat}{G:List α}{m n:Int}{l:Nat}(o:lK nt d=true)(p:kM.ti t=some (.sl e es bytes ea))(j:kv T x=some (.sl tok es (G.map f)))(Y:kv T lo=some (.v (.int k m)))(U:Bs m=some l)(C:kv T hi=some (.v (.int k' n)))(B:Bs n=some h)(a:l<=h)(b:h<=G.length):
 kE prog E nt ops ⟨d,.slice t x (some lo) (some hi) none,ty,pos,af,gd⟩ T H [] ⟨.sl none es (((G.take h).drop l).map f),[]⟩:=by
 have:=uI B;subst this;have:=uI U;subst this;exact PT o p j Y C a b
def sI{t:Nat}{fs:List (Nat×Nat×Bool)}{l:List (Nat×Operand)}(e:lB prog t z)(R:z= .agg n zs)(o:lK nt d=true)(p:kM.ti t=some (.st n fs))(y:pL T l=some vs)(U:um vs zs=some out)(A:EF out=some out')(X:tF 0 zs fs=true):
 kE prog E nt ops ⟨d,.build t l.toArray,ty,pos,af,gd⟩ T H [] ⟨.agg n out',[]⟩:=by
 subst R;have:=Oy A;subst this;exact SQ kM o p e y U X
end
def Wri{l:List Oper}{T:List (Nat×AV)}{H:List (Nat×Bx)}(s:Nat){a:Int}(b:Int)(p:kV s T=some (.v (.int .i64 a)))(L:a=b){o:Oper}(h:lM P E nt ops (o::l) ⟨(s,.v (.int .i64 b))::T,H⟩ rs K):lM P E nt ops (o::l) ⟨T,H⟩ rs K:=
 Was s (.v (.int .i64 b)) (by rw[p,L]) h
def K8{t:Nat}{x:AV}(j:S.t t=some x)(B:lS x=true)(n:mO x=true):Rm P S (.tmp t) x:=⟨x,j,l6 B,Wk.data n⟩
def pY{t:Nat}{tok:Option Nat}(j:S.t t=some (.sl tok n G)):Rm P S (.tmp t) (.sl none n G):=⟨_,j,l6 O,Wk.tok⟩
def si{t:Nat}(j:S.t t=some (.v (.slice none 0 0))):Rm P S (.tmp t) (.sl none n []):=⟨_,j,l6 O,Wk.nil⟩
def Pw{a t:Nat}{x:AV}(N:S.t a=some (.ptr g 0 []))(u:S.h g=some (.var x))(o:kM.sa t=some (na x,lE x))(n:mO x=true):Rm prog S (.cell a t) x:=⟨g,x,N,u,kM.u5 o,Wk.data n⟩
def oY(h:ab4 P S rv J):(Exit.ret=Exit.normal∨Exit.ret=Exit.ret)/\ab4 P S rv J:=⟨.inr O,h⟩
end
def anF:BinOp->Int->Int->Option Bool
 | .lss,a,b=>some (decide (a<b))
 | .leq,a,b=>some (decide (a<=b))
 | .gtr,a,b=>some (decide (b<a))
 | .geq,a,b=>some (decide (b<=a))
 | .eql,a,b=>some (decide (a=b))
 | .neq,a,b=>some (decide (a≠b))
 |_,_,_=>none
def anE:BinOp->Bool->Bool->Option Bool
 | .eql,a,b=>some (decide (a=b))
 | .neq,a,b=>some (decide (a≠b))
 |_,_,_=>none
def saB(t:TypeId)(y:AV):Bool:=match kM.sa t with
 |some (g,n)=>g==na y&&Nat.beq n (lE y)
 |none=>false
def ady{y:AV}(h:saB t y=true):kM.sa t=some (na y,lE y):=by
 unfold saB at h;split at h
 .rename_i g n e;rw[l5,H7]at h;rw[e,h.1,mi h.2]
 .cases h
def anL(T:Nat->Option AV)(b:BinOp)(t:TypeId)(x y:Operand):Option AV:=match kv T x,kv T y with
 |some (.v (.int k p)),some (.v (.int k' q))=>if k=k' then(match anF b p q with
  |some c=>some (.v (.bool c))
  |none=>none)else none
 |some (.v (.bool p)),some (.v (.bool q))=>bif Nat.beq t 4 then(match anE b p q with
  |some c=>some (.v (.bool c))
  |none=>none)else none
 |_,_=>none
def ajQ(T:Nat->Option AV)(H:Hp)(t:TypeId)(x:Operand):Option (AV×List Nat):=match kv T x with
 |some (.ref y)=>bif saB t y then some (y,[])else none
 |some (.ptr g off p)=>match H g with
  |some bx=>match Ga bx with
   |some y=>match sU p y with
    |some z=>bif Nat.beq (tj p y) off&&saB t z then some (z,[g])else none
    |none=>none
   |none=>none
  |none=>none
 |_=>none
def afu(T:Nat->Option AV)(s:TypeId)(x:Operand)(f:Nat):Option AV:=match kv T x,kM.ti s with
 |some (.ref y),some (.st n fs)=>match aby fs y f with
  |some (o,z)=>some (.ref z)
  |none=>none
 |some (.ptr g off p),some (.st n fs)=>match fs[f]? with
  |some (o,sz+1,ag)=>some (.ptr g (off+o) (p++[f]))
  |_=>none
 |_,_=>none
def ajH(T:Nat->Option AV)(H:Hp):Op->Option (AV×List Nat)
 | .move x=>match kv T x with
  |some v=>some (v,[])
  |none=>none
 | .assign x=>match kv T x with
  |some v=>some (v,[])
  |none=>none
 | .pick c x y=>match kv T c with
  |some (.v (.bool true))=>match kv T x with
   |some v=>some (v,[])
   |none=>none
  |some (.v (.bool false))=>match kv T y with
   |some v=>some (v,[])
   |none=>none
  |_=>none
 | .extract x i=>match kv T x with
  |some (.mz vs)=>match vs[i]? with
   |some v=>some (v,[])
   |none=>none
  |_=>none
 | .binOp b t x y t'=>match anL T b t x y with
  |some v=>some (v,[])
  |none=>none
 | .unOp .not t x=>match kv T x with
  |some (.v (.bool p))=>some (.v (.bool (!p)),[])
  |_=>none
 | .load t x=>ajQ T H t x
 | .fieldAddr s x f=>match afu T s x f with
  |some v=>some (v,[])
  |none=>none
 |_=>none
variable {op:Op}{rh:List Nat}
section
def oB{v:AV}(h:ajH T H op=some (v,rh))(r:lK nt d=true):kE prog E nt ops ⟨d,op,ty,pos,af,gd⟩ T H rh ⟨v,[]⟩:=by
 unfold ajH at h;split at h
 .split at h<;>(try cases h);rename_i x v j;exact Yr r j
 .split at h<;>(try cases h);rename_i x v j;exact abi r j
 .split at h
  .rename_i c x y B;split at h<;>(try cases h);rename_i v j;exact aba r B j
  .rename_i c x y B;split at h<;>(try cases h);rename_i v j;exact abb r B j
  .cases h
 .split at h
  .rename_i x i vs j;split at h<;>(try cases h);rename_i v D;exact V4 r j D
  .cases h
 .split at h<;>(try cases h);rename_i b t x y t' v hb;unfold anL at hb;split at hb
  .rename_i k p k' q j G;split at hb
   .rename_i C;subst C;split at hb
    .rename_i c B;injection hb with hb;subst hb;cases b<;>simp only[anF,mr,reduceCtorEq]at B<;>subst B
     .exact ak4 r j G
     .exact akX r j G
     .exact akZ r j G
     .exact ak0 r j G
     .exact ak2 r j G
     .exact ak3 r j G
    .cases hb
   .cases hb
  .rename_i p q j G;cases w:Nat.beq t 4 with
   |false=>rw[w]at hb;cases hb
   |true=>
    rw[w]at hb;simp only[cond_true]at hb;have:=mi w;subst this;split at hb
    .rename_i c B;injection hb with hb;subst hb;cases b<;>simp only[anE,mr,reduceCtorEq]at B<;>subst B
     .exact aee QT r j G
     .exact ad8 QT r j G
    .cases hb
  .cases hb
 .split at h
  .rename_i t x p j;cases h;exact akW r j
  .cases h
 .rename_i t x;unfold ajQ at h;split at h
  .rename_i y j;cases u:saB t y with
   |false=>rw[u]at h;cases h
   |true=>
    rw[u]at h;cases h;exact SN kM r j (ady u)
  .rename_i g off p j;split at h
   .rename_i bx A;split at h
    .rename_i y hb;split at h
     .rename_i z X;cases u:(Nat.beq (tj p y) off&&saB t z)with
      |false=>rw[u]at h;cases h
      |true=>
       rw[u]at h;cases h;rw[l5]at u;exact SO kM r j A hb X (mi u.1) (ady u.2)
     .cases h
    .cases h
   .cases h
  .cases h
 .split at h<;>(try cases h);rename_i s x f v F;unfold afu at F;split at F
  .rename_i y n fs j u;split at F
   .rename_i o z e;injection F with F;subst F;exact V1 kM r j u e
   .cases F
  .rename_i g off p n fs j u;split at F
   .rename_i o sz ag e;injection F with F;subst F;exact V3 kM r j u e
   .cases F
  .cases F
 .cases h
end
section
def sG{a:Nat}(n:lK nt d=true)(j:kv T x=some (.v (.int .i64 ((a+1:Nat):Int))))(F:kv T y=some (.v (.int .i64 1)))(h:a<=9223372036854775807):kE prog E nt ops ⟨d,.binOp .sub t x y t',ty,pos,af,gd⟩ T H [] ⟨.v (.int .i64 (a:Nat)),[]⟩:=by have:=vf (E:=E) (ops:=ops) (H:=H) (ty:=ty) (pos:=pos) (af:=af) (gd:=gd) (t:=t) (t':=t') n j F kh;rwa[show((a+1:Nat):Int)- 1=(a:Nat)from by omega]at this
end
def zV(f:FuncId)(args:List AV)(r:AV):Prop:=∃fn,Tryz.prog.funcs[f]?=some fn∧fn.body.isSome=true∧(fn.name== "runtime.NumGoroutine")=false∧mG Tryz.prog f args r
variable {r:AV}
def kD(z:Tryz.prog.funcs[f]?=some fn)(u:mG Tryz.prog f args r)(c:fn.body.isSome=true:=by decide+kernel)(B:(fn.name== "runtime.NumGoroutine")=false:=by decide+kernel):zV f args r:=⟨fn,z,c,B,u⟩
section
def qx{l:List Operand}{y:AV}(n:lK nt d=true)(j:td T l=some G)(e:tA G=some J)(N:G.all lS=true)(u:zV f J y):kE prog E nt ops ⟨d,.call {callee:=.value (.func f),args:=l.toArray,argTypes:=ats},ty,pos,af,gd⟩ T H [] ⟨y,[]⟩:=by
 obtain⟨fn,a,b,k,A⟩:=u;exact alf a A b k n j (λ_=>pU _ _ e) N
end
section
variable {l:List Oper}{T:List (Nat×AV)}{H:List (Nat×Bx)}
def aky{T:Nat->Option AV}{b:Bool}(h:((ops[j]?).bind (·.dst)).bind T=some (.mz G)):kN ops ⟨d,op,ty,pos,af,some (j,b)⟩ T=some false:=by
 unfold kN;simp[h]
def Mx{s:Nat}{b:Bool}{p:Prop}[Decidable p](i:((ops[j]?).bind (·.dst))=some s)(o:kV s T=some (.v (.bool (decide p))))(X:p)(h:lM P E nt ops (⟨d,op,ty,pos,af,some (j,b)⟩::l) ⟨(s,.v (.bool true))::T,H⟩ rs K):lM P E nt ops (⟨d,op,ty,pos,af,some (j,b)⟩::l) ⟨T,H⟩ rs K:=ago s true o (kW X) h
def My{s:Nat}{b:Bool}{p:Prop}[Decidable p](i:((ops[j]?).bind (·.dst))=some s)(o:kV s T=some (.v (.bool (decide p))))(X:¬p)(h:lM P E nt ops (⟨d,op,ty,pos,af,some (j,b)⟩::l) ⟨(s,.v (.bool false))::T,H⟩ rs K):lM P E nt ops (⟨d,op,ty,pos,af,some (j,b)⟩::l) ⟨T,H⟩ rs K:=ago s false o (la X) h
def Mz{s:Nat}{b c e:Bool}(i:((ops[j]?).bind (·.dst))=some s)(o:kV s T=some (.v (.bool c)))(X:c=e)(h:lM P E nt ops (⟨d,op,ty,pos,af,some (j,b)⟩::l) ⟨(s,.v (.bool e))::T,H⟩ rs K):lM P E nt ops (⟨d,op,ty,pos,af,some (j,b)⟩::l) ⟨T,H⟩ rs K:=ago s e o X h
end
structure zT(R:Prop):Prop where
 out:R
variable {R:Prop}
def Ip{Q:Prop}(k:R)(h:zT R->Q:=by intro kHid;(first|refine Jg _ ?_|refine Ij ?_|refine XC ?_|refine MM zD ?_|refine CQ ?_|refine oz ?_|refine x9 ?_|refine CA ?_|refine Fc ?_|refine Cz ?_|refine BZ ?_|refine Ff ?_|refine CC O ?_|refine G7 ?_|refine MJ ?_|refine G4 ?_|refine agM O ?_|with_reducible refine afK ?_|with_reducible refine afL ?_|with_reducible refine LY jd ?_|with_reducible refine TN jd ?_|refine And.intro jC ?_);exact kHid.out):Q:=h ⟨k⟩
def wO{Q:Prop}(k:R)(h:zT R->Q:=by intro kHid;(repeat (first|refine Ip ?_|(first|(apply Wv;(focus (first|exact oB O O|exact vW O O O O iP|exact wg O O O O iP|exact tl O O O|exact vV O O O|exact xV O O O|exact xU O O|exact rW O O O kh|exact xZ O O O kh|exact uh O O O kh|exact sG O O O kh|exact vf O O O kh|exact Cm O O O kh|exact Ck O O O kh|exact t6 O O O kg O|exact vI O O O|exact vH O O O|exact qx O O O O j5|exact An O O O|exact wh O O O O kh|exact wi O O O O kh|exact uF O O O O kh|exact uG O O O O kh|exact sH O O O O O O O kh kh|exact sI E4 O O O O O O O|exact sI CR O O O O O O O));(focus exact ig))|(apply Wb;(focus (first|exact zB O O O O|exact xY O O O O O iu iO iO|exact xW O O O O O iu iO iO|exact xX O O O O O iu iO iO|exact y6 O O O|exact qo Il O O O O O O O O|exact qo Ik O O O O O O O O|exact qo xE O O O O O O O O|exact qo E4 O O O O O O O O|exact oR E4 O O|exact oR CR O O));(focus exact ig))|(apply Ws;(focus (exact nX kM (d:=none) O O O O O O O O O O));(focus exact ig))|(refine sN gS O ?_)|refine Mx O O iK ?_|refine My O O iK ?_|(refine Mz O O j5 ?_)|(refine tc _ j5 ?_))));exact kHid.out):Q:=h ⟨k⟩
def wL{Q:Prop}(k:R)(h:zT R->Q:=by intro kHid;(repeat (first|refine Ip ?_|(first|(apply Wv;(focus exact gC);(focus exact ig))|(apply Wb;(focus exact gG);(focus exact ig))|(apply Ws;(focus (exact nX kM (d:=none) O O O O O O O O O O));(focus exact ig))|(refine sN gS O ?_)|refine Mx O O iK ?_|refine My O O iK ?_|(refine Mz O O jh ?_)|(refine tc _ j5 ?_))));exact kHid.out):Q:=h ⟨k⟩
def wS{Q:Prop}(k:R)(h:zT R->Q:=by intro kHid;(repeat (first|refine Ip ?_|(first|(apply Wv;(focus (first|exact oB O O|exact vW O O O O iP|exact wg O O O O iP|exact tl O O O|exact vV O O O|exact xV O O O|exact xU O O|exact rW O O O kh|exact xZ O O O kh|exact uh O O O kh|exact sG O O O kh|exact vf O O O kh|exact Cm O O O kh|exact Ck O O O kh|exact t6 O O O kg O|exact vI O O O|exact vH O O O|exact Ao O O O|exact qx O O O O j5|exact An O O O|exact wh O O O O kh|exact wi O O O O kh|exact uF O O O O kh|exact uG O O O O kh|exact sH O O O O O O O kh kh|exact wQ O O O|exact zc O O|exact t5 O O O O O|exact vb O O O O O O O|exact y7 O O O|exact PQ O O O kg|exact C4 ⟨_,mc⟩ pz O O|exact C2 ⟨_,mc⟩ vO O O|exact C3 s8 pz uU O O|exact t9 O O O O jd|exact BN O O O O O O O O O|exact Cn O O O O O O|exact Cl O O O kh|exact FD O O O kh));(focus exact ig))|(apply Wb;(focus exact gG);(focus exact ig))|(apply Ws;(focus (exact nX kM (d:=none) O O O O O O O O O O));(focus exact ig))|(refine sN gS O ?_)|refine Mx O O iK ?_|refine My O O iK ?_|(refine Mz O O jh ?_)|(refine tc _ j5 ?_))));exact kHid.out):Q:=h ⟨k⟩
def wI{Q:Prop}(k:R)(h:zT R->Q:=by intro kHid;(repeat (first|refine Ip ?_|(first|(apply Wv;(focus (first|exact oB O O|exact vW O O O O iP|exact wg O O O O iP|exact tl O O O|exact vV O O O|exact xV O O O|exact xU O O|exact rW O O O kh|exact xZ O O O kh|exact uh O O O kh|exact sG O O O kh|exact vf O O O kh|exact Cm O O O kh|exact Ck O O O kh|exact t6 O O O kg O|exact vI O O O|exact vH O O O|exact Ao O O O|exact qx O O O O j5|exact An O O O|exact wh O O O O kh|exact wi O O O O kh|exact uF O O O O kh|exact uG O O O O kh|exact sH O O O O O O O kh kh|exact wQ O O O|exact zc O O|exact t5 O O O O O|exact vb O O O O O O O|exact y7 O O O|exact PQ O O O kg|exact C4 ⟨_,mc⟩ pz O O|exact C2 ⟨_,mc⟩ vO O O|exact C3 s8 pz uU O O|exact t9 O O O O jd|exact FE O O O jC|exact aeM O O O jC|exact ajP O O O O jC jC|exact aeF O O O O O O j5|exact BN O O O O O O O O O|exact Cn O O O O O O|exact Cl O O O kh|exact FD O O O kh));(focus exact ig))|(apply Wb;(focus exact gG);(focus exact ig))|(apply Ws;(focus (exact nX kM (d:=none) O O O O O O O O O O));(focus exact ig))|(refine sN gS O ?_)|refine Mx O O iK ?_|refine My O O iK ?_|(refine Mz O O jh ?_)|(refine tc _ j5 ?_))));exact kHid.out):Q:=h ⟨k⟩
def wF{Q:Prop}(k:R)(h:zT R->Q:=by intro kHid;(repeat (first|refine Ip ?_|(first|(apply Wv;(focus exact gB);(focus exact ig))|(apply Wb;(focus exact gG);(focus exact ig))|(apply Ws;(focus (exact nX kM (d:=none) O O O O O O O O O O));(focus exact ig))|(refine sN gS O ?_)|refine Mx O O iK ?_|refine My O O iK ?_|(refine Mz O O jh ?_)|(refine tc _ j5 ?_))));exact kHid.out):Q:=h ⟨k⟩
def wB{Q:Prop}(k:R)(h:zT R->Q:=by intro kHid;(repeat (first|refine Ip ?_|(first|(apply Wv;(focus (first|exact oB O O|exact vW O O O O iP|exact wg O O O O iP|exact tl O O O|exact vV O O O|exact rW O O O kh|exact uh O O O kh|exact sG O O O kh|exact vf O O O kh|exact qx O O O O j5|exact wQ O O O));(focus exact ig))|(apply Wb;(focus exact gG);(focus exact ig))|(apply Ws;(focus (exact nX kM (d:=none) O O O O O O O O O O));(focus exact ig))|(refine sN gS O ?_)|refine Mx O O iK ?_|refine My O O iK ?_|(refine Mz O O jh ?_)|(refine tc _ j5 ?_))));exact kHid.out):Q:=h ⟨k⟩
def wC{Q:Prop}(k:R)(h:zT R->Q:=by intro kHid;(repeat (first|refine Ip ?_|(first|(apply Wv;(focus (first|exact oB O O|exact rW O O O kh|exact uh O O O kh|exact sG O O O kh|exact vf O O O kh|exact vI O O O|exact vH O O O|exact Ao O O O|exact qx O O O O j5|exact t5 O O O O O|exact vb O O O O O O O|exact y7 O O O));(focus exact ig))|(apply Wb;(focus (first|exact zB O O O O|exact tQ O O O));(focus exact ig))|(apply Ws;(focus (exact nX kM (d:=none) O O O O O O O O O O));(focus exact ig))|(refine sN gS O ?_)|refine Mx O O iK ?_|refine My O O iK ?_|(refine Mz O O jh ?_)|(refine tc _ j5 ?_))));exact kHid.out):Q:=h ⟨k⟩
def wFs{Q:Prop}(k:R)(h:zT R->Q:=by intro kHid;((first|(apply Wv;(focus exact gB);(focus exact ig))|(apply Wb;(focus exact gG);(focus exact ig))|(apply Ws;(focus (exact nX kM (d:=none) O O O O O O O O O O));(focus exact ig))|(refine sN gS O ?_)|refine Mx O O iK ?_|refine My O O iK ?_|(refine Mz O O jh ?_)|(refine tc _ j5 ?_)));exact kHid.out):Q:=h ⟨k⟩
def wLs{Q:Prop}(k:R)(h:zT R->Q:=by intro kHid;((first|(apply Wv;(focus exact gC);(focus exact ig))|(apply Wb;(focus exact gG);(focus exact ig))|(apply Ws;(focus (exact nX kM (d:=none) O O O O O O O O O O));(focus exact ig))|(refine sN gS O ?_)|refine Mx O O iK ?_|refine My O O iK ?_|(refine Mz O O jh ?_)|(refine tc _ j5 ?_)));exact kHid.out):Q:=h ⟨k⟩
def pb(i:Bool)(es k t ms:AV):AV:=.agg 5 [kA i,es,k,t,ms]
def mF:AV:=.v (.slice none 0 0)
def CR:lB prog 82 (pb false mF mF mF mF):=lR (v:=.agg #[.bool false,.slice none 0 0,.slice none 0 0,.slice none 0 0,.slice none 0 0]) (n:=5) j6 λU w=>by exact bV
def UM:lB prog 354 (pb false mF mF mF mF):=lR (v:=.agg #[.bool false,.slice none 0 0,.slice none 0 0,.slice none 0 0,.slice none 0 0]) (n:=5) j6 λU w=>by exact bV
def UO:lB prog 355 (pb false mF mF mF mF):=lR (v:=.agg #[.bool false,.slice none 0 0,.slice none 0 0,.slice none 0 0,.slice none 0 0]) (n:=5) j6 λU w=>by exact bV
theorem adl{n:Nat}:∀(zs:List AV) (i:Nat),(∀z∈zs,lE z=n)->i<=zs.length->te (zs.take i)=i*n
 |zs,0,h,hi=>by simp[te]
 | [],i+1,h,hi=>by simp at hi
 |z::zs,i+1,h,hi=>by
  simp only[List.take_succ_cons,te];rw[adl zs i (λz d=>h z (nV _ d)) jz,h z ki,sb];omega
variable {tn:Nat}
section
variable (tb:ZL P)
theorem abh{l:List (Nat×Operand)}(o:lK nt d=true)(q:tb.ti t=some (.arr tn len es ea e))(f:lB P t (.arr tn es zs))(C:pL T l=some vs)(V:um vs zs=some out)(m:∀H',BL H' out J)
 (L:zs.all (λx=>Nat.beq (lE x) es)=true) (hos:out.all (λx=>Nat.beq (lE x) es)=true) (W:out.length=zs.length):
 kE P E nt ops ⟨d,.build t l.toArray,ty,pos,af,gd⟩ T H [] ⟨.arr tn es J,[]⟩:=
 lO o λB T' H' a w r s D=>by
  obtain⟨⟨_,hu0,_,_⟩,hu,hte⟩:=tb.ok t _ q;obtain⟨i,N,z1,z2,I⟩:=f;have Y:=I (kI E B H') w;simp only[Rd]at Y;have hzl:∀z∈zs,lE z=es:=λx j=>mi (mq.1 L x j);have K:∀z∈out,lE z=es:=λx j=>mi (mq.1 hos x j);have U:=Ku (nr (nK.refl _ w) (λ_ _ _ h=>h) _ _ ⟨λg b h _=>by simp[H0,pH]at h,λg h=>by simp[H0,pH]at h,λt n len A cap h=>by obtain⟨e,k,h,_⟩:=h;simp[H0]at h,λg n len k v h=>by obtain⟨e,G,h,_⟩:=h;simp[H0]at h,λg h=>by simp[H0]at h⟩ Y.2:ov (kI E B H') w es zs B H' _);have hv':=vU C (T':=T') (λp X=>s p.2 iR)
  obtain⟨M,F,u⟩:=Cv r l vs zs out _ hv' V (place:=λi=>some (i*es,es)) (λi y h=>by have Z:=(mS.1 h).1;rw[adl zs i hzl kh,hzl y (nF h)]) U
  have hrdu:=(m H').rdu (Bg u K)
  have S:M.length=tn:=by have R:=lG (Bg u K);have c:=lG Y.2;rw[R,W,<-c,Y.1]
  obtain⟨de,hie⟩:∃ie,P.info? e=some ie/\ie.size=es:=by
   obtain⟨_,_,_,h⟩:=hte;cases hi:P.info? e with
   |none=>rw[hi]at h;cases h
   |some ie=>rw[hi]at h;simp at h;exact⟨ie,rfl,h⟩
  have hb:P.built t (l.map λp=>(p.1,a.eval p.2))=some M.toArray:=by
   unfold Program.built;simp only[z1,hu,z2,hie.1,hie.2];have:=rS _ _ _ F;simpa using this
  refine⟨.agg M.toArray,?_,?_⟩
  .have hrb:=run_build (P:=P) w t (l.map λp=>(p.1,a.eval p.2)).toArray M.toArray jA;simp only[execOp];have U:(Array.map (λx=>(x.1,a.eval x.2)) l.toArray)=(l.map λp=>(p.1,a.eval p.2)).toArray:=e1;simp only[U,Sem.run_bind,hrb];rfl
  .rw[kJ ki];exact⟨M,by simp only[Rd];exact⟨S,hrdu⟩,rfl⟩
end
section
def PV{l:List (Nat×Operand)}(f:lB prog t z)(R:z= .arr tn es zs)(n:lK nt d=true)(o:kM.ti t=some (.arr tn len es ea e))(y:pL T l=some vs)(U:um vs zs=some out)(g:tA out=some out')
 (u:zs.all (λx=>Nat.beq (lE x) es)=true) (S:out.all (λx=>Nat.beq (lE x) es)=true) (V:out.length=zs.length):
 kE prog E nt ops ⟨d,.build t l.toArray,ty,pos,af,gd⟩ T H [] ⟨.arr tn es out',[]⟩:=by
 subst R;exact abh kM n o f y U (λ_=>pU _ _ g) u S V
def Cn{i:Int}(o:lK nt d=true)(q:kM.ti t=some (.arr tn len es ea e))(n:kv T x=some (.ptr g off p))(hi:kv T ix=some (.v (.int k i)))
 (m:Bs i=some j) (l:Nat.blt j len=true):kE prog E nt ops ⟨d,.indexAddr t x ix,ty,pos,af,gd⟩ T H [] ⟨.ptr g (off+j*es) (p++[j]),[]⟩:=by
 have:=uI m;subst this;have F:j<len:=A8 l;exact V0 kM o q n hi (Kl j) kh
end
def acg:lB prog 55 (qU 0#64):=lR (v:=.int .u64 0) (n:=1) j6 λU w=>(qV O).2 (by rw[qM];rfl)
def Nv:lB prog 4 (kA false):=lR (v:=.bool false) (n:=1) j6 λU w=>(qV O).2 O
def Im:lB prog 40 (.v (.slice none 0 0)):=lR (v:=.slice none 0 0) (n:=1) j6 λU w=>(qV O).2 O
def Rw:lB prog 80 (.v (.slice none 0 0)):=lR (v:=.slice none 0 0) (n:=1) j6 λU w=>(qV O).2 O
def ach:lB prog 314 (.arr 2 1 [kq 0,kq 0]):=lR (v:=.agg #[.int .i64 0,.int .i64 0]) (n:=2) j6 λU w=>by
 simp only[kq,Rd,ov,Value.cells];exact⟨O,[_],_,rfl,rfl,⟨O,rfl⟩,[_],_,rfl,rfl,⟨O,rfl⟩,rfl⟩
def xG(t:TypeId):Option AV:=
 bif Nat.beq t 113 then some kH.zero.av else
 bif Nat.beq t 47 then some Vl.zero.av else
 bif Nat.beq t 131 then some lq.zero.av else
 bif Nat.beq t 115 then some mL.zero.av else
 bif Nat.beq t 82 then some (pb false mF mF mF mF)else
 bif Nat.beq t 354 then some (pb false mF mF mF mF)else
 bif Nat.beq t 355 then some (pb false mF mF mF mF)else
 bif Nat.beq t 3 then some (kq 0)else
 bif Nat.beq t 5 then some (lN 0#8)else
 bif Nat.beq t 55 then some (qU 0#64)else
 bif Nat.beq t 4 then some (kA false)else
 bif Nat.beq t 314 then some (.arr 2 1 [kq 0,kq 0])else
 bif Nat.beq t 22 then some (.v (.slice none 0 0))else
 bif Nat.beq t 79 then some (.v (.slice none 0 0))else
 bif Nat.beq t 40 then some (.v (.slice none 0 0))else
 bif Nat.beq t 80 then some (.v (.slice none 0 0))else
 none
def n4{u:TypeId}{a:AV}{r:Option AV}(N:lB prog u a)(H:r=some z->lB prog t z)(h:(bif Nat.beq t u then some a else r)=some z):lB prog t z:=by
 cases hb:Nat.beq t u with
 |true=>rw[hb,cond_true,mr]at h;subst h;have:=mi hb;subst this;exact N
 |false=>rw[hb,Kk]at h;exact H h
def tz(h:xG t=some z):lB prog t z:=by
 unfold xG at h;refine n4 E4 (λh=>?_) h;refine n4 ag0 (λh=>?_) h;refine n4 ack (λh=>?_) h;refine n4 aco (λh=>?_) h;refine n4 CR (λh=>?_) h;refine n4 UM (λh=>?_) h;refine n4 UO (λh=>?_) h;refine n4 xE (λh=>?_) h;refine n4 Z7 (λh=>?_) h;refine n4 acg (λh=>?_) h;refine n4 Nv (λh=>?_) h;refine n4 ach (λh=>?_) h;refine n4 Il (λh=>?_) h;refine n4 Ik (λh=>?_) h;refine n4 Im (λh=>?_) h;refine n4 Rw (λh=>?_) h;cases h
section
def vb{t:Nat}{fs:List (Nat×Nat×Bool)}{l:List (Nat×Operand)}(e:xG t=some (.agg n zs))(o:lK nt d=true)(p:kM.ti t=some (.st n fs))(y:pL T l=some vs)(U:um vs zs=some out)(z:EF out=some out')(X:tF 0 zs fs=true):
 kE prog E nt ops ⟨d,.build t l.toArray,ty,pos,af,gd⟩ T H [] ⟨.agg n out',[]⟩:=sI (tz e) O o p y U z X
def BN{l:List (Nat×Operand)}(f:xG t=some (.arr tn es zs))(n:lK nt d=true)(o:kM.ti t=some (.arr tn len es ea e))(y:pL T l=some vs)(U:um vs zs=some out)(g:tA out=some out')
 (u:zs.all (λx=>Nat.beq (lE x) es)=true) (S:out.all (λx=>Nat.beq (lE x) es)=true) (V:out.length=zs.length):
 kE prog E nt ops ⟨d,.build t l.toArray,ty,pos,af,gd⟩ T H [] ⟨.arr tn es out',[]⟩:=PV (tz f) O n o y U g u S V
def tQ(d:xG e=some z)(n:lK nt (some g)=true)(t:H g=none):kE prog E nt ops ⟨some g,.alloc e,ty,pos,af,gd⟩ T H [] ⟨.ptr g 0 [],[(g,.var z)]⟩:=oR (tz d) n t
def xH{bytes:Nat}{l:List (Nat×Operand)}(o:kM.ti t=some (.sl e (es+1) bytes ea))(d:xG e=some z)(v:lE z=es+1)(n:lK nt (some g)=true)(y:Fj T (es+1) 0 l=some out)(u:H g=none)
 (U:out.length=len+1) (B:Nat.ble ((len+1)*(es+1)) 16777216=true) (f:tA out=some J):
 kE prog E nt ops ⟨some g,.buildSlice t (len+1) l.toArray,ty,pos,af,gd⟩ T H [] ⟨.sl (some g) (es+1) J,[(g,.tail e (es+1) (len+1))]⟩:=qo (tz d) v n o y u U B f
end
section
def wQ{a:kH}{b:Vl}(o:lK nt d=true)(j:kv T x=some a.av)(F:kv T y=some b.av):kE prog E nt ops ⟨d,.build 115 #[(0,x),(1,y)],ty,pos,af,gd⟩ T H [] ⟨mL.av ⟨a,b⟩,[]⟩:=
 vb (l:= [(0,x),(1,y)]) (vs:= [(0,a.av),(1,b.av)]) (zs:= [kH.zero.av,Vl.zero.av]) (out:= [a.av,b.av]) (out':= [a.av,b.av]) (n:=26) O o O (by simp only[pL,j,F];rfl) O O O
def zc{a:kH}(o:lK nt d=true)(j:kv T x=some a.av):kE prog E nt ops ⟨d,.build 115 #[(0,x)],ty,pos,af,gd⟩ T H [] ⟨mL.av ⟨a,Vl.zero⟩,[]⟩:=
 vb (l:= [(0,x)]) (vs:= [(0,a.av)]) (zs:= [kH.zero.av,Vl.zero.av]) (out:= [a.av,Vl.zero.av]) (out':= [a.av,Vl.zero.av]) (n:=26) O o O (by simp only[pL,j];rfl) O O O
def Cl{a:Nat}(n:lK nt d=true)(j:kv T x=some (.v (.int .i64 (a:Nat))))(F:kv T y=some (.v (.int .i64 2)))(h:a<=9223372036854775807):kE prog E nt ops ⟨d,.binOp .quo t x y t',ty,pos,af,gd⟩ T H [] ⟨.v (.int .i64 ((a/2:Nat):Int)),[]⟩:=by have:=FD (E:=E) (ops:=ops) (H:=H) (ty:=ty) (pos:=pos) (af:=af) (gd:=gd) (t:=t) (t':=t') n j F kh;rwa[show((a:Nat):Int)/2=((a/2:Nat):Int)from by omega]at this
end
def abI{a b:ByteArray}:(a==b)=true↔a=b:=by
 cases a with|mk x=>cases b with|mk y=>
 show((x==y)=true)↔_
 rw[H7,ByteArray.mk.injEq]
structure qn where
 kind:Int
 key:ByteArray
 val:ByteArray
 add:BitVec 64
def qn.beq(a b:qn):Bool:=a.kind==b.kind&&a.key==b.key&&a.val==b.val&&a.add==b.add
def qn.beq_iff{a b:qn}:a.beq b=true↔a=b:=by
 cases a;cases b;simp[qn.beq,xk,abI]
instance :DecidableEq qn:=λa b=>decidable_of_iff (a.beq b=true) qn.beq_iff
@[irreducible] def qn.arr(s:qn):Array Value:=zK (zK (zK (Cw (.int .i64 s.kind)) (Cw (.string s.key))) (Cw (.string s.val))) (Cw (.int .u64 (w5 s.add)))
def qn.mj(s:qn):s.arr=zK (zK (zK (Cw (.int .i64 s.kind)) (Cw (.string s.key))) (Cw (.string s.val))) (Cw (.int .u64 (w5 s.add))):=by unfold qn.arr;rfl
def qn.mh(s:qn):s.arr.size=4:=by rw[qn.mj];simp[qe,qd,]
def qn.zero:qn:={kind:=0,key:=.empty,val:=.empty,add:=0#64}
def qn.mM:qn.zero.arr= #[.int .i64 0,.string .empty,.string .empty,.int .u64 0]:=by rw[qn.mj];simp[q5,sZ,qn.zero,vy,qM]
def qn.info:(prog.info? 57).map (λi=>(i.zero,i.size))=some (some (.agg qn.zero.arr),4):=by rw[qn.mM];kernel_rfl
attribute [go_sem] qn.mh
structure wG where
 code:Int
 found:Bool
 val:Vl
def wG.beq(a b:wG):Bool:=a.code==b.code&&a.found==b.found&&a.val.beq b.val
def wG.beq_iff{a b:wG}:a.beq b=true↔a=b:=by
 cases a;cases b;simp[wG.beq,xk,Vl.beq_iff]
instance :DecidableEq wG:=λa b=>decidable_of_iff (a.beq b=true) wG.beq_iff
@[irreducible] def wG.arr(s:wG):Array Value:=zK (zK (Cw (.int .i64 s.code)) (Cw (.bool s.found))) (s.val.arr)
def wG.mj(s:wG):s.arr=zK (zK (Cw (.int .i64 s.code)) (Cw (.bool s.found))) (s.val.arr):=by unfold wG.arr;rfl
def wG.mh(s:wG):s.arr.size=19:=by rw[wG.mj];simp[qe,qd,Vl.mh]
def wG.zero:wG:={code:=0,found:=false,val:=Vl.zero}
def wG.mM:wG.zero.arr= #[.int .i64 0,.bool false,.int .i64 0,.int .u8 0,.int .u8 0,.int .u8 0,.int .u8 0,.int .u8 0,.int .u8 0,.int .u8 0,.int .u8 0,.int .u8 0,.int .u8 0,.int .u8 0,.int .u8 0,.int .u8 0,.int .u8 0,.int .u8 0,.int .u8 0]:=by rw[wG.mj];simp[q5,sZ,wG.zero,vy,qM,Vl.mM]
def wG.info:(prog.info? 49).map (λi=>(i.zero,i.size))=some (some (.agg wG.zero.arr),19):=by rw[wG.mM];kernel_rfl
attribute [go_sem] wG.mh
def Ps(s:ByteArray):AV:=.v (.string s)
def qn.av(o:qn):AV:=.agg 4 [kq o.kind,Ps o.key,Ps o.val,qU o.add]
def wG.av(a:wG):AV:=.agg 19 [kq a.code,kA a.found,a.val.av]
variable {B:nE}
section
def qn.rd{m:qn}{c:List Value}:Rd U w m.av B H c↔c=m.arr.toList:=by refine Cc iN ((nm (λc=>qV O) λc=>nm (λc=>qV O) λc=>nm (λc=>qV O) λc=>nm (λc=>qV O) λc=>yz).trans ?_);rw[qn.mj];simp[x7,zJ]
def wG.rd{m:wG}{c:List Value}:Rd U w m.av B H c↔c=m.arr.toList:=by refine Cc iN ((nm (λc=>qV O) λc=>nm (λc=>qV O) λc=>nm (λc=>Vl.rd) λc=>yz).trans ?_);rw[wG.mj];simp[x7,zJ]
end
def q9:lB prog 57 qn.zero.av:=lR qn.info λU w=>qn.rd.2 O
def tv:lB prog 49 wG.zero.av:=lR wG.info λU w=>wG.rd.2 O
def qW(l:List qn):AV:=.sl none 4 (l.map qn.av)
def PZ(n:Int)(w:World):Calls prog 286 #[.int .i64 n] w λe w'=>e= .returned (.bool (decide (1<=n/\n<=8)))/\w'=w:=by
 by_cases a:1<=n
 .by_cases c:n<=8
  .go_enter Kj,ntmps286
   go_wp2
   go_ret;exact⟨by simp[a,c],rfl⟩
  .have U:8<n:=by omega
   go_enter Kj,ntmps286
   go_wp2
   go_ret;exact⟨by simp[a,c],rfl⟩
 .have x:n<1:=by omega
  go_enter Kj,ntmps286
  go_wp2
  go_ret;exact⟨by simp[a];omega,rfl⟩
theorem Pz(v:Value)(G:List (BitVec 8))(n:BitVec 64)(H:Nat)(w:World)(h:Sl be 1 w v G)(j:G.length<=100000000000000)(a:1<=H)(c:H<=8):
 Calls prog 261 #[v,.int .u64 (w5 n),.int .i64 (H:Int)] w (Ret w λu w'=>Ji w.heap.size 5 be 1 w' u (G++ni n H)):=by
 have R:decide (1<=(H:Int)/\(H:Int)<=8)=true:=kW ⟨by omega,by omega⟩
 go_enter GL,ntmps261
 go_wp2_with (first
  |(at_builtin;refine zk kj (.const (.slice none 0 0)) (.tmp 8) kj NP CF kj kj (Ji.nil w.heap.size 5 be 1 w) h (by simp only[List.length_nil,maxLen];omega) (by simp only[List.length_nil];omega) ki ?_;intro N X r P W;have K:pr w X:=(pr.refl w).append P (Ji.nil w.heap.size 5 be 1 w) (kK _);simp only[List.nil_append]at r;clear P W)
  |(go_at_call 286;refine(PZ _ _).mono ?_;rintro e J ⟨rfl,rfl⟩))
 clear R
 go_loopw [1,7,15] (λM o i wr=>∃k:Nat,k<=H/\i= .int .i64 k/\M= .int .u64 (w5 (n>>>(8*k)))/\Ji w.heap.size 5 be 1 wr o (G++ni n k)/\pr w wr) (λ_ _ i _=>H-(intOf i).toNat)
 case atStart=>exact⟨0,by omega,rfl,rfl,by simpa[ni]using r,K⟩
 case round=>
  obtain⟨k,x,rfl,rfl,A,L⟩:=hrel;have g:=lP n k;have b:=mE g;clear g;by_cases Z:k<H
  .have U:=mE (P3 n k);have y:=mE (show n>>>(8*k)>>>8=n>>>(8*(k+1))from by rw[<-Zy];rfl)
   go_wp2_with (at_builtin;refine zk kj (.tmp 17) (.tmp 20) kj NP CF kj kj (A.alloc _) (Sl.one CF wr 5 (0,0) ((n>>>(8*k)).setWidth 8)) (by simp only[lA,b.out,List.length_singleton,maxLen];omega) (by simp only[lA,b.out,List.length_singleton];omega) (by have:=L.le;simp;omega) ?_;intro S W2 V B T;have I:pr w W2:=(L.alloc _).append B (A.alloc _) (kK _);clear B T)
   go_roundw
   case rel=>exact⟨k+1,by omega,by go_num,by rw[y.out],by rw[U.out,<-oH];exact V,I⟩
   case measure=>simp[intOf];omega
  .obtain rfl:k=H:=by omega
   go_wp2
   go_ret;exact⟨_,rfl,A,L⟩
def YB(v:Value)(G:List (BitVec 8))(B I:Nat)(w:World)(h:Sl be 1 w v G)(a:1<=I)(d:I<=8)(N:B+I<=G.length):
 Calls prog 288 #[v,.int .i64 (B:Int),.int .i64 (I:Int)] w λe w'=>e= .returned (.tuple #[.int .u64 (w5 (uj (seg G B I))),.bool true])/\w'=w:=by
 obtain⟨A,cap,rfl,l,u,Y⟩:=h;obtain⟨b,off,rfl,hb,H⟩:=Y kh;unfold maxLen at u;have g:(seg G B I).length=I:=by unfold seg;simp;omega
 have K:decide (1<=(I:Int)/\(I:Int)<=8)=true:=kW ⟨by omega,by omega⟩;have m:¬(B:Int)<0:=eY;have o:¬(G.length:Int)- I<B:=eY;have S:=mE H;have f:=mE g;clear H Y g
 go_enter Ki,ntmps288
 go_wp2_with (go_at_call 286;refine(PZ _ _).mono ?_;rintro e J ⟨rfl,rfl⟩)
 clear K
 go_loop [8,9] (λL i=>∃k:Nat,k<=I/\i= .int .i64 ((k:Int)- 1)/\L= .int .u64 (w5 (uj ((seg G B I).drop k)))) (λ_ i=>((intOf i)+1).toNat)
 case atStart=>exact⟨I,by omega,rfl,by rw[ub (by rw[f.out];omega)];simp only[uj];rw[qM]⟩
 case round=>
  obtain⟨k,x,rfl,rfl⟩:=hrel;by_cases Z:0<k
  .obtain⟨j,rfl⟩:∃j,k=j+1:=⟨k- 1,by omega⟩;have R:=MC.aj4 S.out (i:=B+j) kh;have U:=mE (adx G B I j N kh);have P:((j+1:Nat):Int)- 1=(j:Int):=eY;rw[P];have n:(0:Int)<=(B:Int)+j:=eY;have q:(B:Int)+j<G.length:=eY;have c:off+((B:Int)+j).toNat=off+(B+j):=eY;have p:(0:Int)<=(j:Int):=eY;clear P
   go_wp2
   go_round
   case rel=>exact⟨j,by omega,by go_num,by rw[U.out]⟩
   case measure=>simp[intOf]
  .obtain rfl:k=0:=by omega
   go_wp2
   exact uV (zt O CV CV) O ⟨O,rfl⟩
def Wd(v:Vl)(w:World):Calls prog 264 #[.agg v.arr] w (Is w (.int .u64 (w5 (YC v)))):=by
 have p:=Ac (g:=w.heap.size) (o:=1) (w:=w.alloc (.cells v.arr 47)) (b:=v.b) (by rw[uB _ _ _ _ _ _ _ O];exact Vl.uA v) 16 16 kh kh jp;have U:=mE p;clear p
 go_enter func264,ntmps264
 go_wp2_with fail
 refine(YB _ _ 0 8 _ U.out kh kh ki).mono ?_;rintro e J ⟨rfl,rfl⟩
 go_wp2
 go_ret;exact⟨by simp[YC,seg,QS],gP⟩
def KO(v:Value)(G:List (BitVec 8))(w:World)(h:Sl be 1 w v G)(p:G.length<=16):Calls prog 177 #[v] w (Is w (.agg (vX G).arr)):=by
 obtain⟨A,cap,rfl,i,u,Y⟩:=h;unfold maxLen at u;by_cases x:0<G.length
 .obtain⟨b,off,rfl,hb,H⟩:=MC.row CF Y x;rw[uR]at H;have J:min G.length 16=G.length:=eY;have q:min 16 G.length=G.length:=eY
  go_enter func177,ntmps177
  go_wp2
  exact uV (xA O (tD (cs:=(vX G).arr) A7 O Vl.yu O iW)) O ⟨O,gP⟩
 .obtain rfl:G= []:=pE kh
  go_enter func177,ntmps177
  go_wp2
  exact uV (xA O (tD (cs:=(vX []).arr) A7 O Vl.yu O (by rw[xO _ _ _ _ _ ki,uB _ _ _ _ _ _ _ O];rw[show vX []=Vl.zero from rfl];exact Vl.row _))) O ⟨O,gP⟩
def afp(n:BitVec 64)(w:World):Calls prog 263 #[.int .u64 (w5 n)] w (Is w (.agg (F3 n).arr)):=by
 have R:I0 (w.alloc (.cells Vl.zero.arr 47)) w.heap.size Vl.zero.arr 47:=gK;have H:=mE R;clear R;have g:=mE (lP n 8)
 go_enter func263,ntmps263
 go_wp2_with fail
 refine(Pz _ [] _ 8 _ (Sl.nil _ _ _) ki kh kh).mono ?_;rintro e J ⟨u,rfl,A,I⟩;rw[EM]at A;have o:=mE (A.sl CF);clear A
 go_wp2_with fail
 refine(KO _ _ _ o.out (by rw[g.out];omega)).mono ?_;rintro e s ⟨rfl,G⟩;have B:=H.out.ext (I.trans G);have S:=(B.row 0 17).trans (Vl.row _);have t:=B.free
 go_wp2
 exact uV (xA O (tD (cs:=(F3 n).arr) A7 O Vl.yu O iB)) O ⟨O,pr.putRow (show pr w s from gP) kh⟩
def adS(v:Vl)(n:BitVec 64)(w:World):Calls prog 214 #[.agg v.arr,.int .u64 (w5 n)] w (Is w (.agg (D1 v n).arr)):=by
 have R:I0 ((w.alloc (.cells v.arr 47)).alloc (.cells Vl.zero.arr 47)) (w.heap.size+1) Vl.zero.arr 47:=gK;have H:=mE R;clear R
 go_enter GK,ntmps214
 go_wp2_with fail
 refine(Wd _ _).mono ?_;rintro e J ⟨rfl,I⟩
 go_wp2_with fail
 refine(afp _ _).mono ?_;rintro e s ⟨rfl,G⟩;have B:=H.out.ext (I.trans G);have S:=(B.row 0 17).trans (Vl.row _);have t:=B.free
 go_wp2
 exact uV (xA O (tD (cs:=(D1 v n).arr) A7 O Vl.yu O iB)) O ⟨O,pr.putRow (show pr w s from gP) kh⟩
def Vl.sD(k:Vl):k.ok=false↔k.n<0∨16<k.n∨ys k.b k.n.toNat≠k.b:=by
 rw[<-Bool.not_eq_true,Vl.rm];constructor
 .intro h;by_cases a:k.n<0
  .exact .inl a
  .by_cases b:16<k.n
   .exact .inr (.inl b)
   .exact .inr (.inr λl=>h ⟨by omega,by omega,l⟩)
 .rintro(h|h|h) ⟨a,b,l⟩
  .omega
  .omega
  .exact h l
def abo(b:Vector (BitVec 8) 16)(n:Nat)(h:n<=16):vX (b.toList.take n)=⟨n,ys b n⟩:=by
 unfold vX;rw[<-C0,D7]
 congr 1
 simp;omega
def RW(k:Vl)(w:World):Calls prog 304 #[.agg k.arr] w (Is w (.bool k.ok)):=by
 have R:I0 (w.alloc (.cells k.arr 47)) w.heap.size k.arr 47:=gK;have H:=mE R;clear R;have L:(w.alloc (.cells k.arr 47)).cell? ⟨w.heap.size,0,none⟩=some (.int .i64 k.n):=H.out.cell 0 (Vl.zN _);by_cases i:k.n<0
 .have E:k.ok=false:=(Vl.sD k).2 (.inl i);have o:decide (0<=k.n)=false:=la kh;exact br
 have Z:0<=k.n:=eY;by_cases c:16<k.n
 .have E:k.ok=false:=(Vl.sD k).2 (.inr (.inl c));have o:decide (k.n<=16)=false:=la kh;exact br
 have U:k.n<=16:=eY;clear L;obtain⟨kn,y⟩:=k;obtain⟨n,rfl⟩:∃n:Nat,kn=(n:Int):=⟨kn.toNat,by simp at Z;omega⟩;have g:n<=16:=by simp at U;omega
 have M:(n:Int)<=16:=eY
 have x:(Vl.mk (n:Int) y).ok=decide (vX (y.toList.take n)=Vl.mk n y):=by
  rw[GI,Vl.rm,abo _ _ g];simp[M]
 have C:=mE x;clear x;have Y:mQ (w.alloc (.cells (Vl.mk n y).arr 47)) w.heap.size 0 17=some (Vl.mk n y).arr:=by rw[H.out.row];exact Vl.row _
 have L:(w.alloc (.cells (Vl.mk n y).arr 47)).cell? ⟨w.heap.size,0,none⟩=some (.int .i64 n):=H.out.cell 0 (Vl.zN _);have K:mQ (w.alloc (.cells (Vl.mk n y).arr 47)) w.heap.size 1 16=some (tN y):=by rw[H.out.row];exact Vl.uA _
 have D:=mE K;clear K
 go_enter GJ,ntmps304
 go_wp2
 go_region_held3 (λW=>mQ W w.heap.size 0 17=some (Vl.mk n y).arr/\W.cell? ⟨w.heap.size,0,none⟩=some (.int .i64 n))
  (exact⟨pr.row gP Y,pr.cell gP L⟩)
  ((go_at_call 177;refine(KO _ _ _ (Ac (pr.row gP D.out) n 16 g g jp) jY).mono ?_;rintro e J ⟨rfl,I⟩))
 go_wp2
 go_ret;exact⟨by rw[C.out];rfl,gP⟩
def Cb(k:Vl)(w:World):Calls prog 90 #[.agg k.arr] w (Is w (.bool k.ok)):=by
 by_cases o:k.n<0
 .have E:k.ok=false:=(Vl.sD k).2 (.inl o);exact bA
 have e:0<=k.n:=eY;by_cases c:16<k.n
 .have E:k.ok=false:=(Vl.sD k).2 (.inr (.inl c));exact bA
 have U:k.n<=16:=eY;obtain⟨n,hn⟩:∃n:Nat,k.n=(n:Int):=⟨k.n.toNat,by omega⟩;have H0:=mE hn;have g:n<=16:=eY;clear hn
 go_enter func90,ntmps90
 go_wp2
 go_loop [3] (λx=>∃i:Nat,n<=i/\i<=16/\x= .int .i64 i/\ ∀j (h:j<16),n<=j->j<i->k.b[j]=0#8) (λx=>16-(intOf x).toNat)
 case atStart=>exact⟨n,by omega,by omega,by rw[H0.out],λj _ a b=>absurd a kh⟩
 case round=>
  obtain⟨i,a,b,rfl,d⟩:=hrel;have N:=mE d;clear d;have F:=H0.out;have G:k.n<=i:=eY;clear F;by_cases Z:i<16
  .by_cases hb:k.b[i]=0#8
   .go_wp2
    exact bM
   .have E:k.ok=false:=(Vl.sD k).2 (.inr (.inr λh=>hb ((vk _ _).1 h i Z kh)));exact bW
  .obtain rfl:i=16:=by omega
   have E:k.ok=true:=(Vl.rm k).2 ⟨e,U,(vk _ _).2 λj l m=>N.out j l (by rw[H0.out]at m;omega) l⟩;exact bW
def Lq(v n:Int)(w:World)(i:0<n)(a:n<=9223372036854775807)(y: -9223372036854775808<=v/\v<=9223372036854775807):
 Calls prog 22 #[.int .i64 v,.int .i64 n] w λe w'=>e= .returned (.int .i64 (v%n))/\w'=w:=by
 have hn:n≠0:=eY;have f:¬n= -1:=eY;have hb:=Int.natAbs_tmod v n;have Z:(v.tmod n).natAbs<n.natAbs:=by rw[hb];exact AK _ kh
 have V:v%n=if v.tmod n<0 then v.tmod n+n else v.tmod n:=by
  have P:=Int.emod_def v n;have b:=Int.tmod_def v n;have R:=DE v hn;have S:=DD v i
  have W:v%n=v.tmod n∨v%n=v.tmod n+n:=by
   rw[Int.emod_eq_tmod];split
   .exact .inl kh
   .right;omega
  split<;>omega
 have J:=mE V;clear V hb;by_cases s:v.tmod n<0
 .have t:IntKind.i64.wrap (v.tmod n+n)=v.tmod n+n:=CI _ kh;have E:IntKind.i64.wrap (v.tmod n)=v.tmod n:=CI _ kh;have x:=mE s
  go_enter DC,ntmps22
  go_wp2
  go_ret;exact⟨by rw[J.out,kx x.out];rfl,rfl⟩
 .have E:IntKind.i64.wrap (v.tmod n)=v.tmod n:=CI _ kh;have T:=mE (J.out.trans (ku s));clear J
  go_enter DC,ntmps22
  go_wp2
  go_ret;exact⟨by rw[T.out];rfl,rfl⟩
@[irreducible] def u8L:List Value->Bool
 | []=>true
 | .int .u8 _::l=>u8L l
 |_::_=>false
def ahq:u8L []=true:=by unfold u8L;rfl
def R2(x:Int)(l:List Value):u8L (.int .u8 x::l)=u8L l:=by rw[u8L]
def LX:Value->BitVec 8
 | .int _ x=>BitVec.ofNat 8 x.toNat
 |_=>0#8
@[irreducible] def byL(l:List Value):List (BitVec 8):=l.map LX
def vJ(l:List Value):byL l=l.map LX:=by unfold byL;rfl
theorem R1:∀(l:List Value),u8L l=true-> ∃X:List Int,l=X.map (Value.int .u8)
 | [],_=>⟨[],rfl⟩
 |v::l,h=>by
  cases v with
  |int k x=>
   cases k<;>first|(rw[R2]at h;obtain⟨X,rfl⟩:=R1 l h;exact⟨x::X,rfl⟩)|(unfold u8L at h;cases h)
  |_=>unfold u8L at h;cases h
attribute [go_sem] ahq R2
theorem afD(b n c:Nat)(w:World)(l:List Value)(d:b=w.heap.size)(B:n=l.length)(e:u8L l=true):
 (convert 86 9 (.slice (some ⟨b,0,none⟩) n c)).run prog (w.alloc (.cells l.toArray 5))= .ok (.string (lW (byL l))) (w.alloc (.cells l.toArray 5)):=by
 obtain⟨X,rfl⟩:=R1 l e;subst d;subst B;rw[Q5 _ 86 9 5 _ _ _ s8 pz uU]
 have H:mQ (w.alloc (.cells (X.map (Value.int .u8)).toArray 5)) w.heap.size 0 (X.map (Value.int .u8)).length=some (X.map (Value.int .u8)).toArray:=by
  rw[uB _ _ _ _ _ _ _ O];exact pC _ _ ki
 have g:=qv (P:=prog) H;rw[GR _ ⟨w.heap.size,0,none⟩ _ c X g]
 have z:∀(l:List Int) (s:ByteArray),(l.foldl (λr n=>r.push (UInt8.ofNat n.toNat)) s)=⟨s.data++(l.map λn=>UInt8.ofNat n.toNat).toArray⟩:=by
  intro l
  induction l with
  |nil=>intro s;simp
  |cons x l y=>
   intro s;rw[GS,y]
   congr 1
   simp[ByteArray.push]
 rw[z,nH,vJ]
 congr 2
 simp[ByteArray.empty,ByteArray.emptyWithCapacity,Function.comp_def,LX];rfl
attribute [go_sem] afD
def Nj(l:List (BitVec 8))(n:Nat):(lW l).extract 0 n=lW (l.take n):=by
 rw[nH,nH];apply ByteArray.ext;rw[ByteArray.data_extract];simp[vP]
attribute [go_sem] Nj
def WZ(l:List Value):(byL l).length=l.length:=by rw[vJ];simp
def bN(n:Nat):BitVec 8:=BitVec.ofNat 8 n
def px(k:Nat):List (BitVec 8):=
 match k%8 with
 |0|1|2=> [bN (97+k/8%6)]
 |3|4=> [bN (97+k/8%5),bN (97+k/40%4)]
 |5=> [bN (97+k/8%4),0,bN (k/32%256),bN (k/8192%4),255,120,121,bN (97+k/32768%3)]
 |6=> [bN (98+k/8%3),108,111,110,103,101,114,bN (48+k/24%9)]
 |_=> [bN (k/8%256),bN (k/2048%256)].take (k/524288%3)
def za(v:Int):kH:=vh (px (v%1099511627776).toNat)
def LC(k:Nat):(px k).length<=8:=by
 unfold px;split<;>simp;omega
def alR(n:Nat)(x:Int)(h:x=(n:Int)):BitVec.ofNat 8 x.toNat=bN n:=by subst h;rfl
def ae1(v:Int)(w:World)(y: -9223372036854775808<=v/\v<=9223372036854775807):Calls prog 102 #[.int .i64 v] w (Is w (.agg (za v).arr)):=by
 obtain⟨k,x⟩:∃k:Nat,v%1099511627776=(k:Int):=⟨(v%1099511627776).toNat,by omega⟩;have Z:k<1099511627776:=eY;have U:I0 (w.alloc (.cells kH.zero.arr 113)) w.heap.size kH.zero.arr 113:=gK;have E:=mE U;have C:=mE x;have u:za v=vh (px k):=by unfold za;rw[x];rfl
 have c:=mE u;have T:=LC k;have z:=mE T;have F:(0:Int)<=(k:Int):=eY;clear U x u T;by_cases i:(k:Int)%8=0
 .have H:byL [.int .u8 (97+(k:Int)/8%6)]=px k:=by
   rw[vJ];unfold px;rw[show k%8=0 from by omega];exact cd
  exact an
 by_cases a:(k:Int)%8=1
 .have H:byL [.int .u8 (97+(k:Int)/8%6)]=px k:=by
   rw[vJ];unfold px;rw[show k%8=1 from by omega];exact cd
  exact an
 by_cases b:(k:Int)%8=2
 .have H:byL [.int .u8 (97+(k:Int)/8%6)]=px k:=by
   rw[vJ];unfold px;rw[show k%8=2 from by omega];exact cd
  exact an
 by_cases l:(k:Int)%8=3
 .have H:byL [.int .u8 (97+(k:Int)/8%5),.int .u8 (97+(k:Int)/40%4)]=px k:=by
   rw[vJ];unfold px;rw[show k%8=3 from by omega];exact cd
  exact an
 by_cases A:(k:Int)%8=4
 .have H:byL [.int .u8 (97+(k:Int)/8%5),.int .u8 (97+(k:Int)/40%4)]=px k:=by
   rw[vJ];unfold px;rw[show k%8=4 from by omega];exact cd
  exact an
 by_cases D:(k:Int)%8=5
 .have H:byL [.int .u8 (97+(k:Int)/8%4),.int .u8 (0),.int .u8 ((k:Int)/32%256),.int .u8 ((k:Int)/8192%4),.int .u8 (255),.int .u8 (120),.int .u8 (121),.int .u8 (97+(k:Int)/32768%3)]=px k:=by
   rw[vJ];unfold px;rw[show k%8=5 from by omega];exact cd
  exact an
 by_cases P:(k:Int)%8=6
 .have H:byL [.int .u8 (98+(k:Int)/8%3),.int .u8 (108),.int .u8 (111),.int .u8 (110),.int .u8 (103),.int .u8 (101),.int .u8 (114),.int .u8 (48+(k:Int)/24%9)]=px k:=by
   rw[vJ];unfold px;rw[show k%8=6 from by omega];exact cd
  exact an
 have R:(k:Int)%8=7:=eY;have I:(0:Int)<=(k:Int)/524288%3:=eY;have K:(k:Int)/524288%3<=2:=eY;have p:(lW (byL [.int .u8 ((k:Int)/8%256),.int .u8 ((k:Int)/2048%256)])).size=2:=by rw[rG,WZ];rfl
 have H:(byL [.int .u8 ((k:Int)/8%256),.int .u8 ((k:Int)/2048%256)]).take (k/524288%3)=px k:=by
  rw[vJ];unfold px;rw[show k%8=7 from by omega];simp only[nc,AJ,LX];rw[alR (k/8%256) _ kh,alR (k/2048%256) _ kh]
 exact an
def rp(l:List kH):AV:=.sl none 9 (l.map kH.av)
def lJ(l:List Int):AV:=.sl none 1 (l.map kq)
def tp(l:List (BitVec 8)):AV:=.sl none 1 (l.map lN)
def nk(l:List lq):AV:=.sl none 29 (l.map lq.av)
def pI(l:List mL):AV:=.sl none 26 (l.map mL.av)
def ES(a:kH):mG prog 266 [a.av] (kA a.ok):=λU w vs h=>by
 obtain⟨N,J,rfl,b,h⟩:=oo h;obtain rfl:=rE h;rw[WN.rdv.1 b];exact PI (Ax a w) λw'=>ait (w:=w) O
def zQ(a b:kH):mG prog 155 [a.av,b.av] (kq (lx a b)):=λU w vs h=>by
 obtain⟨N,J,rfl,c,h⟩:=oo h;obtain⟨S,J,rfl,d,h⟩:=oo h;obtain rfl:=rE h;rw[WN.rdv.1 c,WN.rdv.1 d];exact PI (Wt a b w) λw'=>ait (w:=w) O
def ON(a:Vl):mG prog 304 [a.av] (kA a.ok):=λU w vs h=>by
 obtain⟨N,J,rfl,b,h⟩:=oo h;obtain rfl:=rE h;rw[dVl.rdv.1 b];exact PI (RW a w) λw'=>ait (w:=w) O
def Pm{n:BitVec 64}(h:qJ U w B H (qU n) v):v= .int .u64 (w5 n):=(nM.1 h).2
def yF{n:Int}(h:qJ U w B H (kq n) v):v= .int .i64 n:=(nM.1 h).2
def Ra(a:Vl)(n:BitVec 64):mG prog 214 [a.av,qU n] (D1 a n).av:=λU w vs h=>by
 obtain⟨N,J,rfl,b,h⟩:=oo h;obtain⟨S,J,rfl,c,h⟩:=oo h;obtain rfl:=rE h;rw[dVl.rdv.1 b,Pm c];exact PI (adS a n w) λw'=>dVl.rdv.2 O
def amn(v:Int)(y: -9223372036854775808<=v/\v<=9223372036854775807):mG prog 102 [kq v] (za v).av:=λU w vs h=>by
 obtain⟨N,J,rfl,a,h⟩:=oo h;obtain rfl:=rE h;rw[yF a];exact PI (ae1 v w y) λw'=>WN.rdv.2 O
@[irreducible] def lq.ok(m:lq):Bool:=decide (1<=m.kind)&&decide (m.kind<=3)&&m.key.ok&&(if m.kind=1 then m.val.ok else decide (m.val=Vl.zero))&&(decide (m.kind=3)||decide (m.add=0#64))
def ZU(n:BitVec 64):w5 n=0↔n=0#64:=by
 rw[<-qM];exact aju
def lq.no1{m:lq}(h:m.kind<1):m.ok=false:=by unfold lq.ok;simp[show¬1<=m.kind by omega]
def lq.no3{m:lq}(h:3<m.kind):m.ok=false:=by unfold lq.ok;simp[show¬m.kind<=3 by omega]
def lq.nok{m:lq}(h:m.key.ok=false):m.ok=false:=by unfold lq.ok;simp[h]
def lq.nov{m:lq}(a:m.kind=1)(h:m.val.ok=false):m.ok=false:=by unfold lq.ok;simp[a,h]
def lq.noz{m:lq}(a:¬m.kind=1)(h:m.val≠Vl.zero):m.ok=false:=by unfold lq.ok;simp[a,h]
def lq.ank{m:lq}(a:m.kind=1)(w:m.key.ok=true)(h:m.val.ok=true):m.ok=decide (w5 m.add=0):=by
 unfold lq.ok;simp[a,w,h,ZU]
def lq.anl{m:lq}(a:m.kind=2)(w:m.key.ok=true)(h:m.val=Vl.zero):m.ok=decide (w5 m.add=0):=by
 unfold lq.ok;simp[a,w,h,ZU]
def lq.anm{m:lq}(a:m.kind=3)(w:m.key.ok=true)(h:m.val=Vl.zero):m.ok=true:=by
 unfold lq.ok;simp[a,w,h]
def lq.spec{m:lq}(h:m.ok=true):1<=m.kind/\m.kind<=3/\m.key.ok=true/\m.val.ok=true/\(m.kind≠1->m.val=Vl.zero)/\(m.kind≠3->m.add=0#64):=by
 unfold lq.ok at h;simp only[l5,wu,nO]at h;obtain⟨⟨⟨⟨a,b⟩,k⟩,A⟩,D⟩:=h;by_cases c:m.kind=1
 .rw[kx c]at A;exact⟨a,b,k,A,λn=>absurd c n,λn=>D.resolve_left n⟩
 .rw[ku c,nO]at A;exact⟨a,b,k,by rw[A];exact Vl.XD,λ_=>A,λn=>D.resolve_left n⟩
def kH.EA{k:kH}(h:k.ok=true):0<=k.n/\k.n<=8:=by have:=(kH.rm k).1 h;exact⟨this.1,this.2.1⟩
def Vl.EA{k:Vl}(h:k.ok=true):0<=k.n/\k.n<=16:=by have:=(Vl.rm k).1 h;exact⟨this.1,this.2.1⟩
def lq.size(m:lq):Int:=if m.ok then(if m.kind=1 then 11+m.key.n+m.val.n else if m.kind=3 then 18+m.key.n else 10+m.key.n)else 0
def rI(v:Vl)(R:Bool)(m:lq):Vl×Bool:=
 if m.kind=1 then(m.val,true)else if m.kind=2 then(Vl.zero,false)else if R then(D1 v m.add,true)else(F3 m.add,true)
def nZ(o n:lq):lq:=
 if n.kind≠3∨o.key≠n.key then n else
 if o.kind=1 then⟨1,n.seq,n.key,D1 o.val n.add,0#64⟩else
 if o.kind=2 then⟨1,n.seq,n.key,F3 n.add,0#64⟩else
 ⟨3,n.seq,n.key,Vl.zero,o.add+n.add⟩
def KN(n:BitVec 64):D1 Vl.zero n=F3 n:=by
 unfold D1;rw[show YC Vl.zero=0#64 from by decide];simp
section
def y7{a b:BitVec 64}(n:lK nt d=true)(j:kv T x=some (.v (.int .u64 (w5 a))))(F:kv T y=some (.v (.int .u64 (w5 b)))):kE prog E nt ops ⟨d,.binOp .add t x y t',ty,pos,af,gd⟩ T H [] ⟨.v (.int .u64 (w5 (a+b))),[]⟩:=aej n j F (ZV a b)
def t5{t:Nat}{fs:List (Nat×Nat×Bool)}(e:xG t=some z)(R:z= .agg n zs)(o:lK nt d=true)(p:kM.ti t=some (.st n fs))(X:tF 0 zs fs=true):
 kE prog E nt ops ⟨d,.build t #[],ty,pos,af,gd⟩ T H [] ⟨z,[]⟩:=by
 subst R;exact SQ kM (l:= []) (vs:= []) o p (tz e) O O X
end
def mL.size(e:mL):Int:=2+e.key.n+e.val.n
def rX(l:List mL):Int:=(l.map mL.size).sum
def oK(k:kH)(l:List mL):Nat:=l.countP λe=>decide (e.key.lV<k.lV)
def IY(l:List mL):Prop:=l.Pairwise λa b=>a.key.lV<b.key.lV
def EOk(l:List mL):Prop:=∀e∈l,e.key.ok=true/\e.val.ok=true
structure Lf(l:List mL):Prop where
 ok:EOk l
 DV:IY l
def oc(k:kH)(l:List mL):Option Vl:=(l.find? λe=>decide (e.key=k)).map (·.val)
def ap(m:lq)(o:Option Vl):Option Vl:=if m.kind=1 then some m.val else if m.kind=2 then none else match o with
 |some v=>some (D1 v m.add)
 |none=>some (F3 m.add)
def N9(o:Option Vl):Vl×Bool:=match o with
 |some v=>(v,true)
 |none=>(Vl.zero,false)
def abP(m:lq)(o:Option Vl):rI (N9 o).1 (N9 o).2 m=N9 (ap m o):=by
 unfold rI ap;by_cases a:m.kind=1
 .rw[kx a,kx a];rfl
 .rw[ku a,ku a];by_cases b:m.kind=2
  .rw[kx b,kx b];rfl
  .rw[ku b,ku b];cases o<;>rfl
def BG(k:kH)(o:Option Vl):List mL:=match o with
 |some v=> [⟨k,v⟩]
 |none=> []
def yC(l:List mL)(k:kH)(o:Option Vl):List mL:=l.filter (λe=>decide (e.key.lV<k.lV))++(BG k o++l.filter (λe=>decide (k.lV<e.key.lV)))
def ui(l:List mL)(m:lq):List mL:=yC l m.key (ap m (oc m.key l))
def tH(l:List mL)(ms:List lq):List mL:=ms.foldl ui l
def P1(k:kH)(l:List mL):oK k l<=l.length:=H6
def C7(k:kH)(e:mL)(l:List mL):oK k (e::l)=oK k l+if e.key.lV<k.lV then 1 else 0:=by
 unfold oK;rw[Kh];simp
def IY.tail{e:mL}{l:List mL}(h:IY (e::l)):IY l:=(GH.1 h).2
def IY.head{e:mL}{l:List mL}(h:IY (e::l)):∀b∈l,e.key.lV<b.key.lV:=(GH.1 h).1
def HO{k:kH}{l:List mL}(h:∀b∈l,k.lV<=b.key.lV):oK k l=0:=by
 unfold oK;rw[Zt];intro b hb;have:=h b hb;simp;omega
def Ls{k:kH}{l:List mL}(h:IY l):∀i (hi:i<l.length),(i<oK k l↔l[i].key.lV<k.lV):=by
 induction l with
 |nil=>intro i hi;cases hi
 |cons e l y=>
  intro i hi;rw[C7];by_cases c:e.key.lV<k.lV
  .rw[kx c];cases i with
   |zero=>simp[c]
   |succ i=>simpa using y h.tail i jz
  .rw[ku c];have d:oK k l=0:=HO λb hb=>fI;rw[d];cases i with
   |zero=>simp;omega
   |succ i=>
    have D:i<l.length:=fJ;have:=h.head l[i] (ng D);simp;omega
def IY.lt{l:List mL}(h:IY l){i j:Nat}(hi:i<l.length)(k:j<l.length)(x:i<j):l[i].key.lV<l[j].key.lV:=Kg.1 h i j hi k x
def IY.inj{l:List mL}(h:IY l){a b:mL}(N:a∈l)(d:b∈l)(L:a.key.lV=b.key.lV):a=b:=by exact bH
def vt{l:List mL}(h:IY l)(k:kH)(v:Vl):oc k l=some v↔(⟨k,v⟩:mL)∈l:=by
 unfold oc;constructor
 .intro z;rw[s9]at z;obtain⟨e,a,b⟩:=z;have m:=DB a;have A:=GG a;rw[nO]at A;subst A;subst b;exact m
 .intro T;cases z:l.find? (λe=>decide (e.key=k))with
  |none=>
   rw[QR]at z;have:=z _ T;simp at this
  |some e=>
   have m:=DB z;have A:=GG z;rw[nO]at A;have:=h.inj m T (by rw[A]);rw[this];rfl
theorem Ya:∀{l1 l2:List mL},IY l1->IY l2->(∀e,e∈l1↔e∈l2)->l1=l2
 | [],l2,_,_,h=>by
  cases l2 with
  |nil=>rfl
  |cons b l=>exact absurd ((h b).2 ki) ki
 |a::l1,[],_,_,h=>absurd ((h a).1 ki) ki
 |a::l1,b::l2,d,f,h=>by
  have q:a=b:=by
   have m1:=(h a).1 ki;have m2:=(h b).2 ki;rcases mf.1 m1 with m1|m1
   .exact m1
   .rcases mf.1 m2 with m2|m2
    .exact m2.symm
    .have:=f.head a m1;have:=d.head b m2;omega
  subst q;rw[Ya d.tail f.tail (λe=>?_)];constructor
  .intro L;rcases mf.1 ((h e).1 (nV _ L))with c|c
   .subst c;have:=d.head e L;omega
   .exact c
  .intro L;rcases mf.1 ((h e).2 (nV _ L))with c|c
   .subst c;have:=f.head e L;omega
   .exact c
def alw{i W:List mL}(c:Lf i)(d:Lf W)(h:∀k,k.ok=true->oc k i=oc k W):i=W:=by
 refine Ya c.DV d.DV λe=>?_;have a:=vt c.DV e.key e.val;have b:=vt d.DV e.key e.val;constructor
 .intro L;exact b.1 ((h _ (c.ok e L).1)▸a.2 L)
 .intro L;exact a.1 ((h _ (d.ok e L).1).symm▸b.2 L)
def YW{l:List mL}(h:IY l){k:kH}{i:Nat}(hi:i<l.length)(L:l[i].key=k):oc k l=some l[i].val:=by
 rw[vt h];subst L;exact ng hi
def ama{l:List mL}(h:IY l){k:kH}{i:Nat}(hi:i<l.length)(L:l[i].key.lV=k.lV):oK k l=i:=by
 have a:=(Ls (k:=k) h i hi);have m:=P1 k l;rcases GP (oK k l) i with c|c|c
 .have A:=(Ls (k:=k) h (oK k l) kh);have:=h.lt kh hi c;omega
 .exact c
 .omega
def Wz{l:List mL}(h:IY l){k:kH}(B:∀(hi:oK k l<l.length),l[oK k l].key≠k):oc k l=none:=by
 cases t:oc k l with
 |none=>rfl
 |some v=>
  rw[vt h]at t;obtain⟨i,hi,L⟩:=vN.1 t;have:=ama h (k:=k) hi (by rw[L]);subst this;exact absurd (by rw[L]) (B hi)
def afr{k:kH}{l:List mL}(h:IY l):l.filter (λe=>decide (e.key.lV<k.lV))=l.take (oK k l):=by
 induction l with
 |nil=>rfl
 |cons e l y=>
  rw[C7];by_cases c:e.key.lV<k.lV
  .rw[kx c,Zs jK,Q2,y h.tail]
  .rw[ku c,DA jK];have d:oK k l=0:=HO λb hb=>fI;rw[y h.tail,d];rfl
def Y0{k:kH}{l:List mL}(h:∀b∈l,k.lV<b.key.lV):l.filter (λe=>decide (k.lV<e.key.lV))=l:=by
 rw[Zr];intro b hb;simpa using h b hb
def afs{k:kH}{l:List mL}(h:IY l):l.filter (λe=>decide (k.lV<e.key.lV))=l.drop (oK k l+if(∃hi:oK k l<l.length,l[oK k l].key.lV=k.lV)then 1 else 0):=by
 induction l with
 |nil=>simp
 |cons e l y=>
  by_cases c:e.key.lV<k.lV
  .have P:oK k (e::l)=oK k l+1:=by rw[C7,kx c]
   have i:(∃hi:oK k (e::l)<(e::l).length,(e::l)[oK k (e::l)].key.lV=k.lV)↔(∃hi:oK k l<l.length,l[oK k l].key.lV=k.lV):=by exact cI
   have K:=y h.tail;rw[DA jY,K];by_cases g:∃hi:oK k l<l.length,l[oK k l].key.lV=k.lV
   .rw[kx g,kx (i.2 g),P,show oK k l+1+1=(oK k l+1)+1 from rfl,DI]
   .rw[ku g,ku (λx=>g (i.1 x)),P,vA,vA,DI]
  .have j:oK k l=0:=HO λb hb=>by have:=h.head b hb;omega
   have P:oK k (e::l)=0:=by rw[C7,ku c,j]
   rw[P];by_cases d:e.key.lV=k.lV
   .rw[kx ⟨by simp[P],by simpa[P]using d⟩,DA jY,Y0 (λb hb=>by have:=h.head b hb;omega)];rfl
   .rw[ku (λ⟨_,f⟩=>d (by simpa[P]using f)),Y0 (λb hb=>by
     rcases mf.1 hb with rfl|hb
     .omega
     .have:=h.head b hb;omega)]
    rfl
def ahF{l:List mL}(h:IY l){k:kH}(o:Option Vl)(hi:oK k l<l.length)(L:l[oK k l].key=k):yC l k o=l.take (oK k l)++(BG k o++l.drop (oK k l+1)):=by
 unfold yC;rw[afr h,afs h,kx ⟨hi,by rw[L]⟩]
def akM{l:List mL}(h:Lf l){k:kH}(w:k.ok=true)(o:Option Vl)(B:∀(hi:oK k l<l.length),l[oK k l].key≠k):yC l k o=l.take (oK k l)++(BG k o++l.drop (oK k l)):=by
 unfold yC;rw[afr h.DV,afs h.DV,ku]
 .rfl
 .rintro⟨hi,b⟩;exact B hi ((La (h.ok _ (ng hi)).1 w).1 b)
def YI{l:List mL}{k:kH}{o:Option Vl}{e:mL}:e∈yC l k o↔(e∈l/\e.key.lV≠k.lV)∨(e.key=k/\o=some e.val):=by
 unfold yC;simp only[rJ,tr,nO]
 have hn:e∈BG k o↔e.key=k/\o=some e.val:=by
  unfold BG;cases o with
  |none=>simp
  |some v=>
   simp only[s7,mr];constructor
   .rintro rfl;exact⟨O,rfl⟩
   .rintro⟨h1,b⟩;cases e;simp_all
 rw[hn];exact ba
def X9{l:List mL}(h:IY l)(k:kH)(o:Option Vl):IY (yC l k o):=by
 unfold IY yC
 have hn:∀e∈BG k o,e.key=k:=λe L=>by
  unfold BG at L;cases o with
  |none=>cases L
  |some v=>simp only[s7]at L;subst L;rfl
 rw[Kf,Kf];refine⟨h.sublist Ke,⟨?_,h.sublist Ke,λa N b hb=>?_⟩,λa N b hb=>?_⟩
 .unfold BG;cases o with
  |none=>exact List.Pairwise.nil
  |some v=>exact Zq ..
 .rw[hn a N];simpa using(tr.1 hb).2
 .have c:a.key.lV<k.lV:=by simpa using(tr.1 N).2
  rcases rJ.1 hb with hb|hb
  .rw[hn b hb];exact c
  .have d:k.lV<b.key.lV:=by simpa using(tr.1 hb).2
   omega
def OOk(o:Option Vl):Prop:=∀v,o=some v->v.ok=true
def alv{l:List mL}(h:Lf l){k:kH}(w:k.ok=true){o:Option Vl}(U:OOk o):Lf (yC l k o):=by
 refine⟨λe L=>?_,X9 h.DV k o⟩;rcases YI.1 L with⟨a,_⟩|⟨a,b⟩
 .exact h.ok e a
 .exact⟨by rw[a];exact w,U _ b⟩
def aiD{l:List mL}(h:Lf l){k:kH}(w:k.ok=true)(o:Option Vl){x:kH}(j:x.ok=true):oc x (yC l k o)=if x=k then o else oc x l:=by
 apply Option.ext;intro v;rw[vt (X9 h.DV k o),YI];by_cases c:x=k
 .rw[kx c];subst c;simp
 .rw[ku c,vt h.DV];have:x.lV≠k.lV:=λe=>c ((La j w).1 e);simp[c,this]
def alE{l:List mL}(h:Lf l)(k:kH):OOk (oc k l):=λv y=>(h.ok _ ((vt h.DV k v).1 y)).2
def ac4(v:Vl)(n:BitVec 64):(D1 v n).ok=true:=F1 _
def an1{m:lq}(T:m.ok=true){o:Option Vl}(U:OOk o):OOk (ap m o):=by
 obtain⟨a,b,k,A,_⟩:=lq.spec T;unfold ap;intro v y;split at y
 .injection y with y;subst y;exact A
 .split at y
  .cases y
  .split at y
   .injection y with y;subst y;exact ac4 _ _
   .injection y with y;subst y;exact F1 _
def EC{l:List mL}(h:Lf l){m:lq}(T:m.ok=true):Lf (ui l m):=alv h (lq.spec T).2.2.1 (an1 T (alE h _))
def Qb{l:List mL}(h:Lf l){m:lq}(T:m.ok=true){x:kH}(j:x.ok=true):oc x (ui l m)=if x=m.key then ap m (oc m.key l)else oc x l:=aiD h (lq.spec T).2.2.1 _ j
variable {ms:List lq}
def ae2:∀{l:List mL},Lf l->(∀m∈ms,m.ok=true)->Lf (tH l ms):=by
 induction ms with
 |nil=>intro l h _;exact h
 |cons m ms y=>intro l h T;exact y (EC h (T m ki)) (λx j=>T x (nV _ j))
def Aw:Lf []:=⟨(λe h=>by cases h),List.Pairwise.nil⟩
def ahE{l:List mL}(k:kH)(o:Option Vl):(yC l k o).length<=l.length+1:=by
 unfold yC;have a:(BG k o).length<=1:=by unfold BG;cases o<;>simp
 have b:(l.filter (λe=>decide (e.key.lV<k.lV))).length+(l.filter (λe=>decide (k.lV<e.key.lV))).length<=l.length:=by
  induction l with
  |nil=>simp
  |cons e l y=>
   simp only[QP];split<;>split<;>simp_all<;>omega
 simp only[lA];omega
def ahP(l:List mL)(m:lq):(ui l m).length<=l.length+1:=ahE _ _
theorem DM:∀(ms:List lq) (l:List mL),(tH l ms).length<=l.length+ms.length
 | [],l=>by simp[tH]
 |m::ms,l=>by have a:=DM ms (ui l m);have b:=ahP l m;simp only[tH,List.foldl_cons,List.length_cons]at a⊢;omega
def Tj(k:kH)(l:List mL):Bool:=match l[oK k l]? with
 |some e=>decide (e.key=k)
 |none=>false
def Cq{k:kH}{l:List mL}(hi:oK k l<l.length):Tj k l=decide (l[oK k l].key=k):=by
 unfold Tj;rw[kQ hi]
def HN{k:kH}{l:List mL}(hi:¬oK k l<l.length):Tj k l=false:=by
 unfold Tj;rw[pN kh]
section
attribute [local irreducible] kE lM AW mU lL mG mC lj lT ly kN
def ZH(v:Vl)(b:Bool)(m:lq)(T:1<=m.kind/\m.kind<=3):mG prog 152 [v.av,kA b,m.av] (.mz [(rI v b m).1.av,kA (rI v b m).2]):=by
 refine kR Kd O ntmps152 O ki [_,_] O λE S=>?_;have c1:=Ra Vl.zero m.add;rw[KN]at c1;have W:=kD GK (c1);have z:=kD GK (Ra v m.add);unfold rI;by_cases p:m.kind=1
 .rw[kx p];exact dH
 rw[ku p];by_cases w:m.kind=2
 .rw[kx w];exact dH
 rw[ku w];have x:m.kind=3:=eY;cases b with
 |true=>
  have k':(!true)=false:=rfl;exact dH
 |false=>
  have k':(!false)=true:=rfl;exact dH
def IV(l:List mL)(k:kH)(h:IY l)(g:l.length<=1000000000):mG prog 151 [pI l,k.av] (.mz [kq (oK k l:Nat),kA (Tj k l)]):=by
 refine kR Kc O ntmps151 O ki [_,_] O λE S=>?_;have o:=P1 k l;refine wL ?_;refine kU (λj:Nat×Nat=>⟨[(0,pI l),(3,.ptr 3 0 []),(6,.ptr 6 0 [])],[(3,.var k.av),(6,.var (.arr 2 1 [kq j.1,kq j.2]))]⟩) (λj=>j.1<=oK k l/\oK k l<=j.2/\j.2<=l.length) (λj=>j.2- j.1) (0,l.length) ⟨kO _,o,kK _⟩ ed (λj i=>?_);obtain⟨lo,hi⟩:=j;obtain⟨b,z,m⟩:=i;dsimp only at b z m⊢;by_cases c:lo<hi
 .have T:(lo+hi)/2<l.length:=by omega
  have R:=Ls (k:=k) h _ T;have c1:=kD A5 (zQ l[(lo+hi)/2].key k);by_cases q:lx l[(lo+hi)/2].key k<0
  .have F:=q;rw[qy,CU]at F;refine wL ?_;refine⟨((lo+hi)/2+1,hi),⟨by dsimp only;omega,z,m⟩,by dsimp only;omega,?_⟩;exact ed
  .have F:=q;rw[qy,CU]at F;refine wL ?_;exact bS
 .obtain rfl:lo=oK k l:=by omega
  by_cases e:oK k l<l.length
  .rw[Cq e];exact dN
  .rw[HN e];exact dN
def Xm(l:List mL)(k:kH)(h:IY l)(g:l.length<=1000000000):mG prog 171 [pI l,k.av] (.mz [(N9 (oc k l)).1.av,kA (N9 (oc k l)).2]):=by
 refine kR func171 O ntmps171 O ki [_,_] O λE S=>?_;have s:=IV l k h g;have N:(!true)=false:=rfl;have i:(!false)=true:=rfl;by_cases e:oK k l<l.length
 .by_cases q:l[oK k l].key=k
  .rw[Cq e,kW q]at s;rw[YW h e q];exact dq
  .rw[Cq e,la q]at s;rw[Wz h (λ_=>q)];exact dq
 .rw[HN e]at s;rw[Wz h (λhi=>absurd hi e)];exact dq
end
section
def acZ(n:Int):IntKind.u8.wrap n=n%256:=by simp[IntKind.wrap,IntKind.bits,IntKind.signed]
def C4{s:TypeId}{n:Int}(p:∃u,prog.underlying s=some u)(v:prog.underlying t=some (.int .u8))(o:lK nt d=true)(j:kv T x=some (.v (.int .i64 n))):kE prog E nt ops ⟨d,.convert s t x,ty,pos,af,gd⟩ T H [] ⟨lN (BitVec.ofInt 8 n),[]⟩:=
 vp p v o j (by rw[rB,Mi,acZ];omega)
def C2{s:TypeId}{n:Int}(p:∃u,prog.underlying s=some u)(v:prog.underlying t=some (.int .u64))(o:lK nt d=true)(j:kv T x=some (.v (.int .i64 n))):kE prog E nt ops ⟨d,.convert s t x,ty,pos,af,gd⟩ T H [] ⟨qU (BitVec.ofInt 64 n),[]⟩:=
 vp p v o j (by rw[oJ,Mi,xw];omega)
def ajt(x y:BitVec 64):IntKind.u64.wrap (w5 x*w5 y)=w5 (x*y):=by
 rw[xw,oJ,oJ,oJ,BitVec.toNat_mul,<-QO];omega
def PQ{a:BitVec 64}{c:Int}(n:lK nt d=true)(j:kv T x=some (.v (.int .u64 (w5 a))))(F:kv T y=some (.v (.int .u64 c)))(i:0<=c/\c<18446744073709551616):kE prog E nt ops ⟨d,.binOp .mul t x y t',ty,pos,af,gd⟩ T H [] ⟨qU (a*BitVec.ofInt 64 c),[]⟩:=by
 have:=ab7 c i.1 i.2;rw[<-this]at F;exact ad9 n j F (ajt a _)
theorem OF{U:u0}{w:World}{B:nE}{H:Hp}:∀{l:List (BitVec 8)} {c:List Value},ov U w 1 (l.map lN) B H c->c=(l.map λb=>Int.ofNat b.toNat).map (Value.int .u8)
 | [],c,h=>by simpa[ov]using h
 |b::l,c,h=>by
  simp only[nc,ov]at h;obtain⟨c1,c2,rfl,a,d,k⟩:=h;rw[OF k];simp only[lN,Rd]at d;rw[d.2,rB];simp
def WC(l:List (BitVec 8)):(l.map λb=>Int.ofNat b.toNat).foldl (λr n=>r.push (UInt8.ofNat n.toNat)) ByteArray.empty=lW l:=by
 have z:∀(l:List (BitVec 8)) (s:ByteArray),((l.map λb=>Int.ofNat b.toNat).foldl (λr n=>r.push (UInt8.ofNat n.toNat)) s)=⟨s.data++(l.map λb=>UInt8.ofNat b.toNat).toArray⟩:=by
  intro l
  induction l with
  |nil=>intro s;simp
  |cons x l y=>
   intro s;rw[nc,GS,y]
   congr 1
   simp[ByteArray.push]
 rw[z,nH]
 congr 1
 simp only[ByteArray.empty,ByteArray.emptyWithCapacity]
 have T:(l.map λb=>UInt8.ofNat b.toNat)=l.map UInt8.ofBitVec:=Kb λb _=>by
  apply UInt8.eq_of_toBitVec_eq;simp
 rw[T];apply sr;rw[Zp];rfl
def C3{s:TypeId}{tok:Option Nat}{l:List (BitVec 8)}(o:prog.underlying s=some (.slice e))(L:prog.underlying e=some (.int .u8))(u:prog.underlying t=some .string)(n:lK nt d=true)(k:kv T x=some (.sl tok 1 (l.map lN))):kE prog E nt ops ⟨d,.convert s t x,ty,pos,af,gd⟩ T H [] ⟨.v (.string (lW l)),[]⟩:=
 lO n λB T' H' a w r M D=>by
  have h:=ml ki (r.eval ((M x js).trans k)) O;simp only[Rd]at h;obtain⟨A,cap,f,g,m,C,_⟩:=h;injection f with f;refine⟨.string (lW l),?_,by rw[nM];exact⟨O,rfl⟩⟩;have y:=Q5 (P:=prog) w s t e A (l.map lN).length cap o L u;simp only[execOp,f,y,Sem.run_bind];by_cases p:0<(l.map lN).length
  .obtain⟨b,off,c,rfl,i,_,k3⟩:=C p;have v:=OF k3;rw[uR]at i;have j:=qv (P:=prog) i;rw[v]at j;rw[GR w _ _ cap _ j,WC];rfl
  .have N:l= []:=by cases l with
    |nil=>rfl
    |cons a l=>simp at p
   subst N;have z:(loadCells ⟨0,0,none⟩ 0).run prog w= .ok #[] w:=by simp[loadCells,loadCellsFrom]
   cases A with
   |none=>simp[Conv.bytesToString,nH];rfl
   |some a=>
    have:=GR (P:=prog) w a 0 cap [] (by simp[loadCells,loadCellsFrom]);rw[kX,Q4,this];simp[nH];rfl
def PR{f:α->AV}{x0:α}{bytes:Nat}(o:lK nt (some g)=true)(p:kM.ti t=some (.sl e (es+1) bytes ea))(d:xG e=some (f x0))(j:kv T x=some (.v (.int k (n:Nat))))(F:kv T y=some (.v (.int k' (n:Nat))))(u:H g=none)(c:bytes*n<=140737488355328)(B:n<=9223372036854775807):
 kE prog E nt ops ⟨some g,.makeSlice t x y,ty,pos,af,gd⟩ T H [] ⟨.seg g 0 (es+1) [] n n,[(g,.var (.arr (n*(es+1)) (es+1) ((List.replicate n x0).map f)))]⟩:=by
 rw[xj];exact Ys kM o p (tz d) j F u c B
def t9{bytes:Nat}(n:lK nt d=true)(o:kM.ti t=some (.sl e es bytes ea))(l:kv T x=some (.seg g off es p len cap))(hi:kv T ix=some (.v (.int k (i:Nat))))(j:i<len):
 kE prog E nt ops ⟨d,.indexAddr t x ix,ty,pos,af,gd⟩ T H [] ⟨.ptr g (off+i*es) (p++[i]),[]⟩:=VZ kM n o l hi j
def ano{f:α->AV}{G:List α}{b:α}{m:Nat}(j:kv T x=some (.ptr g (0+i*es) ([]++[i])))(F:kv T y=some (f b))(u:H g=some (.var (.arr m es (G.map f))))(hi:i<G.length)
 (o:kM.sa t=some (na (f b),es)) (p:lE (f b)=es) (M:∀a,lE (f a)=es) (W:mO (f b)=true) (N:lS (f b)=true):
 kE prog E nt ops ⟨none,.store t x y,ty,pos,af,gd⟩ T H [] ⟨.mz [],[(g,.var (.arr m es ((G.set i b).map f)))]⟩:=by
 have v:sU ([]++[i]) (.arr m es (G.map f))=some (f G[i]):=by simp[sU,hi]
 have P:tj ([]++[i]) (.arr m es (G.map f))=0+i*es:=by simp[tj]
 have k:xM (f b) ([]++[i]) (.arr m es (G.map f))=some (.arr m es ((G.set i b).map f)):=by simp[xM,hi,W,uT]
 exact nX kM (d:=none) O j F u v P k (by rw[p];exact o) (by rw[p,M]) N
end
def GX(v n:Int)(i:0<n)(a:n<=9223372036854775807)(y: -9223372036854775808<=v/\v<=9223372036854775807):mG prog 22 [kq v,kq n] (kq (v%n)):=λU w vs h=>by
 obtain⟨N,J,rfl,f,h⟩:=oo h;obtain⟨S,J,rfl,k2,h⟩:=oo h;obtain rfl:=rE h;rw[yF f,yF k2];exact(Lq v n w i a y).mono λe w' ⟨m,q2⟩=>⟨_,m,ait (w:=w) O,by rw[q2];exact pr.refl w⟩
def XS(k i:Nat):BitVec 8:=BitVec.ofInt 8 ((k:Int)/17+(i:Int)*((k:Int)/4352))
def BT(k:Nat):List (BitVec 8):=(List.range (k%17)).map (XS k)
def IJ(v:Int):Vl:=vX (BT (v%1099511627776).toNat)
def xx(k:Nat):(BT k).length=k%17:=by simp[BT]
def MV(k j:Nat):List (BitVec 8):=(BT k).take j++List.replicate (k%17- j) 0#8
def aaq(k:Nat):MV k 0=List.replicate (k%17) 0#8:=by simp[MV]
def ac7(k:Nat):MV k (k%17)=BT k:=by
 unfold MV;rw[pO (by rw[xx];exact kK _)];simp
def ac6(k j:Nat)(h:j<=k%17):(MV k j).length=k%17:=by
 unfold MV;rw[lA,n5,pj,xx];omega
def ac5(k j:Nat)(h:j<k%17):(MV k j).set j (XS k j)=MV k (j+1):=by
 unfold MV;have g:((BT k).take j).length=j:=by rw[n5,xx];omega
 rw[List.set_append,ku kh,g,DG,show k%17- j=(k%17-(j+1))+1 by omega,GM,List.set_cons_zero];rw[<-vM (show j<(BT k).length by rw[xx];exact h)];simp[BT]
def abT(G:List (BitVec 8))(h:G.length<=16):mG prog 56 [.v (.string (lW G))] (.mz [(vX G).av,kq 0]):=λU w vs H=>by
 obtain⟨N,J,rfl,a,H⟩:=oo H;obtain rfl:=rE H;rw[(nM.1 a).2];have:=Sr G w;rw[kx h]at this
 exact PI this λw'=>by
  rw[mW];refine⟨[.agg (vX G).arr,.int .i64 0],rfl,?_⟩;simp only[oe];exact⟨(vX G).arr.toList,[.int .i64 0],rfl,Vl.rd.2 O,[.int .i64 0],[],rfl,(qV O).2 O,rfl⟩
def lL.ref{T:List (Nat×AV)}{H:List (Nat×Bx)}(s g:Nat){x:AV}(o:kV s T=some (.ptr g 0 []))(t:kV g H=some (.froz x))(n:mO x=true):lL E nt ⟨T,H⟩ ⟨(s,.ref x)::T,H⟩:=λB a w r=>by
 refine⟨B,r.nt,r.df,λi y j=>?_,r.box,r.x3,r.inj,r.left,r.qa,r.fx⟩;have q:St.t ⟨(s,AV.ref x)::T,H⟩=l9 (St.t ⟨T,H⟩) s (.ref x):=kZ _ _ _;rw[q]at j;by_cases h:i=s
 .subst h;rw[kB]at j;injection j with j;subst j;obtain⟨v,c,d⟩:=r.tmp i _ o;refine⟨v,c,?_⟩;have k:=ml ki d O;simp only[Rd]at k;obtain⟨_,b,e,m⟩:=k;injection m with m;subst m;obtain⟨b',cs,p,l,U,R⟩:=r.box g _ t;rw[e]at p;injection p with p;subst p
  rw[kJ ki];exact⟨[_],by simp only[Rd];exact⟨b,0,cs,rfl,l,U,pQ x n R⟩,rfl⟩
 .rw[kF _ _ h]at j;exact r.tmp i y j
theorem ud{U:u0}{w:World}{B:nE}{H:Hp}:∀{G J:List AV} {K vs:List Value},oe U w G B H K->oe U w J B H vs->oe U w (G++J) B H (K++vs)
 | [],J,K,vs,a,b=>by
  simp only[oe]at a;subst a;exact b
 |x::G,J,K,vs,a,b=>by
  simp only[oe]at a;obtain⟨c,A,rfl,e,k2⟩:=a;simp only[List.cons_append,oe];exact⟨c,A++vs,rfl,e,ud k2 b⟩
variable {T':Nat->Option AV}{a:Act}
variable {caps:List AV}
section
def rP{E:su}{nt:Nat}{H':Hp}(r:mg E nt B T' H' a w):∀(l:List Operand) (zs:List AV),l.map (kv T')=zs.map some->(∀z∈zs,∀J,z≠ .mz J)->oe (kI E B H') w zs B H' (l.map a.eval):=by
 intro l
 induction l with
 |nil=>
  intro zs h _;have:zs= []:=by simpa using h.symm
  subst this;simp[oe]
 |cons o l y=>
  intro zs h hn;cases zs with
  |nil=>simp at h
  |cons z zs=>
   simp only[nc,List.cons.injEq]at h;have U:=r.eval h.1;rw[kJ (hn z oO)]at U;obtain⟨c,b,d⟩:=U;simp only[nc,oe];exact⟨c,_,by rw[d],b,y zs h.2 (λz e=>hn z (nV _ e))⟩
def rn{T:Nat->Option AV}{l:List Operand}(h:l.map (kv T)=zs.map some)(s:∀y∈l,kv T' y=kv T y):l.map (kv T')=zs.map some:=by
 rw[<-h];exact Kb s
def ahZ{l:List Operand}(n:lK nt d=true)(j:l.map (kv T)=G.map some)(N:G.all lS=true):
 kE P E nt ops ⟨d,.makeFunc (.func f) #[] l.toArray,ty,pos,af,gd⟩ T H [] ⟨.fn (.func f) [] G,[]⟩:=
 lO n λB T' H' a w r s D=>by
  have b:=rP r l G (rn j (λy F=>s y i9)) (λz e=>l6 (mq.1 N z e));refine⟨.func (.func f) #[] (l.map a.eval).toArray,?_,?_⟩
  .have U:Array.map a.eval l.toArray=(l.map a.eval).toArray:=by simp
   simp[execOp,Instr.makeFunc,U]
  .rw[kJ ki];refine⟨[_],?_,rfl⟩;simp only[Rd];exact⟨[],_,rfl,by simp[oe],b⟩
def aeg{l:List Operand}{y:AV}(n:lK nt d=true)(A:P.funcs[f]?=some fn)(g:fn.body.isSome=true)(M:(fn.name== "runtime.NumGoroutine")=false)
 (t:kv T x=some (.fn (.func f) [] caps)) (Y:sL caps=true) (j:l.map (kv T)=G.map some) (u:mG P f (J++caps) y) (p:∀H',BL H' G J) (N:G.all lS=true):kE P E nt ops ⟨d,.call {callee:=.value x,args:=l.toArray,argTypes:=ats},ty,pos,af,gd⟩ T H [] ⟨y,[]⟩:=by
 intro T' H' s _ _ B a w r K Q I;have W:=rP r l G (rn j (λy F=>mv s iq)) (λz m=>l6 (mq.1 N z m));have X:=(p H').Yi W;have V:=ml ki (r.eval ((mv s (x:=x) iV).trans t)) O;simp only[Rd]at V;obtain⟨c1,c2,R,i,U⟩:=V;simp only[oe]at i;subst i;injection R with R;have c:=u _ w _ (ud X (rz caps Y U));unfold Oper.wp
 have L:(execOp a.eval ⟨d,.call {callee:=.value x,args:=l.toArray,argTypes:=ats},ty,pos,af,gd⟩).run P w= .ok (.enter f (l.map a.eval++c2).toArray) w:=by
  have q:fn.body≠none:=fu;have D:fn.name≠ "runtime.NumGoroutine" :=by simpa using M
  have S:(l.map a.eval++c2).toArray=(l.toArray.map a.eval)++c2.toArray:=fv;rw[S];simp[execOp,resolve,Deferred.ofValue,R,invoke,callFunc,A,D,q]
 rw[L];refine rM c ?_;rintro e w' ⟨v,rfl,k,C⟩;exact I B _ w' ((r.ext C).put n (G1 (Be (λb o h=>⟨r.w7 h,h⟩) k)))
def akU{a b c:Int}(n:lK nt d=true)(j:kv T x=some (.v (.int k a)))(F:kv T y=some (.v (.int k' b)))(i:0<=b)(u:a.fdiv (2^min b.toNat k.bits)=c):kE P E nt ops ⟨d,.binOp .shr t x y t',ty,pos,af,gd⟩ T H [] ⟨.v (.int k c),[]⟩:=
 th n j F (λw=>by subst u;simp[eqGuard,binOp,Op.shift,show¬b<0 by omega]) rfl
end
section
def Am{l:List Operand}(n:lK nt d=true)(j:td T l=some G)(N:G.all lS=true):
 kE prog E nt ops ⟨d,.makeFunc (.func f) #[] l.toArray,ty,pos,af,gd⟩ T H [] ⟨.fn (.func f) [] G,[]⟩:=ahZ n (o6 j) N
def w9{l:List Operand}{y:AV}(n:lK nt d=true)(p:kv T x=some (.fn (.func f) [] caps))(P:sL caps=true)(j:td T l=some G)(e:tA G=some J)(N:G.all lS=true)(u:zV f (J++caps) y):
 kE prog E nt ops ⟨d,.call {callee:=.value x,args:=l.toArray,argTypes:=ats},ty,pos,af,gd⟩ T H [] ⟨y,[]⟩:=by
 obtain⟨fn,a,b,k,A⟩:=u;exact aeg n a b k p P (o6 j) A (λ_=>pU _ _ e) N
def ak7{a:Nat}(n:lK nt d=true)(j:kv T x=some (.v (.int .u64 (a:Nat))))(F:kv T y=some (.v (.int .u64 1))):kE prog E nt ops ⟨d,.binOp .shr t x y t',ty,pos,af,gd⟩ T H [] ⟨.v (.int .u64 ((a/2:Nat):Int)),[]⟩:=
 akU n j F kh (by
  rw[Int.fdiv_eq_ediv_of_nonneg _ kg]
  show(a:Int)/2^min 1 64=_
  norm_cast)
def alc{s:TypeId}(p:∃u,prog.underlying s=some u)(v:prog.underlying t=some (.int .u64))(o:lK nt d=true)(j:kv T x=some (.v (.int .i64 (n:Nat))))(B:n<=9223372036854775807):kE prog E nt ops ⟨d,.convert s t x,ty,pos,af,gd⟩ T H [] ⟨.v (.int .u64 (n:Nat)),[]⟩:=
 vp p v o j (by simp[IntKind.wrap,IntKind.bits,IntKind.signed];omega)
def alb{s:TypeId}(p:∃u,prog.underlying s=some u)(v:prog.underlying t=some (.int .i64))(o:lK nt d=true)(j:kv T x=some (.v (.int .u64 (n:Nat))))(B:n<=9223372036854775807):kE prog E nt ops ⟨d,.convert s t x,ty,pos,af,gd⟩ T H [] ⟨.v (.int .i64 (n:Nat)),[]⟩:=
 vp p v o j (CI _ kh)
end
variable {B':nE}{w':World}
variable {cur:Array Value}
section
variable {H':Hp}
def rQ.go(o:nK U w w'){g n len:Nat}{k:Xv}{v:Value}(I:H' g=H g)(K:B' g=B g)(h:rQ w B H g n len k v):rQ w' B' H' g n len k v:=by
 obtain⟨e,G,a,c,l,A⟩:=h;refine⟨e,G,I.trans a,c,l,λi=>⟨λhn=>(A i).1 (K▸hn),λb hb=>?_⟩⟩;obtain⟨cur,M,m2⟩:=(A i).2 b (K▸hb);obtain⟨d,c1,c2,_⟩:=o.cell b cur e (0,0) M;refine⟨d,c1,?_⟩;cases k with
 |row=>obtain⟨cap,m,j,V,R⟩:=m2;exact⟨cap,m,j,V,c2.trans R⟩
 |_=>exact m2
def ahM{m:Nat}{c:List Value}(d:w.heap[b]?=some (.cells cur e (0,0)))(r:∀o,o<m->cur[o]?=c[o]?)(u:c.length=m)(T:m<=cur.size):mQ w b 0 m=some c.toArray:=by
 rw[mX d];unfold mD;rw[kx kh]
 congr 1
 apply qB;intro q;rw[w4];by_cases f:q<m
 .rw[kx kh,oa,r q f];simp
 .rw[ku kh,ru (by simpa using(by omega:c.length<=q))]
theorem mg.VQ(r:mg E nt B T H a w){g n b cap:Nat}{e:TypeId}{G J:List AV}{N cur':Array Value}{c':List Value}(y:H g=some (.own e n G))(f:B g=some b)(I:w.heap[b]?=some (.cells N e (0,0)))(u:N.size=cap*n)(hle:G.length<=J.length)(z:J.length<=cap)(U:cap<=maxLen)
 (x:uX w w' b) (hw':w'.heap[b]?=some (.cells cur' e (0,0))) (m:cur'.size=N.size) (hpre:∀o,o<J.length*n->cur'[o]?=c'[o]?) (F:ov (kI E B H) w n J B0 H0 c'):mg E nt B T (l9 H g (.own e n J)) a w'/\nK (kI E B H) w w':=by
 have hlive:nR (H g)=true:=by rw[y];rfl
 obtain⟨hn,hT,hbox⟩:=r.box g _ y
 have hent:EY E b 0:=by
  rcases hbox with⟨i,_⟩|⟨b',_,_,_,i,_,_,_,_,_,_,L⟩
  .rw[f]at i;cases i
  .rw[f]at i;injection i with i;subst i;exact L
 have hun:∀b' o,kI E B (l9 H g (.own e n J)) b' o↔kI E B H b' o:=by
  intro b' o;unfold kI;refine uQ rq (uQ rq (qO λj=>rK λ_=>?_));by_cases h:j=g
  .subst h;rw[kB,y]
  .rw[kF _ _ h]
 have hbu:∀o,kI E B H b o:=λo=>.inr (.inr ⟨g,f,by rw[y];trivial⟩);have evo:nK (kI E B H) w w':=x.evo I hw' m (λo h=>absurd (hbu o) h)
 have hT':Ks E g J.length (B g):=λk0 b0 h=>by
  obtain⟨c,d⟩:=hT k0 b0 h;exact⟨by omega,λe=>d kh⟩
 have pic:qt w w' B B H (l9 H g (.own e n J)):=by
  refine⟨λ_ _ _ h=>h,λj h=>?_,λt Y len A P h=>?_,λg' Y len k v h=>?_,λj h=>?_⟩
  .have p:j≠g:=λe=>by rw[e,y]at h;cases h
   rw[kF _ _ p];exact h
  .obtain⟨e',q,c,d,s⟩:=h;have W:t≠g:=λe'=>by rw[e',y]at c;cases c
   refine⟨e',q,by rw[kF _ _ W];exact c,d,λC=>⟨(s C).1,λb' S=>?_⟩⟩;obtain⟨i,cu,k2,k3⟩:=(s C).2 b' S;have hbb:b'≠b:=λe'=>W (r.inj t g b jZ hlive (e'▸S) f);exact⟨i,cu,(x.other b' hbb).trans k2,k3⟩
  .by_cases p:g'=g
   .subst p;obtain⟨e',xs',c,d,s,D⟩:=h;rw[y]at c;injection c with c;injection c with M K V;subst M K V
    refine⟨e,J,kB _ _ _,by omega,s,λC=>⟨λhn'=>(by rw[f]at hn';cases hn'),λb' S=>?_⟩⟩;have hk':len=G.length:=eY;rw[f]at S;injection S with S;subst S
    obtain⟨cu,R,m2⟩:=(D hk').2 b f;rw[I]at R;injection R with R;injection R with R _ _;subst R
    refine⟨cur',hw',?_⟩;cases k with
    |row=>obtain⟨cp,p1,X,p3,p4⟩:=m2;exact⟨cp,p1,X,p3,m.trans p4⟩
    |_=>exact m2
   .exact h.go evo (kF _ _ p) O
  .have W:j≠g:=λe'=>by rw[e',y]at h;cases h
   exact⟨(kF _ _ W).trans h,rfl⟩
 refine⟨r.move O O (λl b' m=>x.other b' λe=>r.fx.out l b' g m hlive (e▸f)) (λj b' c d=>.inl ⟨by rw[zE (by rw[y];rfl)]at c;exact c,d⟩) evo (λb' o _ h=>(hun b' o).1 h) pic (x.left r.left I hw' m (λo h=>absurd h (Qx o)) hent) (λj bj h=>?_) (λj h=>?_) (λj Z b' c d s D=>?_),evo⟩
 .by_cases p:j=g
  .subst p;rw[kB]at h;injection h with h;subst h
   exact .inl ⟨hn,hT',.inr ⟨b,cur',cap,c',f,hw',m.trans u,z,U,hpre,nr evo (λb' o _ h=>(hun b' o).1 h) n J (qt.nj _ _) F,hent⟩⟩
  .rw[kF _ _ p]at h;exact .inr ⟨h,rfl,λb' hlv S=>x.other b' λe'=>p (r.inj j g b (by rw[h];exact hlv) hlive (e'▸S) f)⟩
 .by_cases p:j=g
  .subst p;rw[kB]at h;cases h
  .rw[kF _ _ p]at h;exact⟨h,r.x3 j h⟩
 .rw[zE (by rw[y];rfl)]at c d;exact r.inj j Z b' c d s D
theorem mg.adX(r:mg E nt B T H a w){g n cap:Nat}{e:TypeId}{G J:List AV}{N:Array Value}{c':List Value}(t:H g=some (.own e n G))(Z:G.length<J.length)(s:N.size=cap*n)(u:J.length<=cap)(V:cap<=maxLen)(hpre:∀o,o<J.length*n->N[o]?=c'[o]?)(F:ov (kI E B H) w n J B0 H0 c'):
 mg E nt (B.E2 g w.heap.size) T (l9 H g (.own e n J)) a (w.drew.alloc (.cells N e)):=by
 have i:∀j L b,H j=some L->B j=some b->b<w.heap.size:=λj L b c d=>r.qp c d;have Y:pr w (w.drew.alloc (.cells N e)):=(pr.refl w).drew.alloc _;obtain⟨hn,M,P⟩:=r.box g _ t
 have X:qt w (w.drew.alloc (.cells N e)) B (B.E2 g w.heap.size) H (l9 H g (.own e n J)):=by
  refine⟨λj b c d=>?_,λj h=>?_,λt' R len A cap h=>?_,λg' R len k v h=>?_,λj h=>?_⟩
  .have m:j≠g:=λe=>by rw[e,t]at c;cases c
   rw[nU _ _ m];exact d
  .have m:j≠g:=λe=>by rw[e,t]at h;cases h
   rw[kF _ _ m];exact h
  .obtain⟨e',q,c,d,p⟩:=h;have m:t'≠g:=λe=>by rw[e,t]at c;cases c
   refine⟨e',q,by rw[kF _ _ m];exact c,d,?_⟩;rw[nU _ _ m];refine λx=>⟨(p x).1,λb hb=>?_⟩;obtain⟨f,cur,k2,k3⟩:=(p x).2 b hb;exact⟨f,cur,Y.heap k2,k3⟩
  .by_cases m:g'=g
   .subst m;obtain⟨e',xs',c,d,p,C⟩:=h;rw[t]at c;injection c with c;injection c with z y W;subst z y W
    exact⟨e,J,kB _ _ _,by omega,p,λx=>by omega⟩
   .exact h.go (U:=λ_ _=>False) (nK.oD Y) (kF _ _ m) (nU _ _ m)
  .have I:j≠g:=λe'=>by rw[e',t]at h;cases h
   exact⟨(kF _ _ I).trans h,rfl⟩
 have hsub:∀b o,b<w.heap.size->kI E (B.E2 g w.heap.size) (l9 H g (.own e n J)) b o->kI E B H b o:=λb o hb h=>vT i b o hb h;refine r.move O O (λl b i=>Y.block b (r.fx.lt l b i)) (λj b c d=>?_) (nK.oD Y) hsub X (r.left.ext Y) (λj L h=>?_) (λj h=>?_) (λj K b c d p C=>?_)
 .by_cases m:j=g
  .subst m;rw[nq]at d;injection d with d;subst d;exact .inr (kK _)
  .rw[kF _ _ m]at c;rw[nU _ _ m]at d;exact .inl ⟨c,d⟩
 .by_cases m:j=g
  .subst m;rw[kB]at h;injection h with h;subst h
   exact .inl ⟨hn,M.grow Z,.inr ⟨w.heap.size,N,cap,c',kB _ _ _,o8 w.drew _,s,u,V,hpre,nr (nK.oD Y) hsub n J (qt.nj _ _) F,.inl r.left.size⟩⟩
  .rw[kF _ _ m]at h;refine .inr ⟨h,nU _ _ m,λb _ hb=>?_⟩;exact Y.block b (i j L b h hb)
 .by_cases m:j=g
  .subst m;rw[kB]at h;cases h
  .rw[kF _ _ m]at h;rw[nU _ _ m];exact⟨h,r.x3 j h⟩
 .have big:∀j,j≠g->nR (l9 H g (.own e n J) j)=true->(B.E2 g w.heap.size) j=some b->b<w.heap.size:=by
   intro j m hlv hb;rw[kF _ _ m]at hlv;rw[nU _ _ m]at hb;cases D:H j with
   |none=>rw[D]at hlv;cases hlv
   |some L=>exact i j L b D hb
  by_cases m:j=g
  .by_cases S:K=g
   .rw[m,S]
   .have:=big K S d C;subst m;rw[nq]at p;injection p with p;omega
  .by_cases S:K=g
   .have:=big j m c p;subst S;rw[nq]at C;injection C with C;omega
   .rw[kF _ _ m]at c;rw[nU _ _ m]at p;rw[kF _ _ S]at d;rw[nU _ _ S]at C;exact r.inj j K b c d p C
def mg.Bq(r:mg E nt B T H a w){g n:Nat}{e:TypeId}{G:List AV}(t:H g=some (.own e n G)):0<n/\((B g=none/\G= [])∨ ∃b cur cap c,B g=some b/\w.heap[b]?=some (.cells cur e (0,0))/\cur.size=cap*n/\G.length<=cap/\cap<=maxLen/\(∀o,o<G.length*n->cur[o]?=c[o]?)/\ov (kI E B H) w n G B0 H0 c/\EY E b 0/\mQ w b 0 (G.length*n)=some c.toArray):=by
 obtain⟨hn,_,h⟩:=r.box g _ t;refine⟨hn,h.imp id ?_⟩;rintro⟨b,cur,cap,c,f,k2,k3,l,F,y,i,U⟩;exact⟨b,cur,cap,c,f,k2,k3,l,F,y,i,U,ahM k2 y (lG i) (by rw[k3];exact mH _ l)⟩
def Fv{k:Xv}(h:qJ U w B H (.own g n len k) v):rQ w B H g n len k v:=by
 rw[kJ ki]at h;obtain⟨c,a,rfl⟩:=h;simp only[Rd]at a;obtain⟨v,b,rfl⟩:=a;simpa[m9]using b
def Fw{k:Xv}(h:rQ w B H g n len k v):qJ U w B H (.own g n len k) v:=by
 rw[kJ ki];exact⟨[v],by simp only[Rd];exact⟨v,h,rfl⟩,rfl⟩
def rQ.now{k:Xv}(h:rQ w B H g n len k v)(t:H g=some (.own e n G))(i:len=G.length):(B g=none->v= .slice none 0 0)/\ ∀b,B g=some b-> ∃cur,w.heap[b]?=some (.cells cur e (0,0))/\match(generalizing:=false) k with
 | .row=>∃cap,v= .slice (some ⟨b,0,none⟩) len cap/\len<=cap/\cap<=maxLen/\cur.size=cap*n
 | .at off _=>v= .pointer (some ⟨b,off,none⟩)
 | .part off l=>∃cap,v= .slice (some ⟨b,off*n,none⟩) l cap/\off+l<=len/\l<=cap/\cap<=maxLen:=by
 obtain⟨e',Y,a,c,m,A⟩:=h;rw[t]at a;injection a with a;injection a with o j U;subst o U
 exact A i
end
variable {yv:Value}
variable {len':Nat}
section
variable (tb:ZL P)
theorem VO{tx ty:TypeId}{bytes:Nat}{sv:Value}(r:mg E nt B T H a w)(p:tb.ti t=some (.sl e es bytes ea))(h:rQ w B H g es G.length .row sv)(u:H g=some (.own e es G))
 (X:Nu P E B H w tx es yv J) (W:(G.length+J.length)*bytes<=140737488355328) (hlen2:G.length+J.length<=9223372036854775807):
 ∃v w' B',(Builtin.append_ #[t,tx] ty #[sv,yv]).run P w= .ok v w'/\mg E nt B' T (l9 H g (.own e es (G++J))) a w'/\rQ w' B' (l9 H g (.own e es (G++J))) g es (G.length+J.length) .row v:=by
 obtain⟨q,y,C⟩:=X;obtain⟨_,hu,_,i,z,hi,k,his,hib,hzs⟩:=tb.ok t _ p;subst his hib;have hnl:=lG C;obtain⟨hn1,hn2⟩:=h.now u O;obtain⟨hpos,hbox⟩:=r.Bq u;have hone:=h
 obtain⟨A,cap,hsv,hcap⟩:∃A cap,sv= .slice A G.length cap/\G.length<=cap:=by
  rcases hbox with⟨f,k2⟩|⟨b,cur,K,c,f,_⟩
  .exact⟨none,0,by rw[hn1 f,k2];rfl,by rw[k2];exact kK _⟩
  .obtain⟨cu,_,cap,n,l,_⟩:=hn2 b f;exact⟨_,cap,n,l⟩
 by_cases U:J.length=0
 .obtain rfl:J= []:=pE U;obtain rfl:q= []:=pE jy;have I:=Q8 (P:=P) w t tx ty e i hu hi A G.length cap hcap yv y;refine⟨_,w,B,by rw[hsv];exact I,?_,?_⟩
  .rw[oT,rC u];exact r
  .rw[oT,rC u,<-hsv];exact h
 .have Z:G.length<(G++J).length:=by simp;omega
  have hel:(G++J).length=G.length+J.length:=e1;have h63:((G.length+J.length:Nat):Int)<=9223372036854775807:=eY;have hcmax:∀c,grownCap w (G.length+J.length) c e<=maxLen:=λc=>DK w _ c e jp
  have fresh:∀(N:List Value),cap<G.length+J.length->ov (kI E B H) w i.size G B0 H0 N->(Builtin.firstCells i.size G.length (.slice A G.length cap)).run P w.drew= .ok N.toArray w.drew-> ∃v w' B',(Builtin.append_ #[t,tx] ty #[sv,yv]).run P w= .ok v w'/\mg E nt B' T (l9 H g (.own e i.size (G++J))) a w'/\rQ w' B' (l9 H g (.own e i.size (G++J))) g i.size (G.length+J.length) .row v:=by
   intro N x hO hold;have hol:=lG hO;have I:=Q7 (P:=P) w t tx ty e i z hu hi k A G.length cap N hold yv J.length q y x h63 (Bb kh (by exact W));have hge:=DJ w (G.length+J.length) cap e
   have hsz:((N++q).toArray++Builtin.zeroCells z.cells (grownCap w (G.length+J.length) cap e-(G.length+J.length))).size=grownCap w (G.length+J.length) cap e*i.size:=by
    simp only[xo,xn,lA,GU,hzs,hol,hnl,<-lZ]
    congr 1;omega
   have hreg:=r.adX (J:=G++J) (c':=N++q) u Z hsz (by rw[hel];exact hge) (hcmax cap) (λo V=>by
    rw[hel,lZ,<-hol,<-hnl,<-lA]at V;rw[AI (by simpa using V)];simp) (oi hO C)
   refine⟨_,_,_,by rw[hsv];exact I,hreg,⟨e,G++J,kB _ _ _,yd hel.symm,rfl,λ_=>⟨λh=>?_,λb hb=>?_⟩⟩⟩
   .rw[nq]at h;cases h
   .rw[nq]at hb;injection hb with hb;subst hb
    exact ew
  rcases hbox with⟨f,k2⟩|⟨b,cur,K,c,f,k2,k3,m,F,k6,k7,k8,k9⟩
  .subst k2;have:=hn1 f;rw[hsv]at this;injection this with R j S;subst R S;exact ez
  .obtain⟨cu,M,L,m2,D,m4,m5⟩:=hn2 b f;rw[k2]at M;injection M with M;injection M with M _ _;subst M
   rw[hsv]at m2;injection m2 with R j S;subst R S;have hcl:=lG k7;by_cases hroom:G.length+J.length<=cap
   .have Y:G.length*i.size+q.length<=cur.size:=by rw[hnl,m5,<-lZ];exact mH _ hroom
    have I:=B5 (P:=P) (ty:=ty) hu hi y hroom k2 Y;have hput:=mB (off:=G.length*i.size) (cs:=q.toArray) k2;have hsp:(lY cur (G.length*i.size) q.toArray).size=cur.size:=oL _ _ _ jI
    have hrm:=r.VQ (J:=G++J) (c':=c++q) u f k2 m5 kh (by rw[hel];exact hroom) m4 oZ hput hsp (λo V=>by
     rw[hel,lZ]at V;rw[mn jI];by_cases d:o<G.length*i.size
     .rw[ku kh,k6 o d,pF kh]
     .rw[kx jY,o7 kh,hcl];simp) (oi k7 C)
    refine⟨_,_,B,by rw[hsv];exact I,hrm.1,⟨e,G++J,kB _ _ _,yd hel.symm,rfl,λ_=>⟨λh=>?_,λb' s=>?_⟩⟩⟩
    .rw[f]at h;cases h
    .rw[f]at s;injection s with s;subst s
     exact eA
   .refine fresh c kh k7 ?_;exact xm (P:=P) w.drew i.size G.length ⟨b,0,none⟩ G.length cap c (by rw[hcl]) ja
theorem D8{tx:TypeId}{bytes:Nat}(n:lK nt d=true)(o:tb.ti t=some (.sl e es bytes ea))(j:kv T s=some (.own g es len .row))(y:H g=some (.own e es G))(z:len=G.length)
 (F:kv T x=some src) (I:yR P tx es src J) (R:len'=G.length+J.length) (U:(G.length+J.length)*bytes<=140737488355328) (i:G.length+J.length<=9223372036854775807):
 kE P E nt ops ⟨d,.call {callee:=.builtin .append,args:= #[s,x],argTypes:= #[t,tx]},ty,pos,af,gd⟩ T H [g] ⟨.own g es len' .row,[(g,.own e es (G++J))]⟩:=
 oC n λB T' H' a w r u D f=>by
  subst z R;have X:=(D g ki).trans y;have h:=Fv (r.eval ((u s iV).trans j));obtain⟨v,w',B',b,c,k⟩:=VO tb (ty:=ty) r o h X (I E B H' w _ (r.eval ((u x iV).trans F))) U i;exact⟨v,w',B',by simp[execOp,resolve,invoke,builtin,b],c,Fw k⟩
end
mutual
def UE(g n:Nat)(G:List AV):AV->AV->Prop
 | .own g' n' len k,y=>match Nat.beq g' g with
  |true=>n'=n/\len=G.length/\k= .row/\y= .sl (some g) n G
  |false=>y= .own g' n' len k
 | .agg m fs,y=>match y with
  | .agg m' us=>m'=m/\agv g n G fs us
  |_=>False
 |x,y=>(mR x).all (λj=> !Nat.beq j g)=true/\y=x
def agv(g n:Nat)(G:List AV):List AV->List AV->Prop
 | [],us=>us= []
 |x::l,us=>match us with
  |u::us=>UE g n G x u/\agv g n G l us
  | []=>False
end
def aji(g n:Nat)(G:List AV)(T:List (Nat×AV)):List (Nat×AV)->Prop
 | []=>True
 |(s,y)::l=>(match kV s T with|some x=>UE g n G x y|none=>False)/\aji g n G T l
def yq(g n:Nat)(G:List AV):Bx->Bx->Prop
 | .var x,b=>match b with
  | .var y=>UE g n G x y
  |_=>False
 | .froz x,b=>match b with
  | .froz y=>UE g n G x y
  |_=>False
 |b0,b=>b=b0
def ajj(g n:Nat)(e:TypeId)(G:List AV)(H:List (Nat×Bx)):List (Nat×Bx)->Prop
 | []=>True
 |(j,b)::l=>(match Nat.beq j g with
  |true=>b= .tail e n G.length
  |false=>match kV j H with|some I=>yq g n G I b|none=>False)/\ajj g n e G H l
theorem aji.at{g n:Nat}{G:List AV}{T:List (Nat×AV)}:∀{l:List (Nat×AV)},aji g n G T l-> ∀p∈l,∃x,kV p.1 T=some x/\UE g n G x p.2
 | [],_,p,h=>fk
 |(s,y)::l,⟨a,b⟩,p,h=>by
  rcases mf.1 h with rfl|h
  .cases o:kV s T with
   |none=>rw[o]at a;exact a.elim
   |some x=>rw[o]at a;exact⟨x,rfl,a⟩
  .exact b.at p h
theorem ajj.at{g n:Nat}{e:TypeId}{G:List AV}{H:List (Nat×Bx)}:∀{l:List (Nat×Bx)},ajj g n e G H l-> ∀p∈l,(p.1=g/\p.2= .tail e n G.length)∨(p.1≠g/\ ∃I,kV p.1 H=some I/\yq g n G I p.2)
 | [],_,p,h=>fk
 |(j,b)::l,⟨a,c⟩,p,h=>by
  rcases mf.1 h with rfl|h
  .cases i:Nat.beq j g
   .rw[i]at a;have k:j≠g:=λe=>by subst e;simp at i
    cases o:kV j H with
    |none=>rw[o]at a;exact a.elim
    |some I=>rw[o]at a;exact .inr ⟨k,I,rfl,a⟩
   .rw[i]at a;exact .inl ⟨mi i,a⟩
  .exact c.at p h
section
def Tc{l:List Nat}(h:l.all (λj=> !Nat.beq j g)=true):∀j∈l,j≠g:=λj i e=>by
 have:=mq.1 h j i;subst e;simp at this
def zn(t:H g=some (.own e n G)){b o:Nat}(h:kI E B (l9 H g (.tail e n G.length)) b o):kI E B H b o:=by
 rcases h with h|h|⟨j,a,c⟩
 .exact .inl h
 .exact .inr (.inl h)
 .refine .inr (.inr ⟨j,a,?_⟩);by_cases i:j=g
  .subst i;rw[t];trivial
  .rwa[kF _ _ i]at c
def R5(t:H g=some (.own e n G)){x:AV}(k:(mR x).all (λj=> !Nat.beq j g)=true){c:List Value}(h:Rd (kI E B H) w x B H c):Rd (kI E B (l9 H g (.tail e n G.length))) w x B (l9 H g (.tail e n G.length)) c:=
 v9 O x (λj i=>⟨kF _ _ (Tc k j i),rfl⟩) (n6 (nK.refl _ w) (λb o _ h=>zn t h) x ⟨λ_ _ _ h=>h,λ_ h=>h,λ_ _ _ _ _ h=>h,λ_ _ _ _ _ h=>h,λ_ h=>⟨h,rfl⟩⟩ h)
def ahv(r:mg E nt B T H a w)(u:H g=some (.own e n G)){v:Value}(h:rQ w B H g n G.length .row v):Rd (kI E B (l9 H g (.tail e n G.length))) w (.sl (some g) n G) B (l9 H g (.tail e n G.length)) [v]:=by
 obtain⟨R,P⟩:=h.now u O;obtain⟨N,J⟩:=r.Bq u;simp only[Rd];rcases J with⟨f,k2⟩|⟨b,cur,z,c,f,k2,k3,m,F,A,C,k8,Z⟩
 .subst k2;rw[R f];refine⟨none,0,rfl,kK _,kO _,λh=>absurd h ki,λt s=>?_⟩;injection s with s;subst s;exact⟨e,0,kB _ _ _,kK _,λ_=>⟨λ_=>⟨O,rfl⟩,λb hb=>by rw[f]at hb;cases hb⟩⟩
 .obtain⟨S,M,cap,m2,y,K,L⟩:=P b f;rw[k2]at M;injection M with M;injection M with M _ _;subst M
  rw[m2];refine⟨_,cap,rfl,y,K,λ_=>⟨b,0,c,rfl,Z,λo _ U I=>?_,nr (nK.refl _ w) (λb o _ h=>zn u h) n G (qt.nj _ _) C⟩,λt s=>?_⟩
  .rcases I with⟨p,_,V⟩|⟨l,p⟩|⟨j,p,k⟩
   .rcases k8 with k8|k8
    .omega
    .exact V k8.2.1
   .exact r.fx.out l b g p j4 f
   .by_cases i:j=g
    .subst i;rw[kB]at k;have W:G.length*n<=o:=k;omega
    .rw[kF _ _ i]at k;cases D:H j with
     |none=>rw[D]at k;exact k
     |some x=>
      rw[D]at k;refine i (r.inj j g b ?_ j4 p f);rw[D];cases x<;>first|rfl|exact k.elim
  .injection s with s;subst s;refine⟨e,G.length,kB _ _ _,kK _,λ_=>⟨λhn=>(by rw[f]at hn;cases hn),λb' q=>?_⟩⟩;rw[f]at q;injection q with q;subst q
   exact⟨O,cur,k2,L⟩
mutual
theorem Pp(r:mg E nt B T H a w)(hg:H g=some (.own e n G)):∀(x y:AV),UE g n G x y-> ∀{c:List Value},Rd (kI E B H) w x B H c->Rd (kI E B (l9 H g (.tail e n G.length))) w y B (l9 H g (.tail e n G.length)) c
 | .own g' n' len k,y,ht,c,h=>by
  simp only[UE]at ht;cases hj:Nat.beq g' g
  .rw[hj]at ht;simp only at ht;subst ht;refine R5 hg ?_ h;simp[mR,hj]
  .rw[hj]at ht;simp only at ht;obtain⟨rfl,rfl,rfl,rfl⟩:=ht;have:=mi hj;subst this;simp only[Rd]at h;obtain⟨v,h1,rfl⟩:=h;exact ahv r hg h1
 | .agg m fs,y,ht,c,h=>by
  simp only[UE]at ht;cases y with
  |agg m' us=>
   simp only at ht;obtain⟨rfl,ht⟩:=ht;simp only[Rd]at h⊢;exact⟨h.1,XZ r hg fs us ht h.2⟩
  |_=>exact ht.elim
 | .v x,y,ht,c,h=>fK
 | .arr m k zs,y,ht,c,h=>fK
 | .ptr j off p,y,ht,c,h=>fK
 | .ref x,y,ht,c,h=>fK
 | .sl t k zs,y,ht,c,h=>fK
 | .seg j off k p l cp,y,ht,c,h=>fK
 | .mz vs,y,ht,c,h=>fc
 | .fn f x y',y,ht,c,h=>fK
 | .ifc t x,y,ht,c,h=>fK
 | .raw l p x,y,ht,c,h=>fK
 | .hv j,y,ht,c,h=>fK
theorem XZ(r:mg E nt B T H a w)(hg:H g=some (.own e n G)):∀(l us:List AV),agv g n G l us-> ∀{c:List Value},qQ (kI E B H) w l B H c->qQ (kI E B (l9 H g (.tail e n G.length))) w us B (l9 H g (.tail e n G.length)) c
 | [],us,ht,c,h=>by
  simp only[agv]at ht;subst ht;simpa[qQ]using h
 |x::l,us,ht,c,h=>by
  simp only[agv]at ht;cases us with
  |nil=>exact ht.elim
  |cons u us=>
   simp only at ht;simp only[qQ]at h⊢;obtain⟨c1,c2,h1,h2,h3⟩:=h;exact⟨c1,c2,h1,Pp r hg x u ht.1 h2,XZ r hg l us ht.2 h3⟩
end
theorem ade:∀(x y:AV),UE g n G x y->(∀J,x≠ .mz J)->(∀J,y≠ .mz J)/\ ∀(c:List Value),m9 x c=m9 y c
 | .own g' R len k,y,s,_=>by
  simp only[UE]at s;cases i:Nat.beq g' g
  .rw[i]at s;simp only at s;subst s;simp
  .rw[i]at s;simp only at s;obtain⟨rfl,rfl,rfl,rfl⟩:=s;refine⟨by simp,λc=>?_⟩
   match c with
   | []=>rfl
   | [_]=>rfl
   |_::_::_=>rfl
 | .agg m fs,y,s,_=>by
  simp only[UE]at s;cases y with
  |agg S J=>exact⟨by simp,λc=>rfl⟩
  |_=>exact s.elim
 | .v x,y,s,hn=>fL
 | .arr m k zs,y,s,hn=>fL
 | .ptr j off p,y,s,hn=>fL
 | .ref x,y,s,hn=>fL
 | .sl t k zs,y,s,hn=>fL
 | .seg j off k p l u,y,s,hn=>fL
 | .mz vs,y,s,hn=>absurd O (hn vs)
 | .fn f x y',y,s,hn=>fL
 | .ifc t x,y,s,hn=>fL
 | .raw l p x,y,s,hn=>fL
 | .hv j,y,s,hn=>by simp only[UE]at s;obtain⟨a,rfl⟩:=s;exact⟨hn,λ_=>rfl⟩
def ahu(r:mg E nt B T H a w)(t:H g=some (.own e n G)){x y:AV}(s:UE g n G x y){v:Value}(h:qJ (kI E B H) w B H x v):qJ (kI E B (l9 H g (.tail e n G.length))) w B (l9 H g (.tail e n G.length)) y v:=by
 rcases Ec x with⟨J,rfl⟩|hx
 .simp only[UE]at s;obtain⟨d,rfl⟩:=s;exact OS O (λj k=>⟨kF _ _ (Tc d j k),rfl⟩) (vE (nK.refl _ w) (λb o _ h=>zn t h) ⟨λ_ _ _ h=>h,λ_ h=>h,λ_ _ _ _ _ h=>h,λ_ _ _ _ _ h=>h,λ_ h=>⟨h,rfl⟩⟩ h)
 .obtain⟨i,k2⟩:=ade x y s hx;rw[kJ hx]at h;rw[kJ i];obtain⟨c,d,f⟩:=h;exact⟨c,Pp r t x y s d,by rw[f,k2 c]⟩
end
variable {S':St}
def lL.am6(g:Nat){n:Nat}{e:TypeId}{G:List AV}(u:kV g S.H=some (.own e n G))(V:aji g n G S.T S'.T)(hH:ajj g n e G S.H S'.H)(hall:S.H.all (λp=>(kV p.1 S'.H).isSome)=true):lL E nt S S':=λB a w r=>by
 have X:S.h g=some (.own e n G):=u
 replace V:=V.at
 replace hH:=hH.at
 have back:∀j,S'.h j=none->S.h j=none:=λj l=>by
  cases D:S.h j with
  |none=>rfl
  |some b=>
   have:=mq.1 hall _ (mI D);rw[show kV j S'.H=none from l]at this;cases this
 have eH:∀j b,S'.h j=some b->j≠g-> ∃W,S.h j=some W/\yq g n G W b:=λj b l I=>by
  rcases hH (j,b) (mI l)with⟨d,_⟩|⟨_,W,d,f⟩
  .exact absurd d I
  .exact⟨W,d,f⟩
 have eg:∀b,S'.h g=some b->b= .tail e n G.length:=λb hb=>by
  rcases hH (g,b) (mI hb)with⟨_,f⟩|⟨d,_⟩
  .exact f
  .exact absurd O d
 obtain⟨bg,hbg⟩:∃b,S'.h g=some b:=by
  cases D:S'.h g with
  |none=>rw[back g D]at X;cases X
  |some b=>exact⟨b,rfl⟩
 have hbg':=eg bg hbg;subst hbg'
 have kind:∀W b,yq g n G W b->pH (some b)=pH (some W)/\nR (some b)=nR (some W)/\(∀e' R k,b= .tail e' R k↔W= .tail e' R k)/\(∀e' R J,b= .own e' R J↔W= .own e' R J)/\(W= .hid->b= .hid):=by
  intro W b h;cases W with
  |var x=>cases b<;>simp[yq]at h<;>simp[pH,nR]
  |froz x=>cases b<;>simp[yq]at h<;>simp[pH,nR]
  |tail e' R k=>simp only[yq]at h;subst h;simp
  |own e' R J=>simp only[yq]at h;subst h;simp
  |hid=>simp only[yq]at h;subst h;simp
  |ext M=>simp only[yq]at h;subst h;simp
 have hu:∀b o,kI E B S'.h b o↔kI E B (l9 S.h g (.tail e n G.length)) b o:=by
  intro b o;unfold kI;refine uQ rq (uQ rq (qO λj=>rK λhb=>?_));by_cases l:j=g
  .subst l;rw[kB,hbg]
  .rw[kF _ _ l];cases D:S'.h j with
   |none=>rw[back j D]
   |some b'=>
    obtain⟨W,d,f⟩:=eH j b' D l;rw[d];cases W with
    |var x=>cases b'<;>simp[yq]at f<;>rfl
    |froz x=>cases b'<;>simp[yq]at f<;>rfl
    |tail e' R k=>simp only[yq]at f;subst f;rfl
    |own e' R J=>simp only[yq]at f;subst f;rfl
    |hid=>simp only[yq]at f;subst f;rfl
    |ext M=>simp only[yq]at f;subst f;rfl
 have ue:kI E B (l9 S.h g (.tail e n G.length))=kI E B S'.h:=by
  funext b o;exact propext (hu b o).symm
 have Y:qt w w B B (l9 S.h g (.tail e n G.length)) S'.h:=by
  have at_:∀j W,l9 S.h g (.tail e n G.length) j=some W-> ∃b,S'.h j=some b/\pH (some b)=pH (some W)/\(∀e' R k,b= .tail e' R k↔W= .tail e' R k)/\(∀e' R J,b= .own e' R J↔W= .own e' R J)/\(W= .hid->b= .hid):=by
   intro j W h;by_cases l:j=g
   .subst l;rw[kB]at h;injection h with h;subst h
    exact⟨_,hbg,rfl,λ_ _ _=>rq,λ_ _ _=>rq,λh=>kd⟩
   .rw[kF _ _ l]at h;cases D:S'.h j with
    |none=>rw[back j D]at h;cases h
    |some b=>
     obtain⟨K,d,f⟩:=eH j b D l;rw[h]at d;injection d with d;subst d
     obtain⟨H,_,U,Z⟩:=kind W b f;exact⟨b,rfl,H,U,Z⟩
  refine⟨λ_ _ _ h=>h,λj h=>?_,λt R len A cap h=>?_,λj R len k v h=>?_,λj h=>?_⟩
  .cases D:l9 S.h g (.tail e n G.length) j with
   |none=>rw[D]at h;cases h
   |some W=>
    obtain⟨b,d,f,_⟩:=at_ j W D;rw[d,f,<-D];exact h
  .obtain⟨e',k,d,f,m⟩:=h;obtain⟨b,i,_,k3,_⟩:=at_ t _ d;rw[(k3 e' R k).2 O]at i;exact⟨e',k,i,f,m⟩
  .obtain⟨e',J,d,f,m,C⟩:=h;obtain⟨b,i,_,_,z,_⟩:=at_ j _ d;rw[(z e' R J).2 O]at i;exact⟨e',J,i,f,m,C⟩
  .obtain⟨b,i,_,_,_,L⟩:=at_ j _ h;rw[L O]at i;exact⟨i,rfl⟩
 have sub:∀b o,b<w.heap.size->kI E B S'.h b o->kI E B (l9 S.h g (.tail e n G.length)) b o:=λb o _ h=>(hu b o).1 h
 have lv:∀j,nR (S'.h j)=true->nR (S.h j)=true:=λj l=>by
  by_cases hjg:j=g
  .subst hjg;rw[X];rfl
  .cases D:S'.h j with
   |none=>rw[D]at l;cases l
   |some b=>
    obtain⟨W,i,k2⟩:=eH j b D hjg;rw[i,<-(kind W b k2).2.1,<-D];exact l
 refine⟨B,r.nt,r.df,λs y F=>?_,λj b l=>?_,λj l=>r.x3 j (back j l),λj P b d f m C=>?_,r.left,λj l=>r.qa j (back j l),r.fx.go O (kK _) λj b d f=>.inl ⟨lv j d,f⟩⟩
 .obtain⟨x,d,f⟩:=V (s,y) (mI F);obtain⟨v,m,C⟩:=r.tmp s x d;exact⟨v,m,vE (nK.refl _ w) sub Y (ahu r X f C)⟩
 .by_cases hjg:j=g
  .subst hjg;rw[hbg]at l;injection l with l;subst l
   obtain⟨hn,hT0,hbox⟩:=r.box j _ X;refine⟨hn,hT0,?_⟩;rcases hbox with⟨i,k2⟩|⟨b,cur,cap,c,i,k2,k3,z,L,k6,k7,k8⟩
   .exact .inl ⟨i,by rw[k2];rfl⟩
   .exact .inr ⟨b,cur,cap,i,k2,k3,z,L,k8.mono (kO _)⟩
  .obtain⟨W,d,f⟩:=eH j b l hjg;have hb:=r.box j W d;cases W with
   |var x=>
    cases b<;>simp only[yq]at f;rename_i y;obtain⟨bb,cs,t,i,k2,k3,z⟩:=hb;exact⟨bb,cs,t,i,k2,n6 (nK.refl _ w) sub y Y (Pp r X x y f k3),z⟩
   |froz x=>
    cases b<;>simp only[yq]at f;rename_i y;obtain⟨bb,cs,i,k2,k3,z⟩:=hb;exact⟨bb,cs,i,k2,λo H q U=>k3 o H q (zn X ((hu _ _).1 U)),n6 (nK.refl _ w) sub y Y (Pp r X x y f z)⟩
   |hid=>simp only[yq]at f;subst f;exact hb
   |ext M=>simp only[yq]at f;subst f;exact⟨hb.1,hb.2.go O O (λ_ _ _=>rfl) (nK.refl _ w) (λb o _ h=>zn X ((hu b o).1 h))⟩
   |tail e' R k=>simp only[yq]at f;subst f;exact hb
   |own e' R J=>
    simp only[yq]at f;subst f;obtain⟨k0,kT,i⟩:=hb;refine⟨k0,kT,i.imp id ?_⟩;rintro⟨bb,cur,cap,c,N,m2,T,m4,m5,m6,m7,m8⟩;exact⟨bb,cur,cap,c,N,m2,T,m4,m5,m6,nr (nK.refl _ w) (λb o _ h=>zn X ((hu b o).1 h)) R J (qt.nj _ _) m7,m8⟩
 .exact r.inj j P b (lv j d) (lv P f) m C
section
def PU{bytes:Nat}(n:lK nt (some g)=true)(p:kM.ti t=some (.sl e (es+1) bytes ea))(u:H g=none):
 kE prog E nt ops ⟨some g,.buildSlice t 0 #[],ty,pos,af,gd⟩ T H [] ⟨.own g (es+1) 0 .row,[(g,.own e (es+1) [])]⟩:=
 oC n λB T' H' a w r s D x=>by
  have X:H' g=none:=(x (g,.own e (es+1) []) ki).trans u;obtain⟨_,hu,Y,i,N,z1,z2,v,k,l⟩:=kM.ok t _ p;have F:=Bk w t e i hu z1;have f:(execOp a.eval ⟨some g,.buildSlice t 0 #[],ty,pos,af,gd⟩).run prog w= .ok (.value (.slice (some ⟨w.heap.size,0,none⟩) 0 0)) (w.alloc (.cells #[] e)):=by simp[execOp,F]
  have U:0<=maxLen:=kO _;refine⟨_,_,_,f,r.new X ⟨qh es,Ks.none (r.qa _ X),.inr ⟨w.heap.size,#[],0,[],kB _ _ _,o8 w _,by simp,kK _,U,λo V=>by simp at V,by simp[ov],.inl r.left.size⟩⟩,Fw ⟨e,[],kB _ _ _,kK _,rfl,λ_=>⟨λh=>?_,λb hb=>?_⟩⟩⟩
  .rw[nq]at h;cases h
  .rw[nq]at hb;injection hb with hb;subst hb
   exact⟨#[],o8 w _,0,rfl,kK _,U,by simp⟩
def PD{f:α->AV}{tx:TypeId}{bytes:Nat}{zs:List α}(n:lK nt d=true)(o:kM.ti t=some (.sl e es bytes ea))(j:kv T s=some (.own g es 0 .row))(u:H g=some (.own e es []))
 (F:kv T x=some src) (G:yR prog tx es src (zs.map f)) (U:zs.length*bytes<=140737488355328) (a:zs.length<=9223372036854775807):
 kE prog E nt ops ⟨d,.call {callee:=.builtin .append,args:= #[s,x],argTypes:= #[t,tx]},ty,pos,af,gd⟩ T H [g] ⟨.own g es zs.length .row,[(g,.own e es (zs.map f))]⟩:=by
 have:=D8 kM (E:=E) (ops:=ops) (H:=H) (ty:=ty) (pos:=pos) (af:=af) (gd:=gd) (len':=zs.length) n o j u O F G ki jM jQ;rwa[EM]at this
def akS{f:α->AV}{tx:TypeId}{bytes:Nat}{G zs:List α}(n:lK nt d=true)(o:kM.ti t=some (.sl e es bytes ea))(j:kv T s=some (.own g es G.length .row))(u:H g=some (.own e es (G.map f)))
 (F:kv T x=some src) (I:yR prog tx es src (zs.map f)) (U:(G.length+zs.length)*bytes<=140737488355328) (a:G.length+zs.length<=9223372036854775807):
 kE prog E nt ops ⟨d,.call {callee:=.builtin .append,args:= #[s,x],argTypes:= #[t,tx]},ty,pos,af,gd⟩ T H [g] ⟨.own g es (G++zs).length .row,[(g,.own e es ((G++zs).map f))]⟩:=by
 have:=D8 kM (E:=E) (ops:=ops) (H:=H) (ty:=ty) (pos:=pos) (af:=af) (gd:=gd) (len':=(G++zs).length) n o j u ki F I ki jM jQ;rwa[<-oq]at this
end
structure uu(E:su)(B:nE)(H:Hp)(w:World):Prop where
 box:∀g bx,H g=some bx->Ie E B H w g bx
 x3:∀g,H g=none->B g=none
 inj:∀g g' b,nR (H g)=true->nR (H g')=true->B g=some b->B g'=some b->g=g'
 left:Ih E w
 qa:∀g,H g=none->E.eb g=none
 fx:Fx E B H w
def mg.mem(r:mg E nt B T H a w):uu E B H w:=⟨r.box,r.x3,r.inj,r.left,r.qa,r.fx⟩
def uu.rel(m:uu E B H w)(C:a.tmps.size=nt)(n:a.defers=E.df)(t:∀s x,T s=some x-> ∃v,a.tmps[s]?=some v/\qJ (kI E B H) w B H x v):mg E nt B T H a w:=⟨C,n,t,m.box,m.x3,m.inj,m.left,m.qa,m.fx⟩
mutual
def tg(σ:Nat->Nat):AV->AV
 | .v x=>.v x
 | .agg n fs=>.agg n (Ca σ fs)
 | .arr m n G=>.arr m n G
 | .ptr g off p=>.ptr (σ g) off p
 | .ref x=>.ref x
 | .sl t n G=>.sl (t.map σ) n G
 | .seg g off n p len cap=>.seg (σ g) off n p len cap
 | .mz vs=>.mz (Ca σ vs)
 | .fn f a b=>.fn f (Ca σ a) (Ca σ b)
 | .ifc t x=>.ifc t (tg σ x)
 | .own g n len k=>.own (σ g) n len k
 | .raw l p x=>.raw l p x
 | .hv g=>.hv (σ g)
def Ca(σ:Nat->Nat):List AV->List AV
 | []=> []
 |x::l=>tg σ x::Ca σ l
end
def ur(σ:Nat->Nat):Bx->Bx
 | .var x=>.var (tg σ x)
 | .froz x=>.froz (tg σ x)
 | .tail e n k=>.tail e n k
 | .own e n G=>.own e n G
 | .hid=>.hid
 | .ext M=>.ext M
def CT:Option Bx->Option Bx
 |some (.var _)=>some (.var (.v undef))
 |some (.froz _)=>some (.froz (.v undef))
 |x=>x
def Yc(σ:Nat->Nat)(bx:Bx):CT (some (ur σ bx))=CT (some bx):=by cases bx<;>rfl
def Yb{x y:Option Bx}(h:CT x=CT y):pH x=pH y:=by
 cases x with
 |none=>cases y with
  |none=>rfl
  |some y=>cases y<;>simp[CT]at h
 |some x=>cases y with
  |none=>cases x<;>simp[CT]at h
  |some y=>cases x<;>cases y<;>simp[CT]at h<;>rfl
def Se{x:Option Bx}{k:Nat}(h:CT x=some (.tail e n k)):x=some (.tail e n k):=by
 cases x with
 |none=>cases h
 |some x=>cases x<;>simp[CT]at h⊢ <;>exact h
def Yd{x:Option Bx}(h:CT x=some (.own e n G)):x=some (.own e n G):=by
 cases x with
 |none=>cases h
 |some x=>cases x<;>simp[CT]at h⊢ <;>exact h
def ahD{x:Option Bx}(h:CT x=some .hid):x=some .hid:=by
 cases x with
 |none=>cases h
 |some x=>cases x<;>simp[CT]at h⊢
def aox{E:su}{x y:Option Bx}(h:CT x=CT y)(o:Nat):(match x with|some (.var _)=>True|some (.tail _ n k)=>k*n<=o|some (.own _ _ _)=>True|_=>False)↔(match y with|some (.var _)=>True|some (.tail _ n k)=>k*n<=o|some (.own _ _ _)=>True|_=>False):=by
 cases x with
 |none=>cases y with
  |none=>exact rq
  |some y=>cases y<;>simp[CT]at h
 |some x=>cases y with
  |none=>cases x<;>simp[CT]at h
  |some y=>
   cases x<;>cases y<;>simp only[CT,mr,Bx.tail.injEq,reduceCtorEq]at h<;>first|exact rq|skip
   obtain⟨_,rfl,rfl⟩:=h;exact rq
variable {σ:Nat->Nat}
section
variable {H':Hp}
def XV{t:Nat}{A:Option Addr}(a:CT (H' (σ t))=CT (H t))(b:B' (σ t)=B t):Ei w B' H' (σ t) n len A cap↔Ei w B H t n len A cap:=by
 unfold Ei;rw[b];constructor
 .rintro⟨e,k,m,j⟩;rw[m]at a;exact⟨e,k,Se a.symm,j⟩
 .rintro⟨e,k,m,j⟩;rw[m]at a;exact⟨e,k,Se a,j⟩
def ahV{k:Xv}(a:CT (H' (σ g))=CT (H g))(b:B' (σ g)=B g):rQ w B' H' (σ g) n len k v↔rQ w B H g n len k v:=by
 unfold rQ;rw[b];constructor
 .rintro⟨e,G,m,j⟩;rw[m]at a;exact⟨e,G,Yd a.symm,j⟩
 .rintro⟨e,G,m,j⟩;rw[m]at a;exact⟨e,G,Yd a,j⟩
def adV(x:AV)(c:List Value):m9 (tg σ x) c=m9 x c:=by
 cases x<;>simp only[tg]<;>first|rfl|(match c with| []=>rfl| [_]=>rfl|_::_::_=>rfl)
mutual
theorem Ig:∀(x:AV),(∀g∈mR x,CT (H' (σ g))=CT (H g)/\B' (σ g)=B g/\H g≠some .hid)-> ∀{cs:List Value},Rd U w (tg σ x) B' H' cs↔Rd U w x B H cs
 | .v x,_,_=>fM
 | .agg n fs,d,_=>by
  simp only[tg,Rd];exact rK λ_=>ZN fs jl
 | .arr m n G,_,_=>fM
 | .ref x,_,_=>fM
 | .sl none n G,_,_=>by
  simp only[tg,Rd,Option.map_none];refine qO λA=>qO λcap=>rK λ_=>rK λ_=>rK λ_=>rK λ_=>?_;exact⟨λ_ t ht=>(by cases ht),λ_ t ht=>(by cases ht)⟩
 | .sl (some t) n G,d,_=>by
  obtain⟨k1,k2,k3⟩:=d t jP;simp only[tg,Rd,Option.map_some];refine qO λA=>qO λcap=>rK λ_=>rK λ_=>rK λ_=>rK λ_=>?_;constructor
  .intro h t' ht;injection ht with ht;subst ht;exact(XV k1 k2).1 (h _ O)
  .intro h t' ht;injection ht with ht;subst ht;exact(XV k1 k2).2 (h _ O)
 | .ptr g _ _,d,_=>by
  obtain⟨k1,k2,k3⟩:=d g jP;simp only[tg,Rd,k2,Yb k1]
 | .seg g _ _ _ _ _,d,_=>by
  obtain⟨k1,k2,k3⟩:=d g jP;simp only[tg,Rd,k2,Yb k1]
 | .mz _,_,_=>fM
 | .fn f a b,d,_=>by
  simp only[mR,rJ]at d;simp only[tg,Rd];exact qO λc1=>qO λc2=>rK λ_=>AY (G2 a (λg hg=>d g (.inl hg))) (G2 b (λg hg=>d g (.inr hg)))
 | .ifc t x,d,_=>by
  simp only[tg,Rd];exact qO λc=>AY (Ig x jl) jR
 | .own g _ _ _,d,_=>by
  obtain⟨k1,k2,k3⟩:=d g jP;simp only[tg,Rd];exact qO λv=>AY (ahV k1 k2) rq
 | .raw _ _ _,_,_=>fM
 | .hv g,d,_=>by
  obtain⟨k1,k2,k3⟩:=d g jP;simp only[tg,Rd];constructor
  .rintro⟨h1,_⟩;exact absurd (ahD (by rw[<-k1,h1];rfl)) k3
  .rintro⟨h1,_⟩;exact absurd h1 k3
theorem ZN:∀(G:List AV),(∀g∈ow G,CT (H' (σ g))=CT (H g)/\B' (σ g)=B g/\H g≠some .hid)-> ∀{cs:List Value},qQ U w (Ca σ G) B' H' cs↔qQ U w G B H cs
 | [],_,_=>by simp only[Ca,qQ]
 |x::G,d,_=>by
  simp only[ow,rJ]at d;simp only[Ca,qQ];exact qO λc1=>qO λc2=>rK λ_=>AY (Ig x (λg hg=>d g (.inl hg))) (ZN G (λg hg=>d g (.inr hg)))
theorem G2:∀(G:List AV),(∀g∈ow G,CT (H' (σ g))=CT (H g)/\B' (σ g)=B g/\H g≠some .hid)-> ∀{cs:List Value},oe U w (Ca σ G) B' H' cs↔oe U w G B H cs
 | [],_,_=>by simp only[Ca,oe]
 |x::G,d,_=>by
  simp only[ow,rJ]at d;simp only[Ca,oe];exact qO λc=>qO λvs=>AY jR (AY (Ig x (λg hg=>d g (.inl hg))) (G2 G (λg hg=>d g (.inr hg))))
end
def ajp{x:AV}(d:∀g∈mR x,CT (H' (σ g))=CT (H g)/\B' (σ g)=B g/\H g≠some .hid):qJ U w B' H' (tg σ x) v↔qJ U w B H x v:=by
 rcases Ec x with⟨G,rfl⟩|hx
 .rw[mW];simp only[tg];rw[mW];exact qO λvs=>rK λ_=>G2 G jl
 .have k:∀G,tg σ x≠ .mz G:=by
   intro G h;cases x<;>simp[tg]at h;exact hx _ O
  rw[kJ hx,kJ k];exact qO λc=>AY (Ig x d) jR
end
def Ep:Bx->Nat
 | .tail _ _ k=>k
 | .own _ _ G=>G.length
 |_=>0
def wN:Bx->Bool
 | .froz _=>false
 | .hid=>false
 | .ext _=>false
 |_=>true
variable {bx:Bx}
def nG(h:wN bx=true):nR (some bx)=true:=by cases bx<;>first|rfl|cases h
def Ed:Bx->Nat
 | .tail _ n k=>k*n
 |_=>0
variable {B2:nE}
section
def uu.qp(m:uu E B H w){g b:Nat}{bx:Bx}(h:H g=some bx)(d:B g=some b):b<w.heap.size:=by
 have a:=m.box g bx h;cases bx with
 |var x=>obtain⟨b',cs,t,f,k2,_⟩:=a;rw[d]at f;injection f with f;subst f;exact qY k2
 |froz x=>obtain⟨b',cs,f,k2,_⟩:=a;rw[d]at f;injection f with f;subst f;exact HB k2
 |tail e n k=>
  rcases a.2.2 with⟨f,_⟩|⟨b',cur,cap,f,k2,_⟩
  .rw[d]at f;cases f
  .rw[d]at f;injection f with f;subst f;exact qY k2
 |own e n G=>
  rcases a.2.2 with⟨f,_⟩|⟨b',cur,cap,c,f,k2,_⟩
  .rw[d]at f;cases f
  .rw[d]at f;injection f with f;subst f;exact qY k2
 |hid=>rw[show B g=none from a]at d;cases d
 |ext M=>rw[show B g=none from a.1.2]at d;cases d
def uu.mine(m:uu E B H w){g b:Nat}{bx:Bx}(h:H g=some bx)(i:wN bx=true)(d:B g=some b):EY E b (Ed bx):=by
 have a:=m.box g bx h;cases bx with
 |var x=>obtain⟨b',cs,t,f,k2,k3,l,F⟩:=a;rw[d]at f;injection f with f;subst f;exact l
 |froz x=>cases i
 |hid=>cases i
 |ext M=>cases i
 |tail e n k=>
  rcases a.2.2 with⟨f,_⟩|⟨b',cur,cap,f,k2,k3,l,F,y⟩
  .rw[d]at f;cases f
  .rw[d]at f;injection f with f;subst f;exact y
 |own e n G=>
  rcases a.2.2 with⟨f,_⟩|⟨b',cur,cap,c,f,k2,k3,l,F,y,j,U⟩
  .rw[d]at f;cases f
  .rw[d]at f;injection f with f;subst f;exact U
def uu.tie(m:uu E B H w){g:Nat}{bx:Bx}(h:H g=some bx)(i:wN bx=true):Ks E g (Ep bx) (B g):=by
 have a:=m.box g bx h;cases bx with
 |var x=>obtain⟨b',cs,t,f,k2,k3,l,F⟩:=a;rw[f];exact F
 |froz x=>cases i
 |hid=>cases i
 |ext M=>cases i
 |tail e n k=>exact a.2.1
 |own e n G=>exact a.2.1
def xJ(h:H g=some bx)(i:wN bx=true)(c:B g=some b){o:Nat}(U:Ed bx<=o):kI E B H b o:=by refine .inr (.inr ⟨g,c,?_⟩);rw[h];cases bx<;>first|trivial|exact U|cases i
def aat{o:Nat}(h:H g=some bx)(T:match H g with|some (.var _)=>True|some (.tail _ n k)=>k*n<=o|some (.own _ _ _)=>True|_=>False):wN bx=true/\Ed bx<=o:=by
 rw[h]at T;cases bx<;>first|exact⟨O,kO _⟩|exact⟨O,T⟩|exact T.elim
def sh{x:Option Bx}{o:Nat}(T:match x with|some (.var _)=>True|some (.tail _ n k)=>k*n<=o|some (.own _ _ _)=>True|_=>False):∃bx,x=some bx/\wN bx=true/\Ed bx<=o:=by
 cases x with
 |none=>exact T.elim
 |some bx=>cases bx<;>first|exact⟨_,rfl,rfl,kO _⟩|exact⟨_,rfl,rfl,T⟩|exact T.elim
def uu.w7(m:uu E B H w){b o:Nat}(h:kI E B H b o):b<w.heap.size:=by
 rcases h with⟨h,_⟩|⟨l,h⟩|⟨g,hb,h⟩
 .exact wx h m.left.size
 .exact m.fx.lt l b h
 .obtain⟨bx,a,_⟩:=sh h;exact m.qp a hb
def uu.XU(m:uu E B H w){g b o:Nat}{bx:Bx}(h:H g=some bx)(i:wN bx=true)(d:B g=some b)(e:kI E B H b o):Ed bx<=o:=by
 rcases e with⟨a,c,n⟩|⟨l,a⟩|⟨j,a,c⟩
 .rcases m.mine h i d with k|k
  .omega
  .exact absurd k.2.1 n
 .exact absurd d (m.fx.out l b g a (by rw[h];exact nG i))
 .obtain⟨x,n,A,D⟩:=sh c;have:j=g:=m.inj j g b (by rw[n];exact nG A) (by rw[h];exact nG i) a d;subst this;rw[h]at n;injection n with n;subst n
  exact D
structure MH(σ:Nat->Nat)(H H1:Hp):Prop where
 is:∀c bx,H1 c=some bx->H (σ c)=some (ur σ bx)/\wN bx=true/\ ∀g∈qA bx,(H1 g).isSome=true
 inj:∀c c',(H1 c).isSome=true->(H1 c').isSome=true->σ c=σ c'->c=c'
 lo:∀c,c<1000->H1 c=none
def Sa(σ:Nat->Nat)(B:nE)(n:Hp):nE:=⟨λc=>if(n c).isSome then B (σ c)else none,λ_=>none,λ_=>undef⟩
def xL(E:su)(B:nE)(H:Hp)(w:World)(σ:Nat->Nat)(n:Hp)(lo:∀c,c<1000->n c=none):su:=⟨w,kI E B H,λc=>match n c with|some bx=>some (Ep bx,B (σ c))|none=>none,λc u=>by rw[lo c u],[],λ_=>False⟩
def vn:wN (ur σ bx)=wN bx:=by cases bx<;>rfl
def CX:Ed (ur σ bx)=Ed bx:=by cases bx<;>rfl
def adK:Ep (ur σ bx)=Ep bx:=by cases bx<;>rfl
variable {H1:Hp}
def xz(C:MH σ H H1){c:Nat}{bx:Bx}(h:H1 c=some bx):Sa σ B H1 c=B (σ c):=by simp[Sa,h]
def KV(C:MH σ H H1){b:Nat}:(xL E B H w σ H1 C.lo).E3 b↔ ∃c bx,H1 c=some bx/\B (σ c)=some b:=by
 constructor
 .rintro⟨c,k,h⟩;simp only[xL]at h;cases D:H1 c with
  |none=>rw[D]at h;cases h
  |some bx=>
   rw[D]at h;simp only[mr,pq]at h;exact⟨c,bx,D,h.2⟩
 .rintro⟨c,bx,a,d⟩;exact⟨c,Ep bx,by simp only[xL,a,d]⟩
def R9(m:uu E B H w)(C:MH σ H H1):kI (xL E B H w σ H1 C.lo) (Sa σ B H1) H1=kI E B H:=by
 funext b o;refine propext ⟨?_,λh=>?_⟩
 .rintro(⟨a,d,k⟩|⟨l,a⟩|⟨c,a,d⟩)
  .exact d
  .cases a
  .obtain⟨bx,k,A,D⟩:=sh d;rw[xz C k]at a;obtain⟨e,k2,_⟩:=C.is c bx k;exact xJ e (vn.trans A) a (by rw[CX];exact D)
 .by_cases L:(xL E B H w σ H1 C.lo).E3 b
  .obtain⟨c,bx,a,d⟩:=(KV C).1 L;obtain⟨e,k2,_⟩:=C.is c bx a;have:=m.XU e (vn.trans k2) d h;rw[CX]at this;exact xJ a k2 (by rw[xz C a];exact d) this
  .exact .inl ⟨m.w7 h,h,L⟩
def Oi(C:MH σ H H1){g:Nat}(t:(H1 g).isSome=true):CT (H (σ g))=CT (H1 g)/\B (σ g)=Sa σ B H1 g/\H1 g≠some .hid:=by
 cases D:H1 g with
 |none=>rw[D]at t;cases t
 |some bx=>exact⟨by rw[(C.is g bx D).1,Yc],(xz C D).symm,λe=>by injection e with e;subst e;have:=(C.is g _ D).2.1;cases this⟩
def uu.enter(m:uu E B H w)(C:MH σ H H1):uu (xL E B H w σ H1 C.lo) (Sa σ B H1) H1 w:=by
 have J:=R9 m C
 have ent:∀c bx b,H1 c=some bx->B (σ c)=some b->EY (xL E B H w σ H1 C.lo) b (Ed bx):=λc bx b a d=>by
  obtain⟨f,k2,_⟩:=C.is c bx a;exact .inr ⟨m.qp f d,(KV C).2 ⟨c,bx,a,d⟩,λo U=>xJ f (vn.trans k2) d (by rw[CX];exact U)⟩
 have X:∀c bx,H1 c=some bx->Ks (xL E B H w σ H1 C.lo) c (Ep bx) (B (σ c)):=λc bx a s I h=>by
  simp only[xL,a,mr,pq]at h;exact⟨by omega,λ_=>h.2⟩
 refine⟨λc bx v=>?_,λc v=>by simp[Sa,v],λc c' b a d l A=>?_,⟨O,rfl,rfl,kK _,λ_ _ _ _=>rfl,nK.refl _ _⟩,λc v=>by simp only[xL,v],⟨λ_ _ h=>kd,λ_ _ h=>kd,λ_ _ _ h=>kd,λ_ _ _ h=>kd⟩⟩
 .obtain⟨f,k2,k3⟩:=C.is c bx v;have hb:=m.box _ _ f;have N:=xz (B:=B) C v;cases bx with
  |var x=>
   obtain⟨b,cs,t,q,j,V,R,S⟩:=hb;refine⟨b,cs,t,N.trans q,j,?_,ent c _ b v q,?_⟩
   .rw[J];exact(Ig x (λg u=>Oi C (k3 g u))).1 V
   .have:=X c _ v;rw[q]at this;exact this
  |froz x=>cases k2
  |hid=>cases k2
  |ext M=>cases k2
  |tail e n k=>
   obtain⟨W,q,j⟩:=hb;refine⟨W,by rw[N];exact X c _ v,?_⟩;rw[N];rcases j with j|⟨b,cur,cap,F,y,z,T,L,Y⟩
   .exact .inl j
   .exact .inr ⟨b,cur,cap,F,y,z,T,L,ent c _ b v F⟩
  |own e n G=>
   obtain⟨W,q,j⟩:=hb;refine⟨W,by rw[N];exact X c _ v,?_⟩;rw[N];rcases j with j|⟨b,cur,cap,r,F,y,z,T,L,Y,p7,p8⟩
   .exact .inl j
   .exact .inr ⟨b,cur,cap,r,F,y,z,T,L,Y,by rw[J];exact p7,ent c _ b v F⟩
 .have Z:∀c,nR (H1 c)=true-> ∃bx,H1 c=some bx:=λc h=>by
   cases D:H1 c with
   |none=>rw[D]at h;cases h
   |some bx=>exact⟨bx,rfl⟩
  obtain⟨bx,P⟩:=Z c a;obtain⟨K,i⟩:=Z c' d;rw[xz C P]at l;rw[xz C i]at A;obtain⟨f,k2,_⟩:=C.is c bx P;obtain⟨k3,p,_⟩:=C.is c' K i;exact C.inj c c' (by rw[P];rfl) (by rw[i];rfl) (m.inj _ _ b (by rw[f];exact nG (vn.trans k2)) (by rw[k3];exact nG (vn.trans p)) l A)
def ae7:Bx->Bx->Prop
 | .var _,.var _=>True
 | .tail e n _,.tail e' R _=>e'=e/\R=n
 | .own e n _,.own e' R _=>e'=e/\R=n
 |_,_=>False
structure amu(σ:Nat->Nat)(H H1 H2 H':Hp)(B B2 B':nE):Prop where
 names:MH σ H H1
 kind:∀c bx,H1 c=some bx-> ∃bx',H2 c=some bx'/\ae7 bx bx'
 fresh:∀c,(H2 c).isSome=true->H1 c=none->H (σ c)=none
 inj:∀c c',(H2 c).isSome=true->(H2 c').isSome=true->σ c=σ c'->c=c'
 is:∀c bx,H2 c=some bx->H' (σ c)=some (ur σ bx)/\B' (σ c)=B2 c/\wN bx=true/\ ∀g∈qA bx,(H2 g).isSome=true
 other:∀j,(∀c,(H2 c).isSome=true->σ c≠j)->H' j=H j/\B' j=B j
 fx:B'.fx=B.fx
 hv:B'.hv=B.hv
variable {H2 H':Hp}
section
variable (m:uu E B H w)(o:amu σ H H1 H2 H' B B2 B')(m2:uu (xL E B H w σ H1 o.names.lo) B2 H2 w')
include m o m2
theorem o4(j:Nat):(∃c bx,H2 c=some bx/\σ c=j)∨((∀c,(H2 c).isSome=true->σ c≠j)/\H' j=H j/\B' j=B j):=by
 by_cases h:∃c bx,H2 c=some bx/\σ c=j
 .exact .inl h
 .have:∀c,(H2 c).isSome=true->σ c≠j:=λc u e=>by
   cases D:H2 c with
   |none=>rw[D]at u;cases u
   |some bx=>exact h ⟨c,bx,D,e⟩
  exact .inr ⟨this,o.other j this⟩
theorem xR(h:(xL E B H w σ H1 o.names.lo).E3 b):∃c bx,H1 c=some bx/\B (σ c)=some b/\H (σ c)=some (ur σ bx)/\wN (ur σ bx)=true/\ ∃I,H2 c=some I:=by obtain⟨c,bx,a,d⟩:=(KV o.names).1 h;obtain⟨e,k2,_⟩:=o.names.is c bx a;obtain⟨I,k3,_⟩:=o.kind c bx a;exact⟨c,bx,a,d,e,vn.trans k2,I,k3⟩
theorem Cf{q:Nat}(h:kI E B' H' b q):kI (xL E B H w σ H1 o.names.lo) B2 H2 b q:=by
 rcases h with⟨a,d,n⟩|⟨l,a⟩|⟨j,a,d⟩
 .have Z:b<w.heap.size:=wx a m.left.size;refine .inl ⟨Z,.inl ⟨a,d,n⟩,λL=>?_⟩;obtain⟨c,bx,e,k2,k3,r,_⟩:=xR m o m2 L;rcases m.mine k3 r k2 with k|k
  .omega
  .exact n k.2.1
 .rw[o.fx]at a;refine .inl ⟨m.fx.lt l b a,.inr (.inl ⟨l,a⟩),λL=>?_⟩;obtain⟨c,bx,e,k2,k3,r,_⟩:=xR m o m2 L;exact m.fx.out l b _ a (by rw[k3];exact nG r) k2
 .rcases o4 m o m2 j with⟨c,bx,e,rfl⟩|⟨e,k2,k3⟩
  .obtain⟨s,p,U,_⟩:=o.is c bx e;rw[p]at a;have:=aat s d;rw[CX]at this;exact xJ e U a this.2
  .rw[k3]at a;rw[k2]at d;obtain⟨bx,s,p,U⟩:=sh d;refine .inl ⟨m.qp s a,xJ s p a U,λL=>?_⟩;obtain⟨c,I,D,x,y,T,P,i⟩:=xR m o m2 L;exact e c (by rw[i];rfl) (m.inj _ _ b (by rw[y];exact nG T) (by rw[s];exact nG p) x a)
theorem SD{q:Nat}(e:b<w.heap.size)(h:kI (xL E B H w σ H1 o.names.lo) B2 H2 b q):kI E B H b q:=by
 rcases h with⟨a,d,m⟩|⟨l,a⟩|⟨c,a,d⟩
 .exact d
 .rcases m2.fx.mine l b a with k|k
  .have:w.heap.size<=b:=k;omega
  .exact k.1.elim
 .obtain⟨bx,f,k2,k3⟩:=sh d;rcases m2.mine f k2 a with k|k
  .have:w.heap.size<=b:=k;omega
  .exact k.2.2 q k3
theorem HF{q:Nat}(h:EY (xL E B H w σ H1 o.names.lo) b q):EY E b q:=by
 rcases h with h|⟨a,d,k⟩
 .have p:w.heap.size<=b:=h;exact .inl (oG m.left.size p)
 .obtain⟨c,bx,e,k2,k3,l,_⟩:=xR m o m2 d;have hm:=m.mine k3 l k2;rcases hm with hm|hm
  .exact .inl hm
  .have A:Ed (ur σ bx)<=q:=m.XU k3 l k2 (k q (kK _));exact .inr ⟨hm.1,hm.2.1,λo' n=>hm.2.2 o' kh⟩
theorem Fy:nK (kI E B H) w w':=m2.left.evo
theorem SE:qt w w' B B' H H':=by
 have F:=Fy m o m2
 have same:∀c bx,H2 c=some bx-> ∀bx0,H (σ c)=some bx0-> ∃Z,H1 c=some Z/\bx0=ur σ Z/\ae7 Z bx:=λc bx a bx0 d=>by
  cases D:H1 c with
  |none=>rw[o.fresh c (by rw[a];rfl) D]at d;cases d
  |some Z=>
   obtain⟨f,_⟩:=o.names.is c Z D;rw[d]at f;injection f with f
   obtain⟨bx',k2,k3⟩:=o.kind c Z D;rw[a]at k2;injection k2 with k2;subst k2
   exact⟨Z,rfl,f,k3⟩
 have tie:∀c bx,H2 c=some bx-> ∀Z,H1 c=some Z->Ep Z<=Ep bx/\(Ep bx=Ep Z->B2 c=B (σ c)):=λc bx a Z d=>by
  obtain⟨_,_,k,_⟩:=o.is c bx a;exact m2.tie a k (Ep Z) (B (σ c)) (by simp only[xL,d])
 refine⟨λj b a d=>?_,λj h=>?_,λt n len A cap h=>?_,λg n len k v h=>?_,λg h=>?_⟩
 .rcases o4 m o m2 j with⟨c,bx,f,rfl⟩|⟨_,k2,k3⟩
  .cases i:H (σ c)with
   |none=>rw[i]at a;cases a
   |some bx0=>
    obtain⟨Z,L,E,K⟩:=same c bx f bx0 i;obtain⟨r,q,_⟩:=o.is c bx f;rw[q];subst E;rw[i]at a;cases Z with
    |var x=>
     cases bx with
     |var y=>rw[(tie c _ f _ L).2 O];exact d
     |_=>exact K.elim
    |froz x=>exact K.elim
    |hid=>cases a
    |ext M=>cases a
    |tail e n k=>cases a
    |own e n G=>cases a
  .rw[k3];exact d
 .rcases o4 m o m2 j with⟨c,bx,f,rfl⟩|⟨_,k2,k3⟩
  .cases i:H (σ c)with
   |none=>rw[i]at h;cases h
   |some bx0=>
    obtain⟨Z,L,E,K⟩:=same c bx f bx0 i;obtain⟨r,q,_⟩:=o.is c bx f;rw[r];subst E;rw[i]at h;cases Z with
    |var x=>cases bx<;>first|rfl|exact K.elim
    |froz x=>exact K.elim
    |hid=>cases h
    |ext M=>cases h
    |tail e n k=>cases h
    |own e n G=>cases h
  .rw[k2];exact h
 .obtain⟨e,k,a,d,l⟩:=h;rcases o4 m o m2 t with⟨c,bx,f,rfl⟩|⟨_,k2,k3⟩
  .obtain⟨Z,L,E,K⟩:=same c bx f _ a;obtain⟨r,q,_⟩:=o.is c bx f;cases Z with
   |tail P S k1'=>
    simp only[ur,Bx.tail.injEq]at E;obtain⟨rfl,rfl,rfl⟩:=E;cases bx with
    |tail p Y k2=>
     obtain⟨rfl,rfl⟩:=K;obtain⟨t1,t2⟩:=tie c _ f _ L;simp only[Ep]at t1 t2;refine⟨p,k2,r,by omega,λz=>?_⟩;have hk1:k2=k:=eY;rw[q,t2 hk1];obtain⟨I,s⟩:=l kh;refine⟨I,λb hb=>?_⟩;obtain⟨V,cur,u,N⟩:=s b hb;obtain⟨U,X,W,_⟩:=F.cell b cur p (0,0) u;exact⟨V,U,X,W.trans N⟩
    |_=>exact K.elim
   |var x=>simp[ur]at E
   |froz x=>simp[ur]at E
   |own e' R G=>simp[ur]at E
   |hid=>simp[ur]at E
   |ext M=>simp[ur]at E
  .refine⟨e,k,by rw[k2];exact a,d,λz=>?_⟩;rw[k3];obtain⟨I,s⟩:=l z;refine⟨I,λb hb=>?_⟩;obtain⟨V,cur,u,N⟩:=s b hb;obtain⟨U,X,W,_⟩:=F.cell b cur e (0,0) u;exact⟨V,U,X,W.trans N⟩
 .obtain⟨e,G,a,d,l,C⟩:=h;have go:(B' g=B g)->(∃xs',H' g=some (.own e n xs')/\G.length<=xs'.length)->(∀xs',H' g=some (.own e n xs')->xs'.length=G.length->B' g=B g)->True:=λ_ _ _=>trivial;rcases o4 m o m2 g with⟨c,bx,f,rfl⟩|⟨_,k2,k3⟩
  .obtain⟨Z,L,E,K⟩:=same c bx f _ a;obtain⟨r,q,_⟩:=o.is c bx f;cases Z with
   |own P S xs1=>
    simp only[ur,Bx.own.injEq]at E;obtain⟨rfl,rfl,rfl⟩:=E;cases bx with
    |own p Y xs2=>
     obtain⟨rfl,rfl⟩:=K;obtain⟨t1,t2⟩:=tie c _ f _ L;simp only[Ep]at t1 t2;refine⟨p,xs2,r,by omega,l,λz=>?_⟩;have hk1:xs2.length=G.length:=eY;rw[q,t2 hk1];obtain⟨I,s⟩:=C kh;refine⟨I,λb hb=>?_⟩;obtain⟨cur,u,N⟩:=s b hb;obtain⟨U,X,W,_⟩:=F.cell b cur p (0,0) u;refine⟨U,X,?_⟩;cases k with
     |row=>obtain⟨J,T,v2,v3,v4⟩:=N;exact⟨J,T,v2,v3,W.trans v4⟩
     |_=>exact N
    |_=>exact K.elim
   |var x=>simp[ur]at E
   |froz x=>simp[ur]at E
   |tail e' R k'=>simp[ur]at E
   |hid=>simp[ur]at E
   |ext M=>simp[ur]at E
  .exact rQ.go F k2 k3 ⟨e,G,a,d,l,C⟩
 .rcases o4 m o m2 g with⟨c,bx,f,rfl⟩|⟨_,k2,_⟩
  .obtain⟨Z,L,E,K⟩:=same c bx f _ h;cases Z<;>first|(exact K.elim)|(simp[ur]at E)
  .exact⟨k2.trans h,by rw[o.hv]⟩
theorem ad0{x:AV}(h:qJ (kI E B H) w B H x v):qJ (kI E B' H') w' B' H' x v:=
 vE (Fy m o m2) (λb q hb hu=>SD m o m2 hb (Cf m o m2 hu)) (SE m o m2) h
theorem SF(t:(H2 g).isSome=true):CT (H' (σ g))=CT (H2 g)/\B' (σ g)=B2 g/\H2 g≠some .hid:=by
 cases D:H2 g with
 |none=>rw[D]at t;cases t
 |some bx=>
  obtain⟨f,k2,k3,_⟩:=o.is g bx D;exact⟨by rw[f,Yc],k2,λe=>by injection e with e;subst e;cases k3⟩
theorem adZ{x:AV}(j:∀g∈mR x,(H2 g).isSome=true){v:Value}(h:qJ (kI (xL E B H w σ H1 o.names.lo) B2 H2) w' B2 H2 x v):qJ (kI E B' H') w' B' H' (tg σ x) v:=
 (ajp (λg t=>SF m o m2 (j g t))).2 (vE (nK.refl _ w') (λb q _ hu=>Cf m o m2 hu) ⟨λ_ _ _ h=>h,λ_ h=>h,λ_ _ _ _ _ h=>h,λ_ _ _ _ _ h=>h,λ_ h=>⟨h,rfl⟩⟩ h)
theorem adY{x:AV}(j:∀g∈mR x,(H2 g).isSome=true){c:List Value}(h:Rd (kI (xL E B H w σ H1 o.names.lo) B2 H2) w' x B2 H2 c):Rd (kI E B' H') w' (tg σ x) B' H' c:=
 (Ig x (λg t=>SF m o m2 (j g t))).2 (n6 (nK.refl _ w') (λb q _ hu=>Cf m o m2 hu) x ⟨λ_ _ _ h=>h,λ_ h=>h,λ_ _ _ _ _ h=>h,λ_ _ _ _ _ h=>h,λ_ h=>⟨h,rfl⟩⟩ h)
theorem aa8:Ih E w':=by
 have l2:=m2.left;refine⟨l2.os.trans m.left.os,l2.tape.trans m.left.tape,l2.output.trans m.left.output,oG m.left.size l2.size,λk x L n=>?_,⟨oG m.left.size l2.size,λb cs t fr hb=>?_⟩⟩
 .have y:k<w.heap.size:=wx x m.left.size;refine(l2.block k y (λh=>?_) (λh=>h)).trans (m.left.block k x L n);obtain⟨c,bx,e,k2,k3,s,_⟩:=xR m o m2 h;rcases m.mine k3 s k2 with q|q
  .omega
  .exact L q.2.1
 .obtain⟨c1,a,d,p⟩:=m.left.evo.cell b cs t fr hb;obtain⟨c2,e,k2,k3⟩:=(Fy m o m2).cell b c1 t fr a;refine⟨c2,e,k2.trans d,λq f=>(k3 q (λhu=>?_)).trans (p q f)⟩;have Z:=qY hb;rcases hu with⟨_,u,_⟩|⟨l,u⟩|⟨j,M,v⟩
  .exact f u
  .rcases m.fx.mine l b u with r|r
   .omega
   .exact f (r.2 q)
  .obtain⟨bx,N,S,T⟩:=sh v;rcases m.mine N S M with r|r
   .omega
   .exact f (r.2.2 q T)
theorem uu.leave:uu E B' H' w':=by
 have J:=Fy m o m2;have y:∀b q,b<w.heap.size->kI E B' H' b q->kI E B H b q:=λb q hb hu=>SD m o m2 hb (Cf m o m2 hu);have T:=SE m o m2
 have keepB:∀j b,(∀c,(H2 c).isSome=true->σ c≠j)->nR (H j)=true->B j=some b->b<w.heap.size/\ ¬(xL E B H w σ H1 o.names.lo).E3 b:=λj b a d p=>by
  cases D:H j with
  |none=>rw[D]at d;cases d
  |some bx=>
   refine⟨m.qp D p,λL=>?_⟩;obtain⟨c,bx',N,C,K,V,bx2,p5⟩:=xR m o m2 L;exact a c (by rw[p5];rfl) (m.inj _ _ b (by rw[K];exact nG V) d C p)
 have lv2:∀c bx,H2 c=some bx->nR (H2 c)=true:=λc bx h=>by
  obtain⟨_,_,k,_⟩:=o.is c bx h;rw[h];exact nG k
 have tie:∀c bx,H2 c=some bx->Ks E (σ c) (Ep bx) (B2 c):=λc bx h=>by
  cases D:H1 c with
  |none=>exact Ks.none (m.qa _ (o.fresh c (by rw[h];rfl) D))
  |some bx1=>
   obtain⟨f,k2,_⟩:=o.names.is c bx1 D;have t1:=m.tie f (vn.trans k2);rw[adK]at t1;obtain⟨_,_,k,_⟩:=o.is c bx h;obtain⟨t2,t3⟩:=m2.tie h k (Ep bx1) (B (σ c)) (by simp only[xL,D]);intro Y P e;obtain⟨Z,X⟩:=t1 Y P e;exact⟨by omega,λe'=>(t3 kh).trans (X kh)⟩
 have fxent:∀l b,B.fx l=some b-> ¬(xL E B H w σ H1 o.names.lo).E3 b:=λl b a L=>by
  obtain⟨c,bx,f,k2,k3,u,_⟩:=xR m o m2 L;exact m.fx.out l b _ a (by rw[k3];exact nG u) k2
 refine⟨λj bx i=>?_,λj i=>?_,λj F b a d p A=>?_,aa8 m o m2,λj i=>?_,⟨by rw[o.fx];exact m.fx.mine,λl b h=>?_,by rw[o.fx];exact m.fx.inj,λl b j h a d=>?_⟩⟩
 .rcases o4 m o m2 j with⟨c,bx2,f,rfl⟩|⟨f,k2,k3⟩
  .obtain⟨v,r,U,R⟩:=o.is c bx2 f;rw[v]at i;injection i with i;subst i
   have hb:=m2.box c bx2 f;have s:=tie c bx2 f;cases bx2 with
   |var x=>
    obtain⟨b,cs,t,N,C,K,V,p5⟩:=hb;rw[N]at s;exact⟨b,cs,t,r.trans N,C,adY m o m2 R K,HF m o m2 V,s⟩
   |froz x=>cases U
   |hid=>cases U
   |ext M=>cases U
   |tail e n k=>
    obtain⟨p0,N,C⟩:=hb;refine⟨p0,by rw[r];exact s,?_⟩;rw[r];rcases C with C|⟨b,cur,cap,K,V,p5,p6,p7,p8⟩
    .exact .inl C
    .exact .inr ⟨b,cur,cap,K,V,p5,p6,p7,HF m o m2 p8⟩
   |own e n G=>
    obtain⟨p0,N,C⟩:=hb;refine⟨p0,by rw[r];exact s,?_⟩;rw[r];rcases C with C|⟨b,cur,cap,W,K,V,p5,p6,p7,p8,p9,p10⟩
    .exact .inl C
    .exact .inr ⟨b,cur,cap,W,K,V,p5,p6,p7,p8,nr (nK.refl _ w') (λb q _ hu=>Cf m o m2 hu) n G (qt.nj _ _) p9,HF m o m2 p10⟩
  .have hj0:H j=some bx:=k2.symm.trans i;have hb:=m.box j bx hj0
   have oj:∀b,nR (some bx)=true->B j=some b->w'.heap[b]?=w.heap[b]? :=λb g hb=>by obtain⟨v,r⟩:=keepB j b f (by rw[hj0];exact g) hb;exact m2.left.block b v r (λh=>h)
   cases bx with
   |var x=>
    obtain⟨b,cs,t,N,C,K,V⟩:=hb;exact⟨b,cs,t,k3.trans N,(oj b O N).trans C,n6 J y x T K,V⟩
   |froz x=>
    obtain⟨b,cs,N,C,K,V⟩:=hb;exact⟨b,cs,k3.trans N,J.row C K,zz y C K,n6 J y x T V⟩
   |hid=>exact k3.trans hb
   |ext M=>exact⟨⟨hb.1.1,k3.trans hb.1.2⟩,hb.2.go o.fx o.hv (λl b g=>m2.left.block b (m.fx.lt l b g) (fxent l b g) (λh=>h)) J y⟩
   |tail e n k=>
    obtain⟨p0,N,C⟩:=hb;refine⟨p0,by rw[k3];exact N,?_⟩;rcases C with⟨C,K⟩|⟨b,cur,cap,K,V,p5⟩
    .exact .inl ⟨k3.trans C,K⟩
    .exact .inr ⟨b,cur,cap,k3.trans K,(oj b O K).trans V,p5⟩
   |own e n G=>
    obtain⟨p0,N,C⟩:=hb;refine⟨p0,by rw[k3];exact N,?_⟩;rcases C with⟨C,K⟩|⟨b,cur,cap,W,K,V,p5,p6,p7,p8,p9,p10⟩
    .exact .inl ⟨k3.trans C,K⟩
    .exact .inr ⟨b,cur,cap,W,k3.trans K,(oj b O K).trans V,p5,p6,p7,p8,nr J y n G (qt.nj _ _) p9,p10⟩
 .rcases o4 m o m2 j with⟨c,bx,f,rfl⟩|⟨f,k2,k3⟩
  .rw[(o.is c bx f).1]at i;cases i
  .rw[k3];exact m.x3 j (k2.symm.trans i)
 .rcases o4 m o m2 j with⟨c,bx,f,rfl⟩|⟨f,k2,k3⟩
  .obtain⟨v,r,U,_⟩:=o.is c bx f;rw[r]at p;rcases o4 m o m2 F with⟨c',bx',N,rfl⟩|⟨N,C,K⟩
   .obtain⟨I,z,S,_⟩:=o.is c' bx' N;rw[z]at A;rw[m2.inj c c' b (lv2 c bx f) (lv2 c' bx' N) p A]
   .rw[K]at A;rw[C]at d;obtain⟨Z,X⟩:=keepB F b N d A;rcases m2.mine f U p with k|k
    .have:w.heap.size<=b:=k;omega
    .exact absurd k.2.1 X
  .rw[k3]at p;rw[k2]at a;obtain⟨Z,X⟩:=keepB j b f a p;rcases o4 m o m2 F with⟨c',bx',N,rfl⟩|⟨N,C,K⟩
   .obtain⟨I,z,S,_⟩:=o.is c' bx' N;rw[z]at A;rcases m2.mine N S A with k|k
    .have:w.heap.size<=b:=k;omega
    .exact absurd k.2.1 X
   .rw[K]at A;rw[C]at d;exact m.inj j F b a d p A
 .rcases o4 m o m2 j with⟨c,bx,f,rfl⟩|⟨f,k2,k3⟩
  .rw[(o.is c bx f).1]at i;cases i
  .exact m.qa j (k2.symm.trans i)
 .rw[o.fx]at h;exact wx (m.fx.lt l b h) m2.left.size
 .rw[o.fx]at h;rcases o4 m o m2 j with⟨c,bx,f,rfl⟩|⟨f,k2,k3⟩
  .obtain⟨v,r,U,_⟩:=o.is c bx f;rw[r]at d;rcases m2.mine f U d with k|k
   .have:w.heap.size<=b:=k;have:=m.fx.lt l b h;omega
   .exact fxent l b h k.2.1
  .rw[k3]at d;rw[k2]at a;exact m.fx.out l b j h a d
end
end
section
variable {F:Fence}
def Pj(hF:F.plain=Fence.wide)(f:FuncId):F.fn f:=by
 have:F.plain.fn f:=by rw[hF];trivial
 exact this
def Vf(hF:F.plain=Fence.wide):F.depth=none:=by
 have:F.plain.depth=none:=by rw[hF];rfl
 exact this
def afM(hF:F.plain=Fence.wide){f:FuncId}{args:Array Value}{w:World}{R:Ending->World->Prop}(h:Calls P f args w R):CallsIn F n P f args w R:=by
 have:CallsIn F.plain n P f args w R:=by rw[hF];exact callsIn_wide.2 h
 exact this
def ahK(hF:F.plain=Fence.wide){N:String}{args:Array Value}{w:World}{R:Value->World->Prop}(h:Rows P N args w R):RowsIn F n P N args w R:=by
 have:RowsIn F.plain n P N args w R:=by
  rw[hF];intro c cs _;obtain⟨v,w',a,b⟩:=h c cs;exact⟨v,w',a,stepsIn_wide.2 b⟩
 exact this
def sW(o:Oper):Bool:=match o.op with
 | .defer _=>false
 |_=>true
def ajL(hF:F.plain=Fence.wide){o:Oper}(p:sW o=true){a:Act}{w:World}{K:Act->World->Prop}{Q:Exit->Act->World->Prop}(h:o.wp P a w K Q):o.wpIn F n P a w K Q:=by
 refine⟨λf _=>Pj hF f,?_⟩;have q:o.semAt F.round a.eval=execOp a.eval o:=Oper.semAt_eq _ _ _ (λc u=>by unfold sW at p;rw[u]at p;cases p);rw[q];unfold Oper.wp at h;have hn:F.depth.isSome=true->1<=n:=λh=>by rw[Vf hF]at h;cases h
 generalize (execOp a.eval o).run P w=r at h⊢;cases r with
 |ok x w'=>
  cases x with
  |value v=>exact h
  |skip=>exact h
  |defer d=>exact h
  |enter f args=>exact⟨hn,afM hF h⟩
  |row row args=>exact⟨hn,ahK hF h⟩
  |_=>exact h.elim
 |halt x w'=>cases x<;>exact h
end
def O2(F:Fence)(n:Nat)(P:Program)(E:su)(nt:Nat)(c:Code)(S:St)(Q:Exit->St->Prop):Prop:=
 ∀B a w,mg E nt B S.t S.h a w->c.wpIn F n P (λe W w'=>∃B' S',mg E nt B' S'.t S'.h W w'/\Q e S') a w
section
variable {F:Fence}
def agN(h:Q .normal S):O2 F n P E nt .skip S Q:=λB a w r=>wpIn_skip ⟨B,S,r,h⟩
def ZZ{x y:Code}(h:O2 F n P E nt x S (mC (λS'=>O2 F n P E nt y S' Q) Q)):O2 F n P E nt (.seq x y) S Q:=λB a w r=>
 wpIn_seq (Dz (h B a w r) λe a w ⟨B',S',b,d⟩=>by
  cases e with
  |normal=>exact d B' a w b
  |outgrown=>exact d.elim
  |exit id=>exact⟨B',S',b,d⟩
  |goto l=>exact⟨B',S',b,d⟩
  |ret=>exact⟨B',S',b,d⟩
  |panic c=>exact⟨B',S',b,d⟩)
end
abbrev hL(l:List (Nat×Bx)):Hp:=λk=>kV k l
def amz(P:Program)(X:su->Prop)(f:FuncId)(args:List AV)(n:List (Nat×Bx))(r:AV)(x:List (Nat×Bx)):Prop:=
 ∀(E:su) (B:nE) (w:World) (vs:List Value),X E->E.df= []->uu E B (hL n) w->oe (kI E B (hL n)) w args B (hL n) vs->
  Calls P f vs.toArray w λe w'=>∃v B2,e= .returned v/\uu E B2 (hL x) w'/\qJ (kI E B2 (hL x)) w' B2 (hL x) r v
abbrev Ii(P:Program)(f:FuncId)(args:List AV)(n:List (Nat×Bx))(r:AV)(x:List (Nat×Bx)):Prop:=amz P (λ_=>True) f args n r x
theorem uu.drop{H':Hp}(m:uu E B H w)(f:∀g bx,H' g=some bx->H g=some bx/\ ∀j∈qA bx,(H' j).isSome=true)(y:∀g,H' g=none->E.eb g=none):
 uu E (⟨λg=>if(H' g).isSome then B g else none,B.fx,B.hv⟩:nE) H' w/\ ∀(x:AV) {c:List Value},(∀g∈mR x,(H' g).isSome=true)->Rd (kI E B H) w x B H c->Rd (kI E (⟨λg=>if(H' g).isSome then B g else none,B.fx,B.hv⟩:nE) H') w x (⟨λg=>if(H' g).isSome then B g else none,B.fx,B.hv⟩:nE) H' c:=by
 let B':nE:=⟨λg=>if(H' g).isSome then B g else none,B.fx,B.hv⟩
 have T:∀g,(H' g).isSome=true->H' g=H g/\B' g=B g:=by
  intro g u;refine⟨?_,by simp[B',u]⟩;cases h:H' g with
  |none=>rw[h]at u;cases u
  |some bx=>exact((f g bx h).1).symm
 have I:∀b o,kI E B' H' b o->kI E B H b o:=by
  rintro b o (h|h|⟨g,a,d⟩)
  .exact .inl h
  .exact .inr (.inl h)
  .refine .inr (.inr ⟨g,?_,?_⟩)
   .simp only[B']at a;split at a
    .exact a
    .cases a
   .cases u:H' g with
    |none=>rw[u]at d;exact d.elim
    |some bx=>rw[(f g bx u).1];rw[u]at d;exact d
 have L:∀(x:AV) {cs:List Value},(∀g∈mR x,(H' g).isSome=true)->Rd (kI E B H) w x B H cs->Rd (kI E B' H') w x B' H' cs:=λx cs q h=>
  v9 (B:=B) (B':=B') O x (λg u=>(T g (q g u))) (n6 (nK.refl _ w) (λb o _ h=>I b o h) x ⟨λ_ _ _ h=>h,λ_ h=>h,λ_ _ _ _ _ h=>h,λ_ _ _ _ _ h=>h,λ_ h=>⟨h,rfl⟩⟩ h)
 have l:∀j,nR (H' j)=true->nR (H j)=true/\B' j=B j:=by
  intro j p;cases D:H' j with
  |none=>rw[D]at p;cases p
  |some bx=>exact⟨by rw[(f j bx D).1,<-D];exact p,(T j (by rw[D];rfl)).2⟩
 refine⟨⟨λg bx u=>?_,λg u=>by simp[u],λg g' b a d r A=>?_,m.left,y,m.fx.go O (kK _) λg b a d=>.inl ⟨(l g a).1,(l g a).2▸d⟩⟩,L⟩
 .obtain⟨a,d⟩:=f g bx u;have r:=m.box g bx a;have s:=(T g j4).2;cases bx with
  |var x=>
   obtain⟨b,cs,t,i,k2,k3,v⟩:=r;exact⟨b,cs,t,s.trans i,k2,L x (λg u=>d g u) k3,v⟩
  |froz x=>
   obtain⟨b,cs,i,k2,k3,v⟩:=r;exact⟨b,cs,s.trans i,k2,λo F P R=>k3 o F P (I b o R),L x (λg u=>d g u) v⟩
  |hid=>exact s.trans r
  |ext M=>exact⟨⟨r.1.1,s.trans r.1.2⟩,r.2.go O O (λ_ _ _=>rfl) (nK.refl _ w) (λb o _ h=>I b o h)⟩
  |tail e n k=>
   obtain⟨J,X,i⟩:=r;refine⟨J,?_⟩
   show Ks E g k (B' g)/\(B' g=none/\k=0∨ ∃b cur cap,B' g=some b/\_)
   rw[s];exact⟨X,i⟩
  |own e n G=>
   obtain⟨J,X,i⟩:=r;refine⟨J,?_⟩
   show Ks E g G.length (B' g)/\(B' g=none/\G= []∨ ∃b cur cap c,B' g=some b/\_)
   rw[s];refine⟨X,i.imp id ?_⟩;rintro⟨b,cur,cap,c,N,m2,z,C,K,U,S,V⟩;exact⟨b,cur,cap,c,N,m2,z,C,K,U,nr (nK.refl _ w) (λb o _ h=>I b o h) n G (qt.nj _ _) S,V⟩
 .obtain⟨i,k2⟩:=l g a;obtain⟨k3,v⟩:=l g' d;exact m.inj g g' b i k3 (k2▸r) (v▸A)
def RCv(H:Hp)(z:List (Nat×Bx))(x y:AV):Prop:=(x=y/\(mR y).all (λg=>(kV g z).isSome)=true)∨Wk H x y
def Ur(P:Program)(S:St)(z:List (Nat×Bx)):ResultVar->AV->Prop
 | .tmp t,y=>∃x,S.t t=some x/\(∀G,x≠ .mz G)/\RCv S.h z x y
 | .cell a t,y=>∃g x,S.t a=some (.ptr g 0 [])/\S.h g=some (.var x)/\zg P t (na x) (lE x)/\RCv S.h z x y
def OR(P:Program)(S:St)(x:List (Nat×Bx)):List ResultVar->List AV->Prop
 | [],[]=>True
 |r::rs,y::J=>Ur P S x r y/\OR P S x rs J
 | [],_::_=>False
 |_::_,[]=>False
def xq(H:List (Nat×Bx))(x:List (Nat×Bx)):Prop:=agw H x x/\ajl H x=true
variable {H2:List (Nat×Bx)}
section
abbrev Bv(B:nE)(H':Hp):nE:=⟨λg=>if(H' g).isSome then B g else none,B.fx,B.hv⟩
def xq.mem{H:List (Nat×Bx)}(h:xq H H2)(m:uu E B (hL H) w):uu E (Bv B (hL H2)) (hL H2) w/\ ∀(x:AV) {c:List Value},(∀g∈mR x,(hL H2 g).isSome=true)->Rd (kI E B (hL H)) w x B (hL H) c->Rd (kI E (Bv B (hL H2)) (hL H2)) w x (Bv B (hL H2)) (hL H2) c:=by
 obtain⟨h1,b⟩:=h;refine m.drop (λg bx t=>?_) λg t=>?_
 .obtain⟨e,k2⟩:=h1.all _ (mI t);rw[mq]at k2;exact⟨e,k2⟩
 .cases D:hL H g with
  |none=>exact m.qa g D
  |some bx=>
   unfold ajl at b;rw[mq]at b;have h1:=b _ (mI D);rw[wu]at h1;rcases h1 with h1|h1
   .exact E.lo g (by simpa using h1)
   .rw[show kV g H2=none from t]at h1;cases h1
def RCv.run(i:xq S.H H2)(m:uu E B S.h w){x y:AV}(h:RCv S.h H2 x y){c:List Value}(I:Rd (kI E B S.h) w x B S.h c):Rd (kI E (Bv B (hL H2)) (hL H2)) w y (Bv B (hL H2)) (hL H2) c/\m9 x c=m9 y c:=by
 rcases h with⟨rfl,h⟩|h
 .rw[mq]at h;exact⟨(i.mem m).2 _ h I,rfl⟩
 .obtain⟨a,d⟩:=h _ _ _ _ I;refine⟨?_,d⟩;refine t4 _ (n6 (nK.refl _ w) (λb o _ hu=>?_) _ (qt.nj _ _) a);rcases hu with hu|hu|⟨g,e,k2⟩
  .exact .inl hu
  .exact .inr (.inl hu)
  .obtain⟨bx,n,j,U⟩:=sh k2;simp only[Bv,n,Option.isSome_some,oQ]at e;have:=(i.1.all _ (mI n)).1;exact xJ (H:=S.h) this j e U
def aaX(i:xq S.H H2)(r:mg E nt B S.t S.h a w){v:ResultVar}{y:AV}(h:Ur P S H2 v y):∃c,(ve a.tmps v).run P w= .ok (m9 y c) w/\Rd (kI E (Bv B (hL H2)) (hL H2)) w y (Bv B (hL H2)) (hL H2) c:=by
 cases v with
 |tmp t=>
  obtain⟨x,d,e,k⟩:=h;obtain⟨u,A,D⟩:=r.tmp t x d;rw[kJ e]at D;obtain⟨c,R,rfl⟩:=D;obtain⟨U,m⟩:=k.run i r.mem R;exact cQ
 |cell n t=>
  obtain⟨g,x,d,e,k,A⟩:=h;obtain⟨u,D,R⟩:=r.tmp n _ d;rw[kJ ki]at R;obtain⟨c,U,rfl⟩:=R;simp only[Rd]at U;obtain⟨_,b,m,rfl⟩:=U;obtain⟨b',cs,ty,f,k2,k3,_⟩:=r.box g _ e;rw[m]at f;injection f with f;subst f;have G:=nJ k3;have T:mQ w b 0 (lE x)=some cs.toArray:=by rw[mX k2];exact pC _ _ (by simpa using G)
  obtain⟨l,F⟩:=A.run i r.mem k3;exact aE
theorem NZ(g:xq S.H H2)(r:mg E nt B S.t S.h a w):∀(vs:List ResultVar) (J:List AV),OR P S H2 vs J-> ∃K:List Value,(vs.mapM (ve a.tmps)).run P w= .ok K w/\K.length=vs.length/\oe (kI E (Bv B (hL H2)) (hL H2)) w J (Bv B (hL H2)) (hL H2) K
 | [],[],_=>⟨[],rfl,rfl,by simp[oe]⟩
 |v::vs,y::J,h=>by
  obtain⟨b,d⟩:=h;obtain⟨c,e,k2⟩:=aaX g r b;obtain⟨K,k3,l,F⟩:=NZ g r vs J d;exact dp
 | [],_::_,h=>h.elim
 |_::_,[],h=>h.elim
def adI(i:fn.results.toList=rv)(g:xq S.H H2)(r:mg E nt B S.t S.h a w){J:List AV}(h:OR P S H2 rv J):∃v,(results fn a.tmps).run P w= .ok v w/\qJ (kI E (Bv B (hL H2)) (hL H2)) w (Bv B (hL H2)) (hL H2) (Ai J) v:=by
 subst i;obtain⟨K,e,k2,k3⟩:=NZ g r _ _ h;have T:=FL _ _ _ _ _ e;rw[zd]at T;rw[vm,Sem.run_bind,T];obtain⟨M,m2⟩:=yS k3;by_cases b:K.length=1
 .obtain⟨u,rfl⟩:=CJ.1 b;obtain⟨y,rfl⟩:=CJ.1 (M.trans b);exact cN
 .refine⟨.tuple K.toArray,by simp[b],?_⟩;exact cy
end
variable {H1:List (Nat×Bx)}
def LK{vs:List Value}(V:E.df= [])(m:uu E B (hL H1) w)(d:oe (kI E B (hL H1)) w args B (hL H1) vs)(C:args.length<=nt):
 mg E nt B (St.t ⟨rY 0 args,H1⟩) (St.h ⟨rY 0 args,H1⟩) {tmps:=vs.toArray++Array.replicate (nt- vs.toArray.size) undef,defers:= []} w:=by
 obtain⟨g,t⟩:=yS d;refine m.rel jY V.symm λs x o=>?_;have y:kV s (rY 0 args)=some x:=o;rw[CD]at y;simp only[kO,oQ,Nat.sub_zero]at y;obtain⟨v,a,c',b,k⟩:=t s x y;have z:s<vs.length:=(mS.1 a).1;refine⟨v,?_,?_⟩
 .rw[AI (by simpa using z)];simpa using a
 .rw[kJ (oV b)];exact⟨c',b,k⟩
def nh{X:su->Prop}{c:Code}(z:P.funcs[f]?=some fn)(d:fn.body=some c)(N:fn.ntmps=nt)(o:fn.results=rv.toArray)(C:args.length<=nt)(J:List AV)(F:Ai J=r)
 (h:∀E,X E->AW P E nt c ⟨rY 0 args,H1⟩ (λe S'=>(e= .normal∨e= .ret)/\xq S'.H H2/\OR P S' H2 rv J)):amz P X f args H1 r H2:=by
 have K:fn.results.toList=rv:=by rw[o]
 subst N;intro E B w vs j V m l;subst F;refine calls_of_wp z d (vz (h E j B _ w (LK V m l C)) ?_);rintro e W w' ⟨B',S',k,L,i,A⟩;obtain⟨v,g,k2⟩:=adI K i k A;have n:W.defers= []:=k.df.trans V;rcases L with rfl|rfl
 .exact⟨n,v,g,v,_,rfl,(i.mem k.mem).1,k2⟩
 .exact⟨n,v,g,v,_,rfl,(i.mem k.mem).1,k2⟩
def pA(σ:Nat->Nat)(H:Hp)(n:List (Nat×Bx)):List (Nat×Bx)->Prop
 | []=>True
 |(c,bx)::l=>H (σ c)=some (ur σ bx)/\(wN bx&&(qA bx).all (λg=>(kV g n).isSome)&&Nat.ble 1000 c)=true/\pA σ H n l
def P6:Bx->Bx->Bool
 | .var _,.var _=>true
 | .tail e n _,.tail e' R _=>Nat.beq e' e&&Nat.beq R n
 | .own e n _,.own e' R _=>Nat.beq e' e&&Nat.beq R n
 |_,_=>false
def abu{x y:Bx}(h:P6 x y=true):ae7 x y:=by
 cases x<;>cases y<;>simp only[P6,l5,tu]at h<;>first|trivial|exact⟨mi h.1,mi h.2⟩
def YD(n:Nat):List Nat->Bool
 | []=>true
 |m::l=> !Nat.beq m n&&YD n l
def uH:List Nat->Bool
 | []=>true
 |n::l=>YD n l&&uH l
def pS(σ:Nat->Nat)(H:Hp)(n:List (Nat×Bx)):List (Nat×Bx)->Prop
 | []=>True
 |(c,bx)::l=>(match kV c n with|some z=>P6 z bx=true|none=>H (σ c)=none)/\pS σ H n l
def Jj(σ:Nat->Nat)(n x:List (Nat×Bx)):Bool:=
 (x.all λp=>wN p.2&&(qA p.2).all (λg=>(kV g x).isSome))&&(n.all λp=>(kV p.1 x).isSome)&&uH (x.map λp=>σ p.1)
theorem S8{n:Nat}:∀{l:List Nat},YD n l=true->n∉l
 | [],_=>e1
 |m::l,h=>by
  simp only[YD,l5,Qy]at h;intro hm;rcases mf.1 hm with rfl|hm
  .simp at h
  .exact S8 h.2 hm
theorem Aq{σ:Nat->Nat}:∀{l:List (Nat×Bx)},uH (l.map λp=>σ p.1)=true-> ∀p∈l,∀q∈l,σ p.1=σ q.1->p=q
 | [],_,p,h,_,_,_=>fk
 |x::l,h,p,X,q,c,e=>by
  simp only[nc,uH,l5]at h;have hn:=S8 h.1;rcases mf.1 X with rfl|hp'
  .rcases mf.1 c with rfl|hq'
   .rfl
   .exact absurd (sM.2 ⟨q,hq',e.symm⟩) hn
  .rcases mf.1 c with rfl|hq'
   .exact absurd (sM.2 ⟨p,hp',e⟩) hn
   .exact Aq h.2 p hp' q hq' e
theorem pA.all:∀{l:List (Nat×Bx)},pA σ H H1 l-> ∀p∈l,H (σ p.1)=some (ur σ p.2)/\wN p.2=true/\(∀g∈qA p.2,(kV g H1).isSome=true)/\1000<=p.1
 | [],_,p,h=>fk
 |(c,bx)::l,⟨a,b,k⟩,p,h=>by
  rcases mf.1 h with rfl|h
  .simp only[l5,mq]at b;exact⟨a,b.1.1,b.1.2,A8 b.2⟩
  .exact k.all p h
theorem pS.all:∀{l:List (Nat×Bx)},pS σ H H1 l-> ∀p∈l,(match kV p.1 H1 with|some z=>P6 z p.2=true|none=>H (σ p.1)=none)
 | [],_,p,h=>fk
 |(c,bx)::l,⟨a,b⟩,p,h=>by
  rcases mf.1 h with rfl|h
  .exact a
  .exact b.all p h
def Cg(σ:Nat->Nat)(x:List (Nat×Bx)):List (Nat×Bx):=x.map λp=>(σ p.1,ur σ p.2)
def PB(σ:Nat->Nat)(x:List (Nat×Bx))(B y:nE):nE:=⟨λj=>match x.find? (λp=>Nat.beq (σ p.1) j)with|some p=>y p.1|none=>B j,B.fx,B.hv⟩
theorem KP{σ:Nat->Nat}{H:Hp}:∀{l:List (Nat×Bx)} (j:Nat),nA H (Cg σ l) j=match l.find? (λp=>Nat.beq (σ p.1) j)with|some p=>some (ur σ p.2)|none=>H j
 | [],j=>rfl
 |p::l,j=>by
  simp only[Cg,nc,nA,l9,List.find?_cons];by_cases h:j=σ p.1
  .subst h;simp
  .have hb:Nat.beq (σ p.1) j=false:=by
    cases hb:Nat.beq (σ p.1) j
    .rfl
    .exact absurd (mi hb).symm h
   rw[ku h,hb];exact KP j
section
def Tb(h:pA σ H H1 H1)(hi:uH (H1.map λp=>σ p.1)=true):MH σ H (hL H1):=by
 refine⟨λc bx u=>?_,λc c' a b e=>?_,λc u=>?_⟩
 .obtain⟨f,k2,k3,_⟩:=h.all _ (mI u);exact⟨f,k2,k3⟩
 .cases P:hL H1 c with
  |none=>rw[P]at a;cases a
  |some z=>
   cases d:hL H1 c' with
   |none=>rw[d]at b;cases b
   |some Z=>exact py Prod.fst (Aq hi _ (mI P) _ (mI d) e)
 .cases P:hL H1 c with
  |none=>rfl
  |some z=>have:=(h.all _ (mI P)).2.2.2;simp only at this;omega
def OA(U:Jj σ H1 H2=true)(j:Nat):(∃c bx,kV c H2=some bx/\σ c=j/\H2.find? (λp=>Nat.beq (σ p.1) j)=some (c,bx))∨((∀c,(kV c H2).isSome=true->σ c≠j)/\H2.find? (λp=>Nat.beq (σ p.1) j)=none):=by
 simp only[Jj,l5]at U;cases z:H2.find? (λp=>Nat.beq (σ p.1) j)with
 |none=>
  refine .inr ⟨λc u e=>?_,rfl⟩;cases P:kV c H2 with
  |none=>rw[P]at u;cases u
  |some A=>
   have:=QR.1 z _ (mI P);simp[e]at this
 |some p=>
  have T:=DB z;have X:=GG z;have i:σ p.1=j:=mi X;refine .inl ⟨p.1,p.2,?_,i,rfl⟩;cases P:kV p.1 H2 with
  |none=>
   exfalso
   have:∀{l:List (Nat×Bx)} {p:Nat×Bx},p∈l->kV p.1 l≠none:=by
    intro l
    induction l with
    |nil=>intro p h;cases h
    |cons q l y=>
     intro p h;obtain⟨m,k⟩:=q;simp only[kV];cases hb:Nat.beq m p.1
     .rcases mf.1 h with rfl|h
      .simp at hb
      .simpa using y h
     .simp
   exact this T P
  |some A=>
   have:=Aq U.2 _ (mI P) _ T O;rw[<-this]
def ahX(C:pA σ H H1 H1)(z:pS σ H H1 H2)(U:Jj σ H1 H2=true)(hi:uH (H1.map λp=>σ p.1)=true):amu σ H (hL H1) (hL H2) (nA H (Cg σ H2)) B B2 (PB σ H2 B B2):=by
 have n:=U;simp only[Jj,l5,mq]at n;obtain⟨⟨o1,o2⟩,Y⟩:=n;have fr:=z.all
 have J:∀c c',(hL H2 c).isSome=true->(hL H2 c').isSome=true->σ c=σ c'->c=c':=λc c' a b e=>by
  cases P:hL H2 c with
  |none=>rw[P]at a;cases a
  |some A=>
   cases d:hL H2 c' with
   |none=>rw[d]at b;cases b
   |some Z=>exact py Prod.fst (Aq Y _ (mI P) _ (mI d) e)
 refine⟨Tb C hi,λc bx a=>?_,λc a b=>?_,J,λc bx a=>?_,λj i=>?_,rfl,rfl⟩
 .have b:=o2 _ (mI a);cases d:kV c H2 with
  |none=>simp[d]at b
  |some Z=>
   have k:=fr _ (mI d);have w:kV c H1=some bx:=a;simp only[w]at k;exact⟨Z,d,abu k⟩
 .cases d:hL H2 c with
  |none=>rw[d]at a;cases a
  |some Z=>
   have k:=fr _ (mI d);have E:kV c H1=none:=b;simp only[E]at k;exact k
 .rw[KP];rcases OA U (σ c)with⟨c',I,f,k2,k3⟩|⟨f,_⟩
  .have:=J c' c iC (by rw[a];rfl) k2;subst this;have w:kV c' H2=some bx:=a;rw[w]at f;injection f with f;subst f
   have:=o1 _ (mI a);simp only at this;refine⟨by rw[k3],by simp only[PB,k3],this.1,λg t=>this.2 g t⟩
  .exact absurd O (f c (by have w:kV c H2=some bx:=a;rw[w];rfl))
 .rw[KP];rcases OA U j with⟨c',I,f,k2,k3⟩|⟨f,k2⟩
  .exact absurd k2 (i c' iC)
  .exact⟨by rw[k2],by simp only[PB,k2]⟩
end
def WkG(σ:Nat->Nat)(n:List (Nat×Bx))(x y:AV):Prop:=(x=tg σ y/\(mR y).all (λg=>(kV g n).isSome)=true)∨(mO y=true/\ ∀H,Wk H x y)
inductive Jf (σ:Nat->Nat) (H1:List (Nat×Bx)):List AV->List AV->Prop
 |nil:Jf σ H1 [] []
 |cons {x y:AV} {G J:List AV} (h:WkG σ H1 x y) (t:Jf σ H1 G J):Jf σ H1 (x::G) (y::J)
mutual
theorem zw(σ:Nat->Nat):∀(x:AV),mO x=true->tg σ x=x/\mR x= []
 | .v x,_=>⟨O,rfl⟩
 | .agg n fs,h=>by obtain⟨h1,h2⟩:=zu σ fs jn;simp[tg,mR,h1,h2]
 | .arr m n G,_=>⟨O,rfl⟩
 | .ptr _ _ _,h=>fN
 | .ref x,_=>⟨O,rfl⟩
 | .sl none n G,_=>⟨O,rfl⟩
 | .sl (some t) n G,h=>fN
 | .seg _ _ _ _ _ _,h=>fN
 | .mz vs,h=>by obtain⟨h1,h2⟩:=zu σ vs jn;simp[tg,mR,h1,h2]
 | .fn f a b,h=>by
  simp only[mO,l5]at h;obtain⟨h1,h2⟩:=zu σ a h.1;obtain⟨h3,h4⟩:=zu σ b h.2;simp[tg,mR,h1,h2,h3,h4]
 | .ifc t x,h=>by obtain⟨h1,h2⟩:=zw σ x jn;simp[tg,mR,h1,h2]
 | .own _ _ _ _,h=>fN
 | .raw _ _ _,_=>⟨O,rfl⟩
 | .hv _,h=>fN
theorem zu(σ:Nat->Nat):∀(G:List AV),sL G=true->Ca σ G=G/\ow G= []
 | [],_=>⟨O,rfl⟩
 |x::G,h=>by
  simp only[sL,l5]at h;obtain⟨h1,h2⟩:=zw σ x h.1;obtain⟨h3,h4⟩:=zu σ G h.2;simp[Ca,ow,h1,h2,h3,h4]
end
def Jf.Yi(h:Jf σ H1 G J){vs:List Value}(I:oe U w G B H vs):oe U w (Ca σ J) B H vs/\ ∀g∈ow J,(hL H1 g).isSome=true:=by
 induction h generalizing vs with
 |nil=>exact⟨by simpa[oe,Ca]using I,by simp[ow]⟩
 |cons j _ y=>
  simp only[oe]at I;obtain⟨c,V,e,f,k2⟩:=I;obtain⟨u,E⟩:=y k2;simp only[Ca,ow,oe,rJ];rcases j with⟨rfl,b⟩|⟨a,b⟩
  .rw[mq]at b;exact⟨⟨c,V,e,f,u⟩,λg t=>t.elim (b g) (E g)⟩
  .obtain⟨m,k⟩:=zw σ _ a;obtain⟨k3,l⟩:=b H _ _ _ _ f;rw[m,k];exact⟨⟨c,V,by rw[e,l],t4 _ k3,u⟩,λg t=>t.elim (λh=>by cases h) (E g)⟩
section
def EH{y:AV}{vs:List Value}{X:su->Prop}(m:uu E B H w)(u:amz P X f J H1 y H2)(i:∀lo,X (xL E B H w σ (hL H1) lo))(z:oe (kI E B H) w (Ca σ J) B H vs)(R:∀g∈ow J,(hL H1 g).isSome=true)
 (C:pA σ H H1 H1) (A:pS σ H H1 H2) (U:Jj σ H1 H2=true) (hi:uH (H1.map λp=>σ p.1)=true) (F:(mR y).all (λg=>(kV g H2).isSome)=true):
 Calls P f vs.toArray w λe w'=>∃v B',e= .returned v/\uu E B' (nA H (Cg σ H2)) w'/\qJ (kI E B' (nA H (Cg σ H2))) w' B' (nA H (Cg σ H2)) (tg σ y) v/\
  ∀x v,qJ (kI E B H) w B H x v->qJ (kI E B' (nA H (Cg σ H2))) w' B' (nA H (Cg σ H2)) x v:=by
 have l:=Tb C hi
 have a:oe (kI (xL E B H w σ (hL H1) l.lo) (Sa σ B (hL H1)) (hL H1)) w J (Sa σ B (hL H1)) (hL H1) vs:=by
  rw[R9 m l];exact(G2 J (λg t=>Oi l (R g t))).1 z
 refine rM (u _ _ w vs (i _) O (m.enter l) a) ?_;rintro e w' ⟨v,B2,rfl,b,k⟩;have o:amu σ H (hL H1) (hL H2) (nA H (Cg σ H2)) B B2 (PB σ H2 B B2):=ahX C A U hi;rw[mq]at F;exact⟨v,_,rfl,uu.leave m o b,adZ m o b F k,λx v j=>ad0 m o b j⟩
def aef{l:List Operand}{y:AV}(σ:Nat→Nat)(A:Ii P f J H1 y H2)(q:lK nt d=true)(C:P.funcs[f]?=some fn)(j:fn.body.isSome=true)(hnm:(fn.name== "runtime.NumGoroutine")=false)
 (hxf:kv T x=some (.fn (.func f) [] caps)) (n:l.map (kv T)=G.map some) (N:G.all lS=true) (V:Jf σ H1 (G++caps) J)
 (F:pA σ H H1 H1) (hfr:pS σ H H1 H2) (U:Jj σ H1 H2=true) (hi:uH (H1.map λp=>σ p.1)=true) (I:(mR y).all (λg=>(kV g H2).isSome)=true):
 kE P E nt ops ⟨d,.call {callee:=.value x,args:=l.toArray,argTypes:=ats},ty,pos,af,gd⟩ T H ((H1.map λp=>σ p.1)) ⟨tg σ y,Cg σ H2⟩:=by
 intro T' H' u hrh hwr B a w r K Q hK;have hag:∀p∈H1,H' (σ p.1)=H (σ p.1):=λp X=>hrh _ (sM.2 ⟨p,X,rfl⟩)
 have hn':pA σ H' H1 H1:=by exact aU
 have hfr':pS σ H' H1 H2:=by exact aA
 have hxs:=rP r l G (rn n (λy I=>mv u ir)) (λz S=>l6 (mq.1 N z S));have hfv:=ml ki (r.eval ((mv u (x:=x) iV).trans hxf)) O;simp only[Rd]at hfv;obtain⟨c1,c2,R,M,e3⟩:=hfv;simp only[oe]at M;subst M;injection R with R;obtain⟨k,k2⟩:=V.Yi (ud hxs e3);have i:=EH r.mem A (λ_=>trivial) k k2 hn' hfr' U hi I;unfold Oper.wp
 have L:(execOp a.eval ⟨d,.call {callee:=.value x,args:=l.toArray,argTypes:=ats},ty,pos,af,gd⟩).run P w= .ok (.enter f (l.map a.eval++c2).toArray) w:=by
  have hb':fn.body≠none:=fu;have hn':fn.name≠ "runtime.NumGoroutine" :=fO;have ha:(l.map a.eval++c2).toArray=(l.toArray.map a.eval)++c2.toArray:=fv;rw[ha];simp[execOp,resolve,Deferred.ofValue,R,invoke,callFunc,C,hn',hb']
 exact bY
end
def sg(l:List (Nat×Nat)):Nat->Nat:=λc=>match kV c l with|some d=>d|none=>c
variable {wr:List (Nat×Bx)}
section
variable {l:List Oper}{T:List (Nat×AV)}{H:List (Nat×Bx)}{d:Nat}
def Wc{v:AV}(F:kE P E nt ops ⟨some d,op,ty,pos,af,gd⟩ (St.t ⟨T,H⟩) (St.h ⟨T,H⟩) rh ⟨v,wr⟩)(e:kN ops ⟨some d,op,ty,pos,af,gd⟩ (St.t ⟨T,H⟩)=some true)
 (h:lM P E nt ops l ⟨(d,v)::T,wr++H⟩ (rs++[⟨rh,wr.map (·.1)⟩]) K):lM P E nt ops (⟨some d,op,ty,pos,af,gd⟩::l) ⟨T,H⟩ rs K:=⟨⟨T,H⟩,⟨O,rfl⟩,.inl ⟨e,rh,_,F,h⟩⟩
def Uy(f:FuncId)(args:List AV)(n:List (Nat×Bx))(r:AV)(x:List (Nat×Bx)):Prop:=∃fn,Tryz.prog.funcs[f]?=some fn∧fn.body.isSome=true∧(fn.name== "runtime.NumGoroutine")=false∧Ii Tryz.prog f args n r x
def nD(z:Tryz.prog.funcs[f]?=some fn)(u:Ii Tryz.prog f args H1 r H2)(c:fn.body.isSome=true:=by decide+kernel)(B:(fn.name== "runtime.NumGoroutine")=false:=by decide+kernel):Uy f args H1 r H2:=⟨fn,z,c,B,u⟩
end
section
def n7{l:List Operand}{y:AV}(s:List (Nat×Nat))(u:Uy f J H1 y H2)(n:lK nt d=true)
 (q:kv T x=some (.fn (.func f) [] caps)) (j:td T l=some G) (N:G.all lS=true) (e:Jf (sg s) H1 (G++caps) J)
 (B:pA (sg s) H H1 H1) (m:pS (sg s) H H1 H2) (U:Jj (sg s) H1 H2=true) (hi:uH (H1.map λp=>sg s p.1)=true) (F:(mR y).all (λg=>(kV g H2).isSome)=true):
 kE prog E nt ops ⟨d,.call {callee:=.value x,args:=l.toArray,argTypes:=ats},ty,pos,af,gd⟩ T H ((H1.map λp=>sg s p.1)) ⟨tg (sg s) y,Cg (sg s) H2⟩:=by
 obtain⟨fn,a,b,k,A⟩:=u;exact aef (sg s) A n a b k q (o6 j) N e B m U hi F
end
def kY.put(X:kY)(l:nz)(xb:XB):kY:=λj=>if j=l then some xb else X j
def kC(X:kY)(l:nz)(xb:XB):X.put l xb l=some xb:=by simp[kY.put]
def ky(X:kY){l j:nz}(xb:XB)(h:j≠l):X.put l xb j=X j:=by simp[kY.put,h]
def w8(X:kY)(l:nz)(xb xb':XB):(X.put l xb).put l xb'=X.put l xb':=by
 funext j;simp only[kY.put];split<;>rfl
variable {X:kY}{l:nz}{xb:XB}
def ahQ(h:X l=some xb):X.put l xb=X:=by
 funext j;simp only[kY.put];split
 .rename_i e;rw[e,h]
 .rfl
def Sg(X:kY):kY->(Nat->Value)->Prop:=λC _=>C=X
def Ap:Bx->Bool
 | .ext _=>false
 |_=>true
section
variable {H':Hp}
theorem mg.Lo(r:mg E nt B T H a w)(q:nK (kI E B H) w w')(p:∀b o,b<w.heap.size->kI E B' H' b o->kI E B H b o)(U:qt w w' B B' H H')(left:Ih E w')
 (A:∀g bx,H' g=some bx->Ie E B' H' w' g bx∨(Ap bx=true/\H g=some bx/\B' g=B g/\ ∀b,nR (some bx)=true->B g=some b->w'.heap[b]?=w.heap[b]?))
 (z:∀g,H' g=none->H g=none/\B' g=none) (J:∀g g' b,nR (H' g)=true->nR (H' g')=true->B' g=some b->B' g'=some b->g=g') (R:Fx E B' H' w'):mg E nt B' T H' a w':=⟨r.nt,r.df,λs x h=>by
 obtain⟨v,d,f⟩:=r.tmp s x h;exact⟨v,d,vE q p U f⟩,λg bx h=>by
 rcases A g bx h with d|⟨j,d,f,l⟩
 .exact d
 .have hb:=r.box g bx d;cases bx with
  |var x=>
   obtain⟨b,cs,t,i,k2,k3,m⟩:=hb;exact⟨b,cs,t,f.trans i,(l b O i).trans k2,n6 q p x U k3,m⟩
  |froz x=>
   obtain⟨b,cs,i,k2,k3,m⟩:=hb;exact⟨b,cs,f.trans i,q.row k2 k3,zz p k2 k3,n6 q p x U m⟩
  |hid=>exact f.trans hb
  |ext M=>cases j
  |tail e n k=>
   obtain⟨j,C,hb⟩:=hb;refine⟨j,f▸C,?_⟩;rcases hb with⟨i,k2⟩|⟨b,cur,cap,i,k2,k3⟩
   .exact .inl ⟨f.trans i,k2⟩
   .exact .inr ⟨b,cur,cap,f.trans i,(l b O i).trans k2,k3⟩
  |own e n G=>
   obtain⟨j,C,hb⟩:=hb;refine⟨j,f▸C,?_⟩;rcases hb with⟨i,k2⟩|⟨b,cur,cap,c,i,k2,k3,m,F,y,u,V⟩
   .exact .inl ⟨f.trans i,k2⟩
   .exact .inr ⟨b,cur,cap,c,f.trans i,(l b O i).trans k2,k3,m,F,y,nr q p n G (qt.nj _ _) u,V⟩,λg h=>(z g h).2,J,left,λg h=>r.qa g (z g h).1,R⟩
def mg.nB(r:mg E nt B T H a w){g:Nat}{M:kY->(Nat->Value)->Prop}(t:H g=some (.ext M)):g=4999/\B g=none/\OX (kI E B H) w B M:=by
 have:=r.box g _ t;exact⟨this.1.1,this.1.2,this.2⟩
def ac9{M M':kY->(Nat->Value)->Prop}(t:H 4999=some (.ext M)):kI E B (l9 H 4999 (.ext M'))=kI E B H:=by
 funext b o;unfold kI;refine propext (uQ rq (uQ rq (qO λj=>rK λ_=>?_)));by_cases h:j=4999
 .subst h;rw[kB,t]
 .rw[kF _ _ h]
def Jx:Obj->Bool
 | .cells _ _ _=>false
 |_=>true
def Uq(w w':World)(b:Nat):Prop:=(∃cs c ty fr,w.heap[b]?=some (.cells cs ty fr)/\w'.heap[b]?=some (.cells c ty fr)/\c.size=cs.size)∨(∃o o',w.heap[b]?=some o/\Jx o=true/\w'.heap[b]?=some o')
def afv(t:uX w w' b)(k:Uq w w' b)(p:∀o,U b o):nK U w w':=by
 refine⟨yd t.size.symm,λj c ty f i=>?_⟩;by_cases z:j=b
 .subst z;rcases k with⟨cs,e,q,fr,a,d,l⟩|⟨o,o',a,d,_⟩
  .rw[a]at i;injection i with i;injection i with n m V;subst n m V;exact⟨e,d,l,λo h=>absurd (p o) h⟩
  .rw[a]at i;injection i with i;subst i;cases d
 .exact⟨c,(t.other j z).trans i,rfl,λ_ _=>rfl⟩
def mg.U2(r:mg E nt B T H a w){X:kY}{l:nz}{xb xb':XB}{b:Nat}(x:H 4999=some (.ext (Sg X)))(F:X l=some xb)(g:xb.at=some b)(G:xb'.at=some b)(v:uX w w' b)(z:Uq w w' b)
 (s:nK (kI E B H) w w'->yp (kI E B H) w' xb'):mg E nt B T (l9 H 4999 (.ext (Sg (X.put l xb')))) a w':=by
 obtain⟨_,K,I,rfl,C,y⟩:=r.nB x;have hfx:B.fx l=some b:=by rw[<-C l,F];exact g
 have hbu:∀o,kI E B H b o:=λo=>.inr (.inl ⟨l,hfx⟩);have N:nK (kI E B H) w w':=afv v z hbu;have Y:=ac9 (E:=E) (B:=B) (M':=Sg (I.put l xb')) x;have Z:∀j b',nR (H j)=true->B j=some b'->b'≠b:=λj b' d f e=>r.fx.out l b j hfx d (e▸f)
 have V:∀{j:Nat} {bx:Bx},H j=some bx->Ap bx=true->j≠4999:=λd f e=>by
  rw[e,x]at d;injection d with d;subst d;cases f
 have U:qt w w' B B H (l9 H 4999 (.ext (Sg (I.put l xb')))):=by
  refine⟨λ_ _ _ h=>h,λj h=>?_,λt n len A cap h=>?_,sC N λg' e' R J h=>?_,λj h=>?_⟩
  .have p:j≠4999:=λe=>by rw[e,x]at h;cases h
   rw[kF _ _ p];exact h
  .obtain⟨e,k,d,f,u⟩:=h;refine⟨e,k,by rw[kF _ _ (V d O)];exact d,f,λz=>⟨(u z).1,λb' G=>?_⟩⟩;obtain⟨i,cur,k2,k3⟩:=(u z).2 b' G;exact⟨i,cur,(v.other b' (Z t b' (by rw[d];rfl) G)).trans k2,k3⟩
  .exact⟨(kF _ _ (V h O)).trans h,rfl⟩
  .exact⟨(kF _ _ (V h O)).trans h,rfl⟩
 have left:Ih E w':=by
  have W:=r.left;refine⟨v.os.trans W.os,v.tape.trans W.tape,v.output.trans W.output,by rw[v.size];exact W.size,λk z L hxk=>?_,?_⟩
  .have hkb:k≠b:=λe=>by
    subst e;rcases r.fx.mine l _ hfx with q|q
    .omega
    .exact hxk q.1
   exact(v.other k hkb).trans (W.block k z L hxk)
  .rcases r.fx.mine l _ hfx with q|q
   .refine⟨by rw[v.size];exact W.size,λk c ty fr y=>?_⟩;obtain⟨c1,d,f,u⟩:=W.evo.cell k c ty fr y;exact⟨c1,(v.other k (λe=>by have:=qY y;omega)).trans d,f,u⟩
   .exact W.evo.trans (afv v z q.2)
 have S:∀j,nR (l9 H 4999 (.ext (Sg (I.put l xb'))) j)=true->nR (H j)=true:=λj h=>by
  by_cases p:j=4999
  .subst p;rw[kB]at h;cases h
  .rwa[kF _ _ p]at h
 refine r.Lo N (λb' o _ h=>by rw[Y]at h;exact h) U left (λj bx h=>?_) (λj h=>?_) (λj M b' d f u D=>r.inj j M b' (S j d) (S M f) u D) (r.fx.go O (by rw[v.size];exact kK _) λj b' d f=>.inl ⟨S j d,f⟩)
 .by_cases p:j=4999
  .subst p;rw[kB]at h;injection h with h;subst h
   refine .inl ⟨⟨O,K⟩,I.put l xb',rfl,λj=>?_,λj yb p=>?_⟩
   .by_cases P:j=l
    .subst P;rw[kC];exact G.trans hfx.symm
    .rw[ky _ _ P];exact C j
   .rw[Y];by_cases P:j=l
    .subst P;rw[kC]at p;injection p with p;subst p;exact s N
    .rw[ky _ _ P]at p;refine(y j yb p).go (λb' G=>v.other b' λe=>P (r.fx.inj j l b ?_ hfx)) N (λ_ _ _ h=>h);rw[<-C j,p,<-e];exact G
  .rw[kF _ _ p]at h;refine .inr ⟨?_,h,rfl,λb' m G=>v.other b' (Z j b' (by rw[h];exact m) G)⟩;cases bx<;>first|rfl|exact absurd (r.nB h).1 p
 .by_cases p:j=4999
  .subst p;rw[kB]at h;cases h
  .rw[kF _ _ p]at h;exact⟨h,r.x3 j h⟩
def mg.DS(r:mg E nt B T H a w){M':kY->(Nat->Value)->Prop}{M:kY->(Nat->Value)->Prop}(u:H 4999=some (.ext M))(h:OX (kI E B H) w B M'):mg E nt B T (l9 H 4999 (.ext M')) a w:=by
 obtain⟨_,K,_⟩:=r.nB u;have f:=ac9 (E:=E) (B:=B) (M':=M') u
 have y:∀{j:Nat} {bx:Bx},H j=some bx->Ap bx=true->j≠4999:=λb c e=>by
  rw[e,u]at b;injection b with b;subst b;cases c
 have U:qt w w B B H (l9 H 4999 (.ext M')):=by
  refine⟨λ_ _ _ h=>h,λj h=>?_,λt n len A cap h=>?_,sC (nK.refl (λ_ _=>False) w) λg' e' R J h=>?_,λj h=>?_⟩
  .have i:j≠4999:=λe=>by rw[e,u]at h;cases h
   rw[kF _ _ i];exact h
  .obtain⟨e,k,b,c⟩:=h;exact⟨e,k,by rw[kF _ _ (y b O)];exact b,c⟩
  .exact⟨(kF _ _ (y h O)).trans h,rfl⟩
  .exact⟨(kF _ _ (y h O)).trans h,rfl⟩
 have v:∀j,nR (l9 H 4999 (.ext M') j)=true->nR (H j)=true:=λj h=>by
  by_cases i:j=4999
  .subst i;rw[kB]at h;cases h
  .rwa[kF _ _ i]at h
 refine r.Lo (nK.refl _ w) (λb' o _ h=>by rw[f]at h;exact h) U r.left (λj bx h=>?_) (λj h=>?_) (λj m b' b c l C=>r.inj j m b' (v j b) (v m c) l C) (r.fx.go O (kK _) λj b' b c=>.inl ⟨v j b,c⟩)
 .by_cases i:j=4999
  .subst i;rw[kB]at h;injection h with h;subst h
   refine .inl ⟨⟨O,K⟩,?_⟩;rw[f];assumption
  .rw[kF _ _ i]at h;exact dB
 .by_cases i:j=4999
  .subst i;rw[kB]at h;cases h
  .rw[kF _ _ i]at h;exact⟨h,r.x3 j h⟩
end
def nE.Rs(B:nE)(l:nz)(b:Nat):nE:=⟨B.oj,λj=>if j=l then some b else B.fx j,B.hv⟩
section
variable {H':Hp}
theorem mg.U3(r:mg E nt B T H a w){X:kY}{l:nz}{xb':XB}(u:H 4999=some (.ext (Sg X)))(s:xb'.at=some w.heap.size)(e:pr w w')(Z:w.heap.size<w'.heap.size)
 (p:∀U:u0,(∀b o,b<w.heap.size->U b o->kI E B H b o)->yp U w' xb'):mg E nt (B.Rs l w.heap.size) T (l9 H 4999 (.ext (Sg (X.put l xb')))) a w':=by
 obtain⟨_,K,y,rfl,z,v⟩:=r.nB u
 have M:∀{j:Nat} {bx:Bx},H j=some bx->Ap bx=true->j≠4999:=λc d e=>by
  rw[e,u]at c;injection c with c;subst c;cases d
 have N:∀b o,b<w.heap.size->kI E (B.Rs l w.heap.size) (l9 H 4999 (.ext (Sg (y.put l xb')))) b o->kI E B H b o:=by
  rintro b o Z (h|⟨j,h⟩|⟨j,c,d⟩)
  .exact .inl h
  .simp only[nE.Rs]at h;split at h
   .injection h with h;omega
   .exact .inr (.inl ⟨j,h⟩)
  .refine .inr (.inr ⟨j,c,?_⟩);by_cases m:j=4999
   .subst m;rw[kB]at d;exact d.elim
   .rwa[kF _ _ m]at d
 have I:∀j,nR (l9 H 4999 (.ext (Sg (y.put l xb'))) j)=true->nR (H j)=true:=λj h=>by
  by_cases m:j=4999
  .subst m;rw[kB]at h;cases h
  .rwa[kF _ _ m]at h
 have V:qt w w' B (B.Rs l w.heap.size) H (l9 H 4999 (.ext (Sg (y.put l xb')))):=by
  refine⟨λ_ _ _ h=>h,λj h=>?_,λt n len A cap h=>?_,sC (nK.oD (U:=λ_ _=>False) e) λg' e' R J h=>?_,λj h=>?_⟩
  .have m:j≠4999:=λe=>by rw[e,u]at h;cases h
   rw[kF _ _ m];exact h
  .obtain⟨ty,k,c,d,q⟩:=h;refine⟨ty,k,by rw[kF _ _ (M c O)];exact c,d,λx=>⟨(q x).1,λb' s=>?_⟩⟩;obtain⟨f,cur,k2,k3⟩:=(q x).2 b' s;exact⟨f,cur,e.heap k2,k3⟩
  .exact⟨(kF _ _ (M h O)).trans h,rfl⟩
  .exact⟨(kF _ _ (M h O)).trans h,rfl⟩
 have S:Fx E (B.Rs l w.heap.size) (l9 H 4999 (.ext (Sg (y.put l xb')))) w':=by
  refine⟨λj b h=>?_,λj b h=>?_,λj G b h F=>?_,λj b g h c d=>?_⟩
  .simp only[nE.Rs]at h;split at h
   .injection h with h;subst h;exact .inl r.left.size
   .exact r.fx.mine j b h
  .simp only[nE.Rs]at h;split at h
   .injection h with h;omega
   .have:=r.fx.lt j b h;omega
  .simp only[nE.Rs]at h F;split at h<;>split at F
   .rename_i f k2;rw[f,k2]
   .injection h with h;have:=r.fx.lt _ _ F;omega
   .injection F with F;have:=r.fx.lt _ _ h;omega
   .exact r.fx.inj j G b h F
  .simp only[nE.Rs]at h;have q:=I g c;split at h
   .injection h with h;cases D:H g with
    |none=>rw[D]at q;cases q
    |some bx=>have:=r.qp D d;omega
   .exact r.fx.out j b g h q d
 refine r.Lo (nK.oD e) N V (r.left.ext e) (λj bx h=>?_) (λj h=>?_) (λj G b' c d q C=>r.inj j G b' (I j c) (I G d) q C) S
 .by_cases m:j=4999
  .subst m;rw[kB]at h;injection h with h;subst h
   refine .inl ⟨⟨O,K⟩,y.put l xb',rfl,λj=>?_,λj P m=>?_⟩
   .simp only[nE.Rs];by_cases L:j=l
    .subst L;rw[kC,kx O];exact s
    .rw[ky _ _ L,ku L];exact z j
   .by_cases L:j=l
    .subst L;rw[kC]at m;injection m with m;subst m;exact p _ N
    .rw[ky _ _ L]at m;refine(v j P m).go (λb' s=>e.block b' ?_) (nK.oD e) N;exact(v j P m).lt s
  .rw[kF _ _ m]at h;refine .inr ⟨?_,h,rfl,λb' i s=>e.block b' (r.qp h s)⟩;cases bx<;>first|rfl|exact absurd (r.nB h).1 m
 .by_cases m:j=4999
  .subst m;rw[kB]at h;cases h
  .rw[kF _ _ m]at h;exact⟨h,r.x3 j h⟩
def nE.FW(B:nE)(g:Nat)(v:Value):nE:=⟨B.oj,B.fx,λj=>if j=g then v else B.hv j⟩
def mg.FW(r:mg E nt B T H a w){X:kY}{M:kY->(Nat->Value)->Prop}{g:Nat}{v:Value}(m:H 4999=some (.ext (Sg X)))(u:H g=none)(N:M X (λj=>if j=g then v else B.hv j)):
 mg E nt (B.FW g v) T (l9 (l9 H g .hid) 4999 (.ext M)) a w:=by
 have V:g≠4999:=λe=>by rw[e,m]at u;cases u
 obtain⟨_,K,p,rfl,z,x⟩:=r.nB m;have F:=r.x3 g u
 have D:kI E (B.FW g v) (l9 (l9 H g .hid) 4999 (.ext M))=kI E B H:=by
  funext b o;unfold kI;refine propext (uQ rq (uQ rq (qO λj=>rK λi=>?_)));by_cases h:j=4999
  .subst h;rw[kB,m]
  .rw[kF _ _ h];by_cases q:j=g
   .subst q;rw[kB,u]
   .rw[kF _ _ q]
 have at_:∀{j:Nat} {bx:Bx},H j=some bx->Ap bx=true->l9 (l9 H g .hid) 4999 (.ext M) j=some bx/\j≠g:=λ{j bx} c d=>by
  have f:j≠4999:=λe=>by rw[e,m]at c;injection c with c;subst c;cases d
  have k2:j≠g:=λe=>fm;exact⟨by rw[kF _ _ f,kF _ _ k2];exact c,k2⟩
 have U:qt w w B (B.FW g v) H (l9 (l9 H g .hid) 4999 (.ext M)):=by
  refine⟨λ_ _ _ h=>h,λj h=>?_,λt n len A cap h=>?_,sC (nK.refl (λ_ _=>False) w) λg' e' R J h=>?_,λj h=>?_⟩
  .have f:j≠4999:=λe=>by rw[e,m]at h;cases h
   have k2:j≠g:=λe=>by rw[e,u]at h;cases h
   rw[kF _ _ f,kF _ _ k2];exact h
  .obtain⟨e,k,c,d⟩:=h;exact⟨e,k,(at_ c O).1,d⟩
  .exact⟨(at_ h O).1,rfl⟩
  .obtain⟨f,k2⟩:=at_ h O;exact⟨f,by simp[nE.FW,k2]⟩
 have y:∀j,nR (l9 (l9 H g .hid) 4999 (.ext M) j)=true->nR (H j)=true:=λj h=>by
  by_cases i:j=4999
  .subst i;rw[kB]at h;cases h
  .rw[kF _ _ i]at h;by_cases S:j=g
   .subst S;rw[kB]at h;cases h
   .rwa[kF _ _ S]at h
 refine r.Lo (nK.refl _ w) (λb' o _ h=>by rw[D]at h;exact h) U r.left (λj bx h=>?_) (λj h=>?_) (λj s b' c d l C=>r.inj j s b' (y j c) (y s d) l C) (r.fx.go O (kK _) λj b' c d=>.inl ⟨y j c,d⟩)
 .by_cases i:j=4999
  .subst i;rw[kB]at h;injection h with h;subst h
   refine .inl ⟨⟨O,K⟩,p,N,z,?_⟩;rw[D];exact x
  .rw[kF _ _ i]at h;by_cases S:j=g
   .subst S;rw[kB]at h;injection h with h;subst h
    exact .inl F
   .rw[kF _ _ S]at h;exact dB
 .by_cases i:j=4999
  .subst i;rw[kB]at h;cases h
  .rw[kF _ _ i]at h;by_cases S:j=g
   .subst S;rw[kB]at h;cases h
   .rw[kF _ _ S]at h;exact⟨h,r.x3 j h⟩
end
section
variable {T:List (Nat×AV)}{H:List (Nat×Bx)}{c:Code}
def xr{M:kY->(Nat->Value)->Prop}(t:kV 4999 H=some (.ext M))(k:∀X y,M X y->AW P E nt c ⟨T,(4999,.ext (Sg X))::H⟩ Q):AW P E nt c ⟨T,H⟩ Q:=λB a w r=>by obtain⟨_,K,X,b,d,l⟩:=r.nB (H:=St.h ⟨T,H⟩) t;refine k X B.hv b B a w ?_;have e:St.h ⟨T,(4999,.ext (Sg X))::H⟩=l9 (St.h ⟨T,H⟩) 4999 (.ext (Sg X)):=kZ _ _ _;rw[e];exact r.DS t ⟨X,rfl,d,l⟩
def qI{H:Hp}{x:Value}:qJ U w B H (.raw l p x) v↔x.oneCell'=true/\v=x:=by exact co
def mg.pe{T:Nat->Option AV}{H:Hp}(r:mg E nt B T H a w){x:Operand}{l:nz}{p:List Nat}{v:Value}(h:kv T x=some (.raw l p v)):a.eval x=v:=(qI.1 (r.eval h)).2
def ML{M:kY->(Nat->Value)->Prop}(s g:Nat)(l:nz)(t:kV 4999 H=some (.ext M))(o:kV s T=some (.hv g))(k:∀X y,M X y->AW P E nt c ⟨(s,.raw l [] (y g))::T,(4999,.ext (Sg X))::H⟩ Q):AW P E nt c ⟨T,H⟩ Q:=λB a w r=>by
 obtain⟨_,K,X,b,d,m⟩:=r.nB (H:=St.h ⟨T,H⟩) t;refine k X B.hv b B a w ?_;have e:St.h ⟨(s,.raw l [] (B.hv g))::T,(4999,.ext (Sg X))::H⟩=l9 (St.h ⟨T,H⟩) 4999 (.ext (Sg X)):=kZ _ _ _;have u:St.t ⟨(s,.raw l [] (B.hv g))::T,(4999,.ext (Sg X))::H⟩=l9 (St.t ⟨T,H⟩) s (.raw l [] (B.hv g)):=kZ _ _ _;rw[e,u];have I:=r.DS (M':=Sg X) t ⟨X,rfl,d,m⟩;refine⟨I.nt,I.df,λi x j=>?_,I.box,I.x3,I.inj,I.left,I.qa,I.fx⟩;by_cases h:i=s
 .subst h;rw[kB]at j;injection j with j;subst j
  obtain⟨v,p,n⟩:=I.tmp i _ o;rw[kJ ki]at n;obtain⟨q,U,R⟩:=n;simp only[Rd]at U;obtain⟨_,z,rfl⟩:=U;exact⟨v,p,qI.2 ⟨z,R⟩⟩
 .rw[kF _ _ h]at j;exact I.tmp i x j
end
abbrev HX(X:kY):List (Nat×Bx):= [(4999,.ext (Sg X))]
abbrev HM(M:kY->Value->Prop):List (Nat×Bx):= [(4999,.ext (λX y=>M X (y 4998))),(4998,.hid)]
def mZ(P:Program)(f:FuncId)(args:List AV)(X:kY)(r:AV)(M:kY->Value->Prop):Prop:=
 ∀(E:su) (B:nE) (w:World) (vs:List Value),E.df= []->(∀g,E.eb g=none)->uu E B (hL (HX X)) w->oe (kI E B (hL (HX X))) w args B (hL (HX X)) vs->
  Calls P f vs.toArray w λe w'=>∃v B2,e= .returned v/\uu E B2 (hL (HM M)) w'/\qJ (kI E B2 (hL (HM M))) w' B2 (hL (HM M)) r v
def ZS:nR (hL (HX X) g)=false:=by
 simp only[hL,kV];cases Nat.beq 4999 g<;>rfl
variable {M:kY->Value->Prop}
def Bh:nR (hL (HM M) g)=false:=by
 simp only[hL,kV];cases Nat.beq 4999 g<;>cases Nat.beq 4998 g<;>rfl
def akf{o:Nat}(h:kI E B (hL (HX X)) b o):(b<E.w0.heap.size/\E.X b o/\ ¬E.E3 b)∨ ∃l,B.fx l=some b:=by
 rcases h with h|h|⟨g,_,h⟩
 .exact .inl h
 .exact .inr h
 .obtain⟨bx,a,c,_⟩:=sh h;have:=nG c;rw[<-a,ZS]at this;cases this
def Uu{o:Nat}(h:kI E B (hL (HM M)) b o):(b<E.w0.heap.size/\E.X b o/\ ¬E.E3 b)∨ ∃l,B.fx l=some b:=by
 rcases h with h|h|⟨g,_,h⟩
 .exact .inl h
 .exact .inr h
 .obtain⟨bx,a,c,_⟩:=sh h;have:=nG c;rw[<-a,Bh]at this;cases this
def RXv(H:Hp)(v:Value)(x y:AV):Prop:=Wk H x y∨((∃l p,x= .raw l p v)/\y= .hv 4998)
def MD(P:Program)(S:St)(v:Value):ResultVar->AV->Prop
 | .tmp t,y=>∃x,S.t t=some x/\(∀G,x≠ .mz G)/\RXv S.h v x y
 | .cell a t,y=>∃g x,S.t a=some (.ptr g 0 [])/\S.h g=some (.var x)/\zg P t (na x) (lE x)/\RXv S.h v x y
def Ej(P:Program)(S:St)(v:Value):List ResultVar->List AV->Prop
 | [],[]=>True
 |r::rs,y::J=>MD P S v r y/\Ej P S v rs J
 | [],_::_=>False
 |_::_,[]=>False
section
abbrev Ey(B:nE)(v:Value):nE:=⟨λ_=>none,B.fx,λj=>if j=4998 then v else B.hv j⟩
def RXv.run{x y:AV}(h:RXv S.h v x y){c:List Value}(H:Rd (kI E B S.h) w x B S.h c):Rd (kI E (Ey B v) (hL (HM M))) w y (Ey B v) (hL (HM M)) c/\m9 x c=m9 y c:=by
 rcases h with h|⟨⟨l,p,rfl⟩,rfl⟩
 .obtain⟨a,d⟩:=h _ _ _ _ H;refine⟨t4 _ (n6 (nK.refl _ w) (λb o _ hu=>?_) _ (qt.nj _ _) a),d⟩;rcases Uu hu with k|⟨l,k⟩
  .exact .inl k
  .exact .inr (.inl ⟨l,k⟩)
 .simp only[Rd]at H⊢;obtain⟨a,rfl⟩:=H;exact⟨⟨O,by simpa using a,by simp⟩,rfl⟩
def aaV(r:mg E nt B S.t S.h a w){u:Value}{M:kY->Value->Prop}{v:ResultVar}{y:AV}(h:MD P S u v y):∃c,(ve a.tmps v).run P w= .ok (m9 y c) w/\Rd (kI E (Ey B u) (hL (HM M))) w y (Ey B u) (hL (HM M)) c:=by
 cases v with
 |tmp t=>
  obtain⟨x,d,e,k⟩:=h;obtain⟨z,C,D⟩:=r.tmp t x d;rw[kJ e]at D;obtain⟨c,R,rfl⟩:=D;obtain⟨U,m⟩:=k.run (M:=M) R;refine⟨c,?_,U⟩;rw[<-m];have:a.tmps.getD t undef=m9 x c:=by simp[CK,C]
  simp only[ve,this];rfl
 |cell n t=>
  obtain⟨g,x,d,e,k,C⟩:=h;obtain⟨z,D,R⟩:=r.tmp n _ d;rw[kJ ki]at R;obtain⟨c,U,rfl⟩:=R;simp only[Rd]at U;obtain⟨_,b,m,rfl⟩:=U;obtain⟨b',cs,ty,f,k2,k3,_⟩:=r.box g _ e;rw[m]at f;injection f with f;subst f;have i:=nJ k3;have T:mQ w b 0 (lE x)=some cs.toArray:=fj;obtain⟨l,F⟩:=C.run (M:=M) k3;refine⟨cs,?_,l⟩;have A:=pX k T iy;have:a.tmps.getD n undef= .pointer (some ⟨b,0,none⟩):=eZ;simp only[ve,this,asAddr,Sem.run_bind,Sem.run_pure,Result.andThen_ok,A];rw[<-F];cases j:na x
  .have L:=(tZ k3).2 j;obtain⟨v,rfl⟩:∃v,cs= [v]:=⟨_,L⟩;simp at L;simp[<-L]
  .simp[(tZ k3).1 j]
theorem NY(r:mg E nt B S.t S.h a w){u:Value}{M:kY->Value->Prop}:∀(vs:List ResultVar) (J:List AV),Ej P S u vs J-> ∃K:List Value,(vs.mapM (ve a.tmps)).run P w= .ok K w/\K.length=vs.length/\oe (kI E (Ey B u) (hL (HM M))) w J (Ey B u) (hL (HM M)) K
 | [],[],_=>⟨[],rfl,rfl,by simp[oe]⟩
 |v::vs,y::J,h=>by
  obtain⟨b,d⟩:=h;obtain⟨c,e,k2⟩:=aaV (M:=M) r b;obtain⟨K,k3,l,F⟩:=NY r vs J d;exact dp
 | [],_::_,h=>h.elim
 |_::_,[],h=>h.elim
def adH(g:fn.results.toList=rv)(r:mg E nt B S.t S.h a w){u:Value}{M:kY->Value->Prop}{J:List AV}(h:Ej P S u rv J):∃v,(results fn a.tmps).run P w= .ok v w/\qJ (kI E (Ey B u) (hL (HM M))) w (Ey B u) (hL (HM M)) (Ai J) v:=by
 subst g;obtain⟨K,e,k2,k3⟩:=NY (M:=M) r _ _ h;have T:=FL _ _ _ _ _ e;rw[zd]at T;rw[vm,Sem.run_bind,T];obtain⟨N,m2⟩:=yS k3;by_cases b:K.length=1
 .obtain⟨u,rfl⟩:=CJ.1 b;obtain⟨y,rfl⟩:=CJ.1 (N.trans b);exact cN
 .refine⟨.tuple K.toArray,by simp[b],?_⟩
  have H:Ai J= .mz J:=by
   match J,N with
   | [],_=>rfl
   | [y],N=>exact absurd N.symm b
   |y::z::l,_=>rfl
  rw[H,mW];exact⟨K,rfl,k3⟩
def uu.ad2(m:uu E B H w){X:kY}{M:kY->Value->Prop}{v:Value}(L:∀g,E.eb g=none)(f:H 4999=some (.ext (Sg X)))(N:M X v):uu E (Ey B v) (hL (HM M)) w:=by
 obtain⟨⟨_,K⟩,j,rfl,z,u⟩:=m.box _ _ f
 have I:∀b o,kI E (Ey B v) (hL (HM M)) b o->kI E B H b o:=λb o hu=>by
  rcases Uu hu with k|⟨l,k⟩
  .exact .inl k
  .exact .inr (.inl ⟨l,k⟩)
 refine⟨λg bx h=>?_,λg h=>rfl,λg g' b h=>je,m.left,λg _=>L g,m.fx.go O (kK _) λg b h=>je⟩;simp only[hL,kV]at h;cases a:Nat.beq 4999 g with
 |true=>
  rw[a]at h;simp only[cond_true,mr]at h;subst h;have:=mi a;subst this;refine⟨⟨O,rfl⟩,j,by simpa using N,z,λl xb i=>(u l xb i).go (λ_ _=>rfl) (nK.refl _ w) (λb o _ h=>I b o h)⟩
 |false=>
  rw[a]at h;cases c:Nat.beq 4998 g with
  |true=>
   rw[c]at h;simp only[cond_true,cond_false,mr]at h;subst h;rfl
  |false=>rw[c]at h;cases h
end
def nW{c:Code}(z:P.funcs[f]?=some fn)(d:fn.body=some c)(N:fn.ntmps=nt)(p:fn.results=rv.toArray)(D:args.length<=nt)(J:List AV)(F:Ai J=r)
 (h:∀E,(∀b,¬E.E3 b)->AW P E nt c ⟨rY 0 args,HX X⟩ (λe S'=>(e= .normal∨e= .ret)/\ ∃C v,kV 4999 S'.H=some (.ext (Sg C))/\M C v/\Ej P S' v rv J)):mZ P f args X r M:=by
 have K:fn.results.toList=rv:=by rw[p]
 subst N;intro E B w vs V q m o;subst F;refine calls_of_wp z d (vz (h E (λb ⟨g,k,h⟩=>by rw[q g]at h;cases h) B _ w (LK V m o D)) ?_);rintro e W w' ⟨B',S',l,L,C,v,j,R,A⟩;obtain⟨u,i,k2⟩:=adH (M:=M) K l A;have n:W.defers= []:=l.df.trans V;have T:=l.mem.ad2 (M:=M) q j R;rcases L with rfl|rfl
 .exact⟨n,u,i,u,_,rfl,T,k2⟩
 .exact⟨n,u,i,u,_,rfl,T,k2⟩
def zi(g:Nat):AV->AV
 | .hv _=>.hv g
 |x=>x
def Hf(g:Nat):AV->AV
 | .mz J=>.mz (J.map (zi g))
 |x=>zi g x
def RF:AV->Bool
 | .hv n=>Nat.beq n 4998
 |x=>mO x
def O8:AV->Bool
 | .mz J=>J.all RF
 |x=>RF x
variable {U':u0}
section
def XF{w:World}{H':Hp}(p:∀b o,U' b o->U b o)(t:H' g=some .hid)(hv:B'.hv g=B2.hv 4998){y:AV}(F:RF y=true){c:List Value}(h:Rd U w y B2 (hL (HM M)) c):Rd U' w (zi g y) B' H' c/\m9 y c=m9 (zi g y) c:=by
 have k:∀x:AV,mO x=true->Rd U w x B2 (hL (HM M)) c->Rd U' w x B' H' c:=λx j h=>
  t4 x (n6 (nK.refl _ w) (λb o _ h=>p b o h) x (qt.nj _ _) (pQ x j h))
 cases y with
 |hv n=>
  have:=mi F;subst this;simp only[Rd,zi]at h⊢;obtain⟨a,d,rfl⟩:=h;exact⟨⟨t,by rw[hv];exact d,by rw[hv]⟩,rfl⟩
 |_=>exact⟨k _ F h,rfl⟩
theorem RC{U U':u0}{w:World}{A B':nE}{H':Hp}{M:kY->Value->Prop}{g:Nat}(n:∀b o,U' b o->U b o)(t:H' g=some .hid)(z:B'.hv g=A.hv 4998):∀(J:List AV),J.all RF=true-> ∀{vs:List Value},oe U w J A (hL (HM M)) vs->oe U' w (J.map (zi g)) B' H' vs
 | [],_,vs,h=>ff
 |y::J,F,vs,h=>by
  simp only[List.all_cons,l5]at F;simp only[oe,nc]at h⊢;obtain⟨c,V,rfl,a,d⟩:=h;obtain⟨e,k2⟩:=XF n t z F.1 a;exact⟨c,V,by rw[k2],e,RC n t z J F.2 d⟩
def acu{w:World}{H':Hp}(n:∀b o,U' b o->U b o)(t:H' g=some .hid)(z:B'.hv g=B2.hv 4998){y:AV}(F:O8 y=true){v:Value}(h:qJ U w B2 (hL (HM M)) y v):qJ U' w B' H' (Hf g y) v:=by
 rcases Ec y with⟨J,rfl⟩|hn
 .rw[mW]at h;simp only[Hf];rw[mW];obtain⟨vs,a,d⟩:=h;exact⟨vs,a,RC n t z J F d⟩
 .have P:Hf g y=zi g y:=by cases y<;>first|rfl|exact absurd O (hn _)
  have f:RF y=true:=fP;rw[kJ hn]at h;obtain⟨c,a,d⟩:=h;obtain⟨e,k2⟩:=XF (H':=H') n t z f a;rw[P,kJ (oV e)];exact⟨c,e,by rw[d,k2]⟩
def Tn(E:su)(B:nE)(H:Hp)(w:World):su:=⟨w,kI E B H,λ_=>none,λ_ _=>rfl,[],λb=>∃l,B.fx l=some b⟩
abbrev inB(B:nE):nE:=⟨λ_=>none,B.fx,B.hv⟩
def YR(r:mg E nt B T H a w){X:kY}:kI (Tn E B H w) (inB B) (hL (HX X))=kI E B H:=by
 funext b o;refine propext ⟨λh=>?_,λh=>.inl ⟨r.w7 h,h,λ⟨g,k,h⟩=>by cases h⟩⟩;rcases akf h with⟨_,h,_⟩|⟨l,h⟩
 .exact h
 .exact .inr (.inl ⟨l,h⟩)
def mg.inX(r:mg E nt B T H a w){X:kY}(f:H 4999=some (.ext (Sg X))):uu (Tn E B H w) (inB B) (hL (HX X)) w:=by
 obtain⟨_,K,i,rfl,z,u⟩:=r.nB f;have e:=YR r (X:=i);refine⟨λg bx h=>?_,λg _=>rfl,λg g' b h=>jf,⟨O,rfl,rfl,kK _,λ_ _ _ _=>rfl,nK.refl _ _⟩,λ_ _=>rfl,⟨λl b h=>.inr ⟨⟨l,h⟩,λo=>.inr (.inl ⟨l,h⟩)⟩,r.fx.lt,r.fx.inj,λl b g _ h=>jf⟩⟩;simp only[hL,kV]at h;cases c:Nat.beq 4999 g with
 |true=>
  rw[c]at h;simp only[cond_true,mr]at h;subst h;have:=mi c;subst this;refine⟨⟨O,rfl⟩,i,rfl,z,?_⟩;rw[e];exact u
 |false=>rw[c]at h;cases h
theorem mg.Y5(r:mg E nt B T H a w){f:FuncId}{J:List AV}{X:kY}{y:AV}{M:kY->Value->Prop}{vs:List Value}{H':Hp}{M':kY->(Nat->Value)->Prop}(N:Value->Nat->Value)(V:H 4999=some (.ext (Sg X)))(p4:H' 4999=some (.ext M'))(po:∀j,j≠4999->H' j=H j∨(H j=none/\H' j=some .hid))(pn:∀v j,H j=some .hid->N v j=B.hv j)(pM:∀C v,M C v->M' C (N v))
 (D:mZ P f J X y M) (I:oe (kI E B H) w J B0 H0 vs):
 Calls P f vs.toArray w λe w'=>∃v B2 B',e= .returned v/\mg E nt B' T H' a w'/\B'.hv=N (B2.hv 4998)/\(∀b o,kI E B' H' b o->kI (Tn E B H w) B2 (hL (HM M)) b o)/\qJ (kI (Tn E B H w) B2 (hL (HM M))) w' B2 (hL (HM M)) y v:=by
 have m:=r.inX V;have hB4:=(r.nB V).2.1
 have c:oe (kI (Tn E B H w) (inB B) (hL (HX X))) w J (inB B) (hL (HX X)) vs:=by
  rw[YR r];exact zh (nK.refl _ w) (λ_ _ _ h=>h) J ⟨λg b h _=>by simp[H0,pH]at h,λg h=>by simp[H0,pH]at h,λt n len A cap h=>by obtain⟨e,k,h,_⟩:=h;simp[H0]at h,λg n len k v h=>by obtain⟨e,G,h,_⟩:=h;simp[H0]at h,λg h=>by simp[H0]at h⟩ I
 refine rM (D _ _ w vs O (λ_=>rfl) m c) ?_;rintro e w' ⟨v,B2,rfl,m2,R⟩;have evo:nK (kI E B H) w w':=m2.left.evo;have hne:∀b,¬(Tn E B H w).E3 b:=λb ⟨g,k,h⟩=>fk
 have own2:∀l b,B2.fx l=some b->w.heap.size<=b∨ ∃l',B.fx l'=some b:=λl b h=>by
  rcases m2.fx.mine l b h with k|k
  .exact .inl k
  .exact .inr k.1
 have qa:∀j b,nR (H j)=true->B j=some b->w'.heap[b]?=w.heap[b]? :=λj b c d=>by
  cases L:H j with
  |none=>rw[L]at c;cases c
  |some bx=>exact m2.left.block b (r.qp L d) (hne b) (λ⟨l,h⟩=>r.fx.out l b j h c d)
 let B':nE:=⟨B.oj,B2.fx,N (B2.hv 4998)⟩
 have un:∀j,nR (H' j)=true->nR (H j)=true/\H' j=H j:=λj h=>by
  by_cases x:j=4999
  .subst x;rw[p4]at h;cases h
  .rcases po j x with k|⟨_,k⟩
   .exact⟨by rw[<-k];exact h,k⟩
   .rw[k]at h;cases h
 have box':∀b o,(∃j,B' j=some b/\match H' j with|some (.var _)=>True|some (.tail _ n k)=>k*n<=o|some (.own _ _ _)=>True|_=>False)->kI E B H b o:=by
  rintro b o ⟨j,c,d⟩;obtain⟨bx,i,k2,k3⟩:=sh d;obtain⟨W,k5⟩:=un j (by rw[i];exact nG k2);exact .inr (.inr ⟨j,c,by rw[<-k5];exact d⟩)
 have hU:∀b o,b<w.heap.size->kI E B' H' b o->kI E B H b o:=by exact cW
 have hU2:∀b o,kI E B' H' b o->kI (Tn E B H w) B2 (hL (HM M)) b o:=by
  rintro b o (h|h|h)
  .exact .inl ⟨wx h.1 r.left.size,.inl h,hne b⟩
  .exact .inr (.inl h)
  .have:=box' b o h;exact .inl ⟨r.w7 this,this,hne b⟩
 have at_:∀{j:Nat} {bx:Bx},H j=some bx->Ap bx=true->H' j=some bx:=λ{j bx} c d=>by
  have i:j≠4999:=λe=>by rw[e,V]at c;injection c with c;subst c;cases d
  rcases po j i with k|⟨k,_⟩
  .exact k.trans c
  .rw[k]at c;cases c
 have pic:qt w w' B B' H H':=by
  refine⟨λ_ _ _ h=>h,λj h=>?_,λt n len A cap h=>?_,sC evo λg' e' n' J h=>?_,λj h=>?_⟩
  .cases L:H j with
   |none=>rw[L]at h;cases h
   |some bx=>
    rw[L]at h;rw[at_ L iS];exact h
  .obtain⟨ty,k,c,d,z⟩:=h;refine⟨ty,k,at_ c O,d,λF=>⟨(z F).1,λb' Y=>?_⟩⟩;obtain⟨i,cur,k2,k3⟩:=(z F).2 b' Y;exact⟨i,cur,(qa t b' jZ Y).trans k2,k3⟩
  .exact⟨at_ h O,rfl⟩
  .exact⟨at_ h O,pn _ j h⟩
 have l2:=m2.left
 have left:Ih E w':=by
  refine⟨l2.os.trans r.left.os,l2.tape.trans r.left.tape,l2.output.trans r.left.output,oG r.left.size l2.size,λk F S hxk=>?_,⟨oG r.left.size l2.size,λb cs t fr hb=>?_⟩⟩
  .refine(l2.block k (wx F r.left.size) (hne k) λ⟨l,h⟩=>?_).trans (r.left.block k F S hxk);rcases r.fx.mine l k h with q|q
   .omega
   .exact hxk q.1
  .obtain⟨c1,c,d,z⟩:=r.left.evo.cell b cs t fr hb;obtain⟨c2,i,k2,k3⟩:=evo.cell b c1 t fr c;refine⟨c2,i,k2.trans d,λq U=>(k3 q (λhu=>?_)).trans (z q U)⟩;have Z:=qY hb;rcases hu with⟨_,u,_⟩|⟨l,u⟩|⟨j,u1,u2⟩
   .exact U u
   .rcases r.fx.mine l b u with s|s
    .omega
    .exact U (s.2 q)
   .obtain⟨bx,v1,v2,v3⟩:=sh u2;rcases r.mem.mine v1 v2 u1 with s|s
    .omega
    .exact U (s.2.2 q v3)
 have fx:Fx E B' H' w':=by
  refine⟨λl b h=>?_,m2.fx.lt,m2.fx.inj,λl b j h c d=>?_⟩
  .rcases own2 l b h with k|⟨l',k⟩
   .exact .inl (oG r.left.size k)
   .exact r.fx.mine l' b k
  .obtain⟨i,_⟩:=un j c;rcases own2 l b h with k|⟨l',k⟩
   .cases L:H j with
    |none=>rw[L]at i;cases i
    |some bx=>have:=r.qp L d;omega
   .exact r.fx.out l' b j k i d
 refine⟨v,B2,B',rfl,r.Lo evo hU pic left (λj bx h=>?_) (λj h=>?_) (λj j' b c d z K=>r.inj j j' b (un j c).1 (un j' d).1 z K) fx,rfl,hU2,R⟩
 .by_cases x:j=4999
  .subst x;rw[p4]at h;injection h with h;subst h
   obtain⟨_,X2,i,k2,k3⟩:=m2.box 4999 _ O;exact .inl ⟨⟨O,hB4⟩,X2,pM _ _ i,k2,λl xb p=>(k3 l xb p).go (λ_ _=>rfl) (nK.refl _ w') (λb o _ h=>hU2 b o h)⟩
  .rcases po j x with k|⟨k,k'⟩
   .rw[k]at h;refine .inr ⟨?_,h,rfl,λb p hb=>qa j b (by rw[h];exact p) hb⟩;cases bx<;>first|rfl|exact absurd (r.nB h).1 x
   .rw[k']at h;injection h with h;subst h
    exact .inl (r.x3 j k)
 .by_cases x:j=4999
  .subst x;rw[p4]at h;cases h
  .rcases po j x with k|⟨_,k⟩
   .rw[k]at h;exact⟨h,r.x3 j h⟩
   .rw[k]at h;cases h
end
variable {c2:List Value}
section
def Hz{l:List Operand}(z:P.funcs[f]?=some fn)(c:fn.body.isSome=true)(E:(fn.name== "runtime.NumGoroutine")=false)(R:a.eval x= .func (.func f) #[] c2.toArray):
 (execOp a.eval ⟨d,.call {callee:=.value x,args:=l.toArray,argTypes:=ats},ty,pos,af,gd⟩).run P w= .ok (.enter f (l.map a.eval++c2).toArray) w:=by
 have e:fn.body≠none:=fu;have A:fn.name≠ "runtime.NumGoroutine" :=by simpa using E
 have N:(l.map a.eval++c2).toArray=(l.toArray.map a.eval)++c2.toArray:=fv;rw[N];simp[execOp,resolve,Deferred.ofValue,R,invoke,callFunc,z,A,e]
def SM{l:List Operand}{y:AV}{M:kY→Prop}(L:H 4999=some (.ext (Sg X)))(u:mZ P f J X y (fun C _=>M C))(F:mO y=true)(p:lK nt d=true)(A:P.funcs[f]?=some fn)(g:fn.body.isSome=true)(hnm:(fn.name== "runtime.NumGoroutine")=false)
 (hxf:kv T x=some (.fn (.func f) [] caps)) (m:l.map (kv T)=G.map some) (N:G.all lS=true) (I:∀H,BL H (G++caps) J):
 kE P E nt ops ⟨d,.call {callee:=.value x,args:=l.toArray,argTypes:=ats},ty,pos,af,gd⟩ T H [4999] ⟨y,[(4999,.ext (λC _=>M C))]⟩:=by
 intro T' H' s hrh hwr B a w r K Q Y;have hX':H' 4999=some (.ext (Sg X)):=(hrh 4999 ki).trans L;have hxs:=rP r l G (rn m (λy F=>mv s iq)) (λz t=>l6 (mq.1 N z t));have hfv:=ml ki (r.eval ((mv s (x:=x) iV).trans hxf)) O;simp only[Rd]at hfv;obtain⟨c1,c2,R,q,W⟩:=hfv;simp only[oe]at q;subst q;injection R with R;have S:=(I H').Yi (ud hxs W);unfold Oper.wp;rw[Hz A g hnm R];have hcall:=r.Y5 (H':=l9 H' 4999 (.ext (λC _=>M C))) (M':=λC _=>M C) (λ_=>B.hv) hX' (kB _ _ _) (λj k=>.inl (kF _ _ k)) (λ_ _ _=>rfl) (λ_ _ h=>h) u S;refine rM hcall ?_;rintro e w' ⟨v,B2,B',rfl,n,D,U,Z⟩
 exact Y B' _ w' (n.put p (by
  rcases Ec y with⟨V,rfl⟩|hn
  .rw[mW]at Z⊢;obtain⟨us',i,k2⟩:=Z;refine⟨us',i,rz V jo (zh (nK.refl _ w') (λb o _ h=>U b o h) V (qt.nj _ _) (rz (B':=B0) (H':=H0) V jo k2))⟩
  .rw[kJ hn]at Z⊢;obtain⟨c,i,k2⟩:=Z;exact⟨c,pQ y F (n6 (nK.refl _ w') (λb o _ h=>U b o h) y (qt.nj _ _) (pQ (B':=B0) (H':=H0) y F i)),k2⟩))
def Lg{l:List Operand}{y:AV}(i:H 4999=some (.ext (Sg X)))(u:mZ P f J X y (fun C _=>C=X))(F:mO y=true)(n:lK nt d=true)(z:P.funcs[f]?=some fn)(c:fn.body.isSome=true)(L:(fn.name== "runtime.NumGoroutine")=false)
 (t:kv T x=some (.fn (.func f) [] caps)) (j:l.map (kv T)=G.map some) (N:G.all lS=true) (g:∀H,BL H (G++caps) J):
 kE P E nt ops ⟨d,.call {callee:=.value x,args:=l.toArray,argTypes:=ats},ty,pos,af,gd⟩ T H [4999] ⟨y,[]⟩:=by
 have h:=SM (P:=P) (E:=E) (nt:=nt) (ops:=ops) (T:=T) (H:=H) (d:=d) (ty:=ty) (pos:=pos) (af:=af) (gd:=gd) (ats:=ats) i u F n z c L t j N g;intro T' H' s U _ B a w r K Q I;have q:H' 4999=some (.ext (Sg X)):=(U 4999 ki).trans i;refine h T' H' s U (λp Y=>?_) B a w r K Q λB' W w' k=>I B' W w' ?_
 .simp only[s7]at Y;subst Y;exact U 4999 ki
 .have e:nA H' [(4999,.ext (λC _=>C=X))]=H':=rC q;rw[e]at k;exact k
def SL{l:List Operand}{y:AV}(g:Nat)(q:H 4999=some (.ext (Sg X)))(t:H g=none)(u:mZ P f J X y M)(I:O8 y=true)(n:lK nt d=true)(D:P.funcs[f]?=some fn)(c:fn.body.isSome=true)(hnm:(fn.name== "runtime.NumGoroutine")=false)
 (hxf:kv T x=some (.fn (.func f) [] caps)) (k:l.map (kv T)=G.map some) (N:G.all lS=true) (p:∀H,BL H (G++caps) J):
 kE P E nt ops ⟨d,.call {callee:=.value x,args:=l.toArray,argTypes:=ats},ty,pos,af,gd⟩ T H [4999] ⟨Hf g y,[(4999,.ext (λC A=>M C (A g))),(g,.hid)]⟩:=by
 intro T' H' s hrh hwr B a w r K Q V;have Z:H' 4999=some (.ext (Sg X)):=(hrh 4999 ki).trans q;have Y:H' g=none:=(hwr (g,.hid) ki).trans t;have hg4:g≠4999:=λe=>by rw[e,q]at t;cases t
 have hxs:=rP r l G (rn k (λy I=>mv s ir)) (λz o=>l6 (mq.1 N z o));have hfv:=ml ki (r.eval ((mv s (x:=x) iV).trans hxf)) O;simp only[Rd]at hfv;obtain⟨c1,c2,R,b,U⟩:=hfv;simp only[oe]at b;subst b;injection R with R;have L:=(p H').Yi (ud hxs U);unfold Oper.wp;rw[Hz D c hnm R]
 have hcall:=r.Y5 (H':=l9 (l9 H' g .hid) 4999 (.ext (λC A=>M C (A g)))) (M':=λC A=>M C (A g)) (λv j=>if j=g then v else B.hv j) Z (kB _ _ _)
  (λj i=>by
   rw[kF _ _ i];by_cases h:j=g
   .subst h;exact .inr ⟨Y,kB _ _ _⟩
   .exact .inl (kF _ _ h)) (λv j h=>ku λe=>by rw[e,Y]at h;cases h) (λC v h=>by simpa using h) u L
 refine rM hcall ?_;rintro e w' ⟨v,B2,B',rfl,m,F,S,W⟩;exact V B' _ w' (m.put n (acu S (by rw[kF _ _ hg4,kB]) (by rw[F];simp) I W))
end
def vc:XB->Option (Nat×Nat×AV)
 | .var b y=>some (b,0,y)
 | .my _ n (some (b,o)) _ G=>some (b,o*n,.arr (G.length*n) n G)
 |_=>none
def Ek:XB->List Nat->AV->Option XB
 | .var b _,_,y=>some (.var b y)
 | .my e n (some A) cap _,_::_,.arr _ _ J=>some (.my e n (some A) cap J)
 |_,_,_=>none
@[reducible] def sv(n:Nat)(A:Option (Nat×Nat))(len cap:Nat):Value:=.slice (A.map λp=>⟨p.1,p.2*n,none⟩) len cap
@[reducible] def lQ(l:nz)(b:Nat):AV:=.raw l [] (.pointer (some ⟨b,0,none⟩))
section
def mg.El(r:mg E nt B T H a w){X:kY}{l:nz}{xb:XB}(t:H 4999=some (.ext (Sg X)))(f:X l=some xb):yp (kI E B H) w xb:=by
 obtain⟨_,_,i,rfl,_,u⟩:=r.nB t;exact u l xb f
def KD{o:Nat}{y:AV}(h:yp U w xb)(f:vc xb=some (b,o,y)):∃cur ty c,w.heap[b]?=some (.cells cur ty (0,0))/\o+c.length<=cur.size/\(∀q,q<c.length->cur[o+q]?=c[q]?)/\Rd U w y B0 H0 c:=by
 cases xb with
 |var b' y'=>
  simp only[vc,mr,pq]at f;obtain⟨rfl,rfl,rfl⟩:=f;obtain⟨cs,t,a,d⟩:=h;exact⟨cs.toArray,t,cs,a,by simp,λq i=>by simp,d⟩
 |my e n A cap G=>
  cases A with
  |none=>cases f
  |some A=>
   obtain⟨b',o'⟩:=A;simp only[vc,mr,pq]at f;obtain⟨rfl,rfl,rfl⟩:=f;obtain⟨j,a,d,cur,c,k,B,D,P⟩:=h;have g:=lG P;refine⟨cur,e,c,k,?_,λq i=>D q kh,by simp only[Rd];exact⟨g,P⟩⟩;have:G.length*n<=cap*n:=mH _ a;rw[lZ]at B;omega
 |ob b' o'=>cases f
def yW{o:Nat}{c:List Value}(d:w.heap[b]?=some (.cells cur e (0,0)))(T:o+c.length<=cur.size)(f:∀q,q<c.length->cur[o+q]?=c[q]?):mQ w b o c.length=some c.toArray:=by
 rw[mX d];unfold mD;rw[kx T]
 congr 1
 apply qB;intro q;rw[w4];by_cases h:q<c.length
 .rw[kx kh,f q h];simp
 .rw[ku kh,ru jE]
end
variable {sz:Nat}{ag:Bool}
variable {xb':XB}{old:AV}
section
def Bn{H:Hp}(h:v.oneCell'=true):qJ U w B H (.raw l p v) v:=qI.2 ⟨h,rfl⟩
def Lh{m:Addr}(j:kv T x=some (.raw l p (.pointer (some m))))(n:lK nt d=true):kE prog E nt ops ⟨d,.nilCheck x,ty,pos,af,gd⟩ T H [] ⟨.raw l p (.pointer (some m)),[]⟩:=
 lO n λB T' H' a w r s D=>by have h:=r.pe ((s x js).trans j);exact⟨_,by simp[execOp,h],Bn rfl⟩
def HH{s:TypeId}{f o:Nat}{fs:List (Nat×Nat×Bool)}(j:kv T x=some (.raw l p (.pointer (some ⟨b,off,none⟩))))(t:kM.ti s=some (.st n fs))(z:fs[f]?=some (o,sz+1,ag))(q:lK nt d=true):
 kE prog E nt ops ⟨d,.fieldAddr s x f,ty,pos,af,gd⟩ T H [] ⟨.raw l (p++[f]) (.pointer (some ⟨b,off+o,none⟩)),[]⟩:=
 lO q λB T' H' a w r u D=>by have h:=r.pe ((u x js).trans j);obtain⟨_,F,hu,hF⟩:=kM.ok s _ t;obtain⟨v,C,I,G⟩:=Da hF f o (sz+1) ag z;have e:=lC G w;exact⟨.pointer (some ⟨b,off+o,none⟩),by simp[execOp,h,Instr.fieldAt,lu hu,C,Instr.sureAddr,fieldPlace,e,I,ss],Bn rfl⟩
def Ob{o:Nat}{y:AV}(j:kv T x=some (.raw l p (.pointer (some ⟨b,off,none⟩))))(u:H 4999=some (.ext (Sg X)))(i:X l=some xb)(f:vc xb=some (b,o,y))(Y:sU p y=some z)(U:o+tj p y=off)(q:kM.sa t=some (na z,lE z))(n:lK nt d=true):
 kE prog E nt ops ⟨d,.load t x,ty,pos,af,gd⟩ T H [4999] ⟨z,[]⟩:=
 lO n λB T' H' a w r s D=>by have h:=r.pe ((s x js).trans j);obtain⟨cur,e,c,g,k2,k3,m⟩:=KD (r.El ((D 4999 ki).trans u) i) f;obtain⟨c1,c2,c3,rfl,v,k,_⟩:=wz p m Y;have S:=Ad (yW g k2 k3);rw[v,U]at S;have I:=pX (kM.u5 q) (by rw[<-nJ k];exact S) NQ;rw[CZ k]at I;exact⟨m9 z c2,by simp[execOp,h,Instr.loadAt,Instr.sureAddr,I],by rw[kJ (oV k)];exact⟨c2,t4 z k,rfl⟩⟩
theorem ID{o:Nat}{u u' v:AV}(k:kv T x=some (.raw l p (.pointer (some ⟨b,off,none⟩))))(M:kv T y=some v)(I:mO v=true)(P:lS v=true)(D:H 4999=some (.ext (Sg X)))(W:X l=some xb)(f:vc xb=some (b,o,u))(Y:sU p u=some old)(U:o+tj p u=off)
 (m:xM v p u=some u') (hu':Ek xb p u'=some xb') (s:kM.sa t=some (na v,lE v)) (hs':lE v=lE old):kE prog E nt ops ⟨none,.store t x y,ty,pos,af,gd⟩ T H [4999] ⟨.mz [],[(4999,.ext (Sg (X.put l xb')))]⟩:=by
 intro T' H' C L V B a w r K Q hK;have hg':=(L 4999 ki).trans D;have h:=r.pe ((mv C js).trans k);have hv2:=r.eval ((mv C (x:=y) js).trans M);rw[kJ (l6 P)]at hv2;obtain⟨c',hc1,hc2⟩:=hv2;have hok:=r.El hg' W;obtain⟨cur,e,c,g,k2,k3,k4⟩:=KD hok f;obtain⟨c1,c2,c3,rfl,q1,Z,q3⟩:=wz p k4 Y;have j:c'.length=c2.length:=by rw[nJ hc1,nJ Z,hs']
 have hfit:off+c'.length<=cur.size:=by simp at k2;omega
 have hst:=wc (kM.u5 s) (off:=off) (v:=a.eval y) (c:=c') iX g (nJ hc1) i1 (EX v hc1);have hput:=mB (off:=off) (cs:=c'.toArray) g;have hsp:(lY cur off c'.toArray).size=cur.size:=oL _ _ _ jx;have hy2:=q3 v u' c' m (pQ v I hc1) j
 have hcell:∀q,q<(c1++c'++c3).length->(lY cur off c'.toArray)[o+q]?=(c1++c'++c3)[q]? :=λq R=>by
  rw[mn jx];have F:=k3 q (by simp at R⊢;omega);by_cases d:off<=o+q/\o+q<off+c'.toArray.size
  .rw[kx d];obtain⟨d,h2⟩:=d;rw[pF (by simp at h2⊢;omega),o7 kh];simp only[AZ]
   congr 1;omega
  .rw[ku d,F];exact aX
 have hat:xb.at=some b/\xb'.at=some b:=by
  cases xb with
  |var b' y'=>
   simp only[vc,Ek,mr,pq]at f hu';obtain⟨rfl,_⟩:=f;subst hu';exact eB
  |my e n A cap G=>
   cases A with
   |none=>cases f
   |some A=>
    obtain⟨b',o'⟩:=A;simp only[vc,mr,pq]at f;obtain⟨rfl,_⟩:=f;cases p with
    |nil=>cases u'<;>simp[Ek]at hu'
    |cons i p=>
    cases u'<;>simp only[Ek,reduceCtorEq,mr]at hu';subst hu';exact eB
  |ob b' o'=>cases f
 unfold Oper.wp
 have N:(execOp a.eval ⟨none,.store t x y,ty,pos,af,gd⟩).run prog w= .ok .skip (mw w b off c'.toArray):=by simp[execOp,h,Instr.storeAt,Instr.sureAddr,hst]
 rw[N];refine hK B _ _ (r.U2 hg' W hat.1 hat.2 oZ (.inl ⟨cur,_,e,(0,0),g,hput,hsp⟩) λevo=>?_);have hy3:=n6 evo (λ_ _ _ h=>h) u' (qt.nj _ _) hy2;cases xb with
 |var b' y'=>
  simp only[vc,Ek,mr,pq]at f hu';obtain⟨rfl,rfl,rfl⟩:=f;subst hu';obtain⟨cs,t0,m1,m2⟩:=hok;rw[g]at m1;injection m1 with m1;injection m1 with m1 m3 _;subst m1 m3
  have hn:=nJ m2;have hn4:=nJ k4;refine⟨c1++c'++c3,e,?_,hy3⟩;rw[hput]
  congr 2
  apply qB;intro q;by_cases R:q<(c1++c'++c3).length
  .have:=hcell q R;rw[oa]at this;rw[this];simp
  .rw[ru (by rw[hsp];simp at hn R hn4⊢;omega),ru (by simp at R⊢;omega)]
 |my e' n A cap G=>
  cases A with
  |none=>cases f
  |some A=>
   obtain⟨b',o'⟩:=A;simp only[vc,mr,pq]at f;obtain⟨rfl,rfl,rfl⟩:=f;obtain⟨m0,m1,m2,cur0,c0,m3,m4,m5,m6⟩:=hok;rw[g]at m3;injection m3 with m3;injection m3 with m3 m7 _;subst m3 m7
   cases p with
   |nil=>cases u'<;>simp[Ek]at hu'
   |cons i p=>
   cases u'<;>simp only[Ek,reduceCtorEq,mr]at hu';rename_i m' n' J;subst hu'
   have hn':n'=n/\m'=G.length*n:=by
    simp only[xM]at m;split at m
    .simp only[s9]at m;obtain⟨z,_,S⟩:=m;injection S with q1 Z q3;exact⟨Z.symm,q1.symm⟩
    .cases m
   obtain⟨rfl,rfl⟩:=hn';simp only[Rd]at hy3
   have hlen:J.length=G.length:=by
    have d:=lG hy3.2;have h2:=hy3.1;rw[d]at h2;exact Q1 m0 h2
   refine⟨m0,by omega,m2,_,c1++c'++c3,hput,by rw[hsp];exact m4,λq R=>hcell q ?_,hy3.2⟩;rw[lG hy3.2];exact R
 |ob b' o'=>cases f
end
variable {mx:Option Operand}{lb:nz}
section
def Li{t e bytes:Nat}{A:Option Addr}(o:kM.ti t=some (.sl e es bytes ea))(n:lK nt d=true)(j:kv T x=some (.raw l p (.slice A len cap))):
 kE prog E nt ops ⟨d,.call {callee:=.builtin .len,args:= #[x],argTypes:= #[t]},ty,pos,af,gd⟩ T H [] ⟨.v (.int .i64 len),[]⟩:=
 lO n λB T' H' a w r s D=>⟨.int .i64 len,by have h:=r.pe ((s x iV).trans j);simp[execOp,resolve,invoke,builtin,h,Builtin.len_,lu (kM.ok t _ o).2.1,goInt],by rw[nM];exact⟨O,rfl⟩⟩
def PO{t e bytes:Nat}{A:Option Addr}(o:kM.ti t=some (.sl e es bytes ea))(n:lK nt d=true)(j:kv T x=some (.raw l p (.slice A len cap))):
 kE prog E nt ops ⟨d,.call {callee:=.builtin .cap,args:= #[x],argTypes:= #[t]},ty,pos,af,gd⟩ T H [] ⟨.v (.int .i64 cap),[]⟩:=
 lO n λB T' H' a w r s D=>⟨.int .i64 cap,by have h:=r.pe ((s x iV).trans j);simp[execOp,resolve,invoke,builtin,h,Builtin.cap_,lu (kM.ok t _ o).2.1,goInt],by rw[nM];exact⟨O,rfl⟩⟩
def Lj{bytes:Nat}{n:Int}(q:kM.ti t=some (.sl e es bytes ea))(m:kv T x=some (.raw l p (.slice (some ⟨b,off,none⟩) len cap)))(hi:kv T ix=some (.v (.int k n)))(C:Bs n=some i)(g:i<len)(o:lK nt d=true):
 kE prog E nt ops ⟨d,.indexAddr t x ix,ty,pos,af,gd⟩ T H [] ⟨.raw l (p++[i]) (.pointer (some ⟨b,off+i*es,none⟩)),[]⟩:=
 lO o λB T' H' a w r s D=>by have h:=r.pe ((s x js).trans m);have j:=r.od ((s ix js).trans hi);have P:=uI C;subst P;obtain⟨_,hu,L,_⟩:=kM.ok t _ q;have f:=lC L w;have F:(i:Int)<(len:Int):=eY;exact⟨.pointer (some ⟨b,off+i*es,none⟩),by simp[execOp,h,j,Instr.indexAt,lu hu,asIntOf,f,g,F,ss],Bn rfl⟩
def HI{bytes:Nat}{lo hi:Option Operand}{l m:Nat}(o:kM.ti t=some (.sl e es bytes ea))(j:kv T x=some (.raw lb p (.slice (some ⟨b,off,none⟩) len cap)))(Y:se T lo 0 l)(C:se T hi len h)(N:se T mx cap m)(q:mx.isSome=true->hi.isSome=true)
 (f:l<=h) (g:h<=m) (k:m<=cap) (n:lK nt d=true):kE prog E nt ops ⟨d,.slice t x lo hi mx,ty,pos,af,gd⟩ T H [] ⟨.raw lb p (.slice (some ⟨b,if m=l then off else off+l*es,none⟩) (h- l) (m- l)),[]⟩:=
 lO n λB T' H' a w r s D=>by
  have I:=r.pe ((s x js).trans j);obtain⟨_,hu,L,_⟩:=kM.ok t _ o;have i:=lC L w;have R:=qs Y (T':=T') (λy F=>s y ia);have u:=qs C (T':=T') (λy F=>s y hI);have A:=qs N (T':=T') (λy F=>s y hJ);have M:=rH (P:=prog) (isS:=true) r R u A q f g k;refine⟨_,?_,Bn O⟩;by_cases c:m=l
  .simp[execOp,I,Instr.sliceAt,lu hu,Instr.slice,M,i,c]
  .simp[execOp,I,Instr.sliceAt,lu hu,Instr.slice,M,i,c,ss]
end
variable {A:Option (Nat×Nat)}
def yp.take(h:yp U w (.my e n A cap G))(k:Nat):yp U w (.my e n A cap (G.take k)):=by
 obtain⟨i,a,d,l⟩:=h;have g:(G.take k).length<=G.length:=fA;refine⟨i,by omega,d,?_⟩;cases A with
 |none=>exact l
 |some A=>
  obtain⟨b,off⟩:=A;obtain⟨cur,c,f,k2,k3,m⟩:=l;refine⟨cur,c.take (k*n),f,k2,λo V=>?_,qK k m⟩;have:(G.take k).length*n<=G.length*n:=mH _ g;have D:(G.take k).length*n<=k*n:=mH _ i6;rw[k3 o kh,yP kh]
def Nt(X:kY)(tx:TypeId)(n:Nat)(src:AV)(J:List AV):Prop:=∀E B H w v,(∀l xb,X l=some xb->yp (kI E B H) w xb)->qJ (kI E B H) w B H src v->Nu prog E B H w tx n v J
def KY{tx:TypeId}(h:yR prog tx n src J):Nt X tx n src J:=λE B H w v _ y=>h E B H w v y
def Fh{tx:TypeId}{bytes:Nat}{o c k m:Nat}(s:kM.ti tx=some (.sl e n bytes ea))(z:X l=some (.my e n (some (b,o)) cap G))(U:off=(o+k)*n)(x:k+m<=G.length):Nt X tx n (.raw lb p (.slice (some ⟨b,off,none⟩) m c)) ((G.drop k).take m):=λE B H w v j y=>by
 obtain⟨_,rfl⟩:=qI.1 y;obtain⟨A,a,d,cur,D,f,k2,k3,C⟩:=j l _ z;have g:=lG C;have r:=uY k C kh;have t:=qK m r;have T:((G.drop k).take m).length=m:=fQ;have P:k*n+m*n<=G.length*n:=fR;have i:G.length*n<=cap*n:=mH _ a;have R:(o+cap)*n=o*n+cap*n:=lZ _ _ _;have V:(o+k)*n=o*n+k*n:=lZ _ _ _;have W:=lG t;rw[T]at W;refine⟨(D.drop (k*n)).take (m*n),?_,t⟩;rw[T]
 have S:mQ w b off ((D.drop (k*n)).take (m*n)).length=some ((D.drop (k*n)).take (m*n)).toArray:=yW f kh λq u=>by rw[show off+q=o*n+(k*n+q) by omega,k3 _ kh,yP kh,wy]
 exact Src.ofSlice w (kM.ok tx _ s).2.1 _ _ c _ W (pg S) (vR n _ t)
def I4{tx:TypeId}{i:TypeInfo}(s:prog.underlying t=some (.slice e))(hi:prog.info? e=some i){b off F f n:Nat}{x:Value}{news:List Value}(o:Src prog i.size tx x n news w)(v:F+n<=f)
 {C:Array Value} {R:TypeId} (c:w.heap[b]?=some (.cells C R (0,0))) (z:off+F*i.size+news.length<=C.size):
 (Builtin.append_ #[t,tx] ty #[.slice (some ⟨b,off,none⟩) F f,x]).run prog w= .ok (.slice (some ⟨b,off,none⟩) (F+n) f) (mw w b (off+F*i.size) news.toArray):=by
 have M:=oM (P:=prog) w b (off+F*i.size) news c z o.one;have N:=ss b off (F*i.size);rcases o.kind with⟨e',hk⟩|hk<;>simp[Builtin.append_,lu s,lu hk,sizeOf,typeInfo,hi,o.len,v,o.cells,N,M]
section
theorem mg.akl(r:mg E nt B T H a w){X:kY}{l:nz}{t tx ty e:TypeId}{es bytes cap i:Nat}{Y:Bool}{A:Option (Nat×Nat)}{G J:List AV}{yv:Value}(v:H 4999=some (.ext (Sg X)))(s:kM.ti t=some (.sl e es bytes Y))(K:X l=some (.my e es A cap G))(hi:i<=G.length)
 (hsrc:Nu prog E B H w tx es yv J) (hlen:(i+J.length)*bytes<=140737488355328) (hlen2:i+J.length<=9223372036854775807):
 ∃w' B' Z S,(Builtin.append_ #[t,tx] ty #[sv es A i cap,yv]).run prog w= .ok (sv es Z (i+J.length) S) w'/\mg E nt B' T (l9 H 4999 (.ext (Sg (X.put l (.my e es Z S (G.take i++J)))))) a w'/\B'.hv=B.hv/\(i+J.length<=cap->Z=A/\S=cap):=by
 have N:=r.El v K;obtain⟨L,d,f,m⟩:=N;obtain⟨news,hS,hN⟩:=hsrc;obtain⟨_,hu,_,inf,z,hi',F,his,hib,hzs⟩:=kM.ok t _ s;subst his hib;have hnl:=lG hN;have htl:(G.take i).length=i:=fA;by_cases V:J.length=0
 .obtain rfl:J= []:=pE V;obtain rfl:news= []:=pE jy;have I:=Q8 (P:=prog) w t tx ty e inf hu hi' (A.map λp=>⟨p.1,p.2*inf.size,none⟩) i cap kh yv hS;obtain⟨_,R,X0,rfl,C,x⟩:=r.nB v;refine⟨w,B,A,cap,I,?_,rfl,λ_=>⟨O,rfl⟩⟩;rw[oT];refine r.DS v ⟨_,rfl,λj=>?_,λj xb k=>?_⟩
  .by_cases hjl:j=l
   .subst hjl;rw[kC,<-C j,K];rfl
   .rw[ky _ _ hjl];exact C j
  .by_cases hjl:j=l
   .subst hjl;rw[kC]at k;injection k with k;subst k;exact(x j _ K).take i
   .rw[ky _ _ hjl]at k;exact x j xb k
 .have h63:((i+J.length:Nat):Int)<=9223372036854775807:=by omega
  have hcmax:∀c,grownCap w (i+J.length) c e<=maxLen:=λc=>DK w _ c e jp
  have fresh:∀(olds:List Value),cap<i+J.length->ov (kI E B H) w inf.size (G.take i) B0 H0 olds->(Builtin.firstCells inf.size i (sv inf.size A i cap)).run prog w.drew= .ok olds.toArray w.drew-> ∃w' B' Z S,(Builtin.append_ #[t,tx] ty #[sv inf.size A i cap,yv]).run prog w= .ok (sv inf.size Z (i+J.length) S) w'/\mg E nt B' T (l9 H 4999 (.ext (Sg (X.put l (.my e inf.size Z S (G.take i++J)))))) a w'/\B'.hv=B.hv/\(i+J.length<=cap->Z=A/\S=cap):=by
   intro olds x hO hold;have hol:=lG hO;rw[htl]at hol;have I:=Q7 (P:=prog) w t tx ty e inf z hu hi' F (A.map λp=>⟨p.1,p.2*inf.size,none⟩) i cap olds hold yv J.length news hS x h63 (Bb kh (by exact hlen));have hge:=DJ w (i+J.length) cap e
   have hsz:((olds++news).toArray++Builtin.zeroCells z.cells (grownCap w (i+J.length) cap e-(i+J.length))).size=grownCap w (i+J.length) cap e*inf.size:=by
    simp only[xo,xn,lA,GU,hzs,hol,hnl,<-lZ]
    congr 1;omega
   have hext:pr w (w.drew.alloc (.cells ((olds++news).toArray++Builtin.zeroCells z.cells (grownCap w (i+J.length) cap e-(i+J.length))) e)):=(pr.refl w).drew.alloc _;refine⟨_,B.Rs l w.heap.size,some (w.heap.size,0),grownCap w (i+J.length) cap e,by rw[I];simp[sv],r.U3 v rfl hext (qY (o8 w.drew _)) λU hU=>?_,rfl,λh=>by omega⟩;refine⟨L,by rw[lA,htl];exact hge,hcmax cap,_,olds++news,o8 w.drew _,by rw[hsz,oa];exact kK _,λo W=>?_,oi (nr (nK.oD hext) hU _ _ (qt.nj _ _) hO) (nr (nK.oD hext) hU _ _ (qt.nj _ _) hN)⟩;rw[lA,htl,lZ,<-hol,<-hnl,<-lA]at W;rw[Mg,oa,AI jS];simp
  cases A with
  |none=>
   obtain rfl:cap=0:=m;obtain rfl:G= []:=pE kh;have hi0:i=0:=fJ;subst hi0;exact fresh [] kh (by simp[ov]) rfl
  |some A=>
   obtain⟨b,o⟩:=A;obtain⟨cur,c,g,k2,k3,M⟩:=m;have hcl:=lG M;have u:=qK i M;have htc:=lG u;rw[htl]at htc;have n:G.length*inf.size<=cap*inf.size:=mH _ d;have e3:(o+cap)*inf.size=o*inf.size+cap*inf.size:=lZ _ _ _;have e4:i*inf.size<=G.length*inf.size:=mH _ hi;by_cases hroom:i+J.length<=cap
   .have e5:i*inf.size+J.length*inf.size<=cap*inf.size:=by rw[<-lZ];exact mH _ hroom
    have hfit:o*inf.size+i*inf.size+news.length<=cur.size:=eY;have I:=I4 (ty:=ty) hu hi' hS hroom g hfit;have hput:=mB (off:=o*inf.size+i*inf.size) (cs:=news.toArray) g;have hsp:(lY cur (o*inf.size+i*inf.size) news.toArray).size=cur.size:=oL _ _ _ jx;refine⟨_,B,some (b,o),cap,I,r.U2 v K O O oZ (.inl ⟨cur,_,e,(0,0),g,hput,hsp⟩) λevo=>?_,rfl,λ_=>⟨O,rfl⟩⟩;refine⟨L,by rw[lA,htl];exact hroom,f,_,c.take (i*inf.size)++news,hput,by rw[hsp];exact k2,λq y=>?_,nr evo (λ_ _ _ h=>h) _ _ (qt.nj _ _) (oi u hN)⟩;rw[lA,htl,lZ]at y;rw[mn jx];by_cases D:q<i*inf.size
    .rw[ku kh,k3 q kh,pF kh,yP D]
    .rw[kx jY,o7 kh,htc];simp only[AZ]
     congr 1;omega
   .refine fresh (c.take (i*inf.size)) kh u ?_;refine xm (P:=prog) w.drew inf.size i ⟨b,o*inf.size,none⟩ i cap _ (by rw[htc]) ?_
    have hrow:mQ w b (o*inf.size) (c.take (i*inf.size)).length=some (c.take (i*inf.size)).toArray:=yW g kh λq y=>by rw[k3 q kh,yP kh]
    simpa using pg hrow
end
section
def V8{tx:TypeId}{bytes:Nat}(g:Nat)(q:kM.ti t=some (.sl e es bytes ea))(m:kv T s=some (.raw l p (sv es A i cap)))(I:kv T x=some src)(K:H 4999=some (.ext (Sg X)))(k:X l=some (.my e es A cap G))(y:H g=none)(hi:i<=G.length)
 (S:Nt X tx es src J) (U:(i+J.length)*bytes<=140737488355328) (V:i+J.length<=9223372036854775807) (o:lK nt d=true):
 kE prog E nt ops ⟨d,.call {callee:=.builtin .append,args:= #[s,x],argTypes:= #[t,tx]},ty,pos,af,gd⟩ T H [4999]
  ⟨.hv g,[(4999,.ext (λC z=>∃R N,C=X.put l (.my e es R N (G.take i++J))/\z g=sv es R (i+J.length) N/\(i+J.length<=cap->R=A/\N=cap))),(g,.hid)]⟩:=
 oC o λB T' H' a w r u F f=>by
  have P:H' 4999=some (.ext (Sg X)):=(F 4999 ki).trans K;have Y:H' g=none:=(f (g,.hid) ki).trans y;have Z:g≠4999:=λe=>by rw[e,K]at y;cases y
  have h:=r.pe ((u s iV).trans m);obtain⟨w',B',R,N,b,c,n,D⟩:=r.akl (ty:=ty) P q k hi (S E B H' w _ (λl xb k=>r.El P k) (r.eval ((u x iV).trans I))) U V;have hgn:l9 H' 4999 (.ext (Sg (X.put l (.my e es R N (G.take i++J))))) g=none:=by rw[kF _ _ Z];exact Y
  have L:=c.FW (g:=g) (v:=sv es R (i+J.length) N) (M:=λC z=>∃R N,C=X.put l (.my e es R N (G.take i++J))/\z g=sv es R (i+J.length) N/\(i+J.length<=cap->R=A/\N=cap)) (kB _ _ _) hgn ⟨R,N,rfl,by simp,D⟩
  have W:∀M,l9 (l9 (l9 H' 4999 (.ext (Sg (X.put l (.my e es R N (G.take i++J)))))) g .hid) 4999 (.ext M)=nA H' [(4999,.ext M),(g,.hid)]:=λM=>by
   funext j;simp only[nA,l9];by_cases c1:j=4999
   .simp[c1]
   .by_cases c2:j=g
    .simp[c1,c2]
    .simp[c1,c2]
  rw[W]at L;refine⟨sv es R (i+J.length) N,w',_,by simp[execOp,resolve,invoke,builtin,h,b],L,?_⟩;rw[kJ ki];refine⟨[sv es R (i+J.length) N],?_,rfl⟩;simp only[Rd];exact⟨by simp[nA,kF _ _ Z,kB],by simp[nE.FW,Value.oneCell'],by simp[nE.FW]⟩
def Yw{tx:TypeId}{bytes:Nat}(o:kM.ti t=some (.sl e es bytes ea))(j:kv T s=some (.raw l p (sv es A i cap)))(F:kv T x=some src)(m:H 4999=some (.ext (Sg X)))(g:X l=some (.my e es A cap G))(hi:i<=G.length)
 (I:Nt X tx es src J) (y:i+J.length<=cap) (U:(i+J.length)*bytes<=140737488355328) (v:i+J.length<=9223372036854775807) (n:lK nt d=true):
 kE prog E nt ops ⟨d,.call {callee:=.builtin .append,args:= #[s,x],argTypes:= #[t,tx]},ty,pos,af,gd⟩ T H [4999]
  ⟨.raw l p (sv es A (i+J.length) cap),[(4999,.ext (Sg (X.put l (.my e es A cap (G.take i++J)))))]⟩:=
 oC n λB T' H' a w r u D f=>by have q:H' 4999=some (.ext (Sg X)):=(D 4999 ki).trans m;have h:=r.pe ((u s iV).trans j);obtain⟨w',B',R,L,b,c,k,C⟩:=r.akl (ty:=ty) q o g hi (I E B H' w _ (λl xb g=>r.El q g) (r.eval ((u x iV).trans F))) U v;obtain⟨rfl,rfl⟩:=C y;exact⟨sv es R (i+J.length) L,w',B',by simp[execOp,resolve,invoke,builtin,h,b],c,Bn rfl⟩
end
def ag3(h:yp U w (.my e n A cap G)):Rd (λ_ _=>False) w (.sl none n G) B0 H0 [sv n A G.length cap]:=by
 obtain⟨l,a,d,k⟩:=h;simp only[Rd];refine⟨_,cap,rfl,a,d,λX=>?_,λt s=>by cases s⟩;cases A with
 |none=>have:cap=0:=k;omega
 |some A=>
  obtain⟨b,o⟩:=A;obtain⟨cur,c,f,k2,k3,m⟩:=k;have g:=lG m;have i:G.length*n<=cap*n:=mH _ a;have R:(o+cap)*n=o*n+cap*n:=lZ _ _ _;refine⟨b,o*n,c,rfl,?_,λ_ _ _ h=>h,nr (nK.refl _ w) (λ_ _ _ h=>h.elim) n G (qt.nj _ _) m⟩;rw[<-g];exact yW f kh λq j=>k3 q kh
def aoQ(X:kY)(x y:AV):Prop:=(mO x=true/\y=x)∨ ∃l p e n A cap G,x= .raw l p (sv n A G.length cap)/\y= .sl none n G/\X l=some (.my e n A cap G)
inductive GZ (X:kY):List AV->List AV->Prop
 |nil:GZ X [] []
 |cons {x y:AV} {G J:List AV} (h:aoQ X x y) (t:GZ X G J):GZ X (x::G) (y::J)
def GZ.Yi(j:∀l xb,X l=some xb->yp U w xb){G J:List AV}(h:GZ X G J){vs:List Value}(I:oe U w G B H vs):oe (λ_ _=>False) w J B0 H0 vs:=by
 induction h generalizing vs with
 |nil=>simpa[oe]using I
 |cons h t y=>
  simp only[oe]at I⊢;obtain⟨c,V,rfl,f,k2⟩:=I;rcases h with⟨o,rfl⟩|⟨l,p,e,n,A,cap,zs,rfl,rfl,g⟩
  .exact⟨c,V,rfl,n6 (nK.refl _ w) (λ_ _ _ h=>h.elim) _ (qt.nj _ _) (pQ _ o f),y k2⟩
  .simp only[Rd]at f;obtain⟨_,rfl⟩:=f;exact⟨_,V,rfl,ag3 (j l _ g),y k2⟩
def adT:AV->Bool
 | .v _=>true
 | .mz J=>J.all λy=>match y with| .v _=>true|_=>false
 |_=>false
section
theorem N3{U U':u0}{w:World}{B:nE}{H:Hp}:∀(J:List AV),(J.all λy=>match y with| .v _=>true|_=>false)=true-> ∀{vs:List Value},oe U w J B0 H0 vs->oe U' w J B H vs
 | [],_,vs,h=>ff
 |y::J,F,vs,h=>by
  simp only[List.all_cons,l5]at F;simp only[oe]at h⊢;obtain⟨c,V,rfl,e,k2⟩:=h;refine⟨c,V,rfl,?_,N3 J F.2 k2⟩;cases y<;>first|(simp only[Rd]at e⊢;exact e)|(have:=F.1;simp at this)
def aa4{H:Hp}{y:AV}(h:adT y=true){v:Value}(I:qJ U w B0 H0 y v):qJ U' w B H y v:=by
 cases y with
 |v x=>rw[nM]at I⊢;exact I
 |mz J=>
  rw[mW]at I⊢;obtain⟨vs,rfl,b⟩:=I;exact⟨vs,rfl,N3 J h b⟩
 |_=>cases h
def Ju{l:List Operand}{y:AV}(m:H 4999=some (.ext (Sg X)))(j:td T l=some G)(N:G.all lS=true)(u:zV f J y)(k:GZ X G J)(F:adT y=true)(n:lK nt d=true):
 kE prog E nt ops ⟨d,.call {callee:=.value (.func f),args:=l.toArray,argTypes:=ats},ty,pos,af,gd⟩ T H [4999] ⟨y,[]⟩:=by
 obtain⟨fn,A,hb,M,u⟩:=u;intro T' H' s U _ B a w r K Q I;have p:H' 4999=some (.ext (Sg X)):=(U 4999 ki).trans m;have R:=rP r l G (rn (o6 j) (λy F=>mv s iq)) (λz i=>l6 (mq.1 N z i));have o:=k.Yi (λl xb g=>r.El p g) R;unfold Oper.wp;have L:=Hz (P:=prog) (d:=d) (ty:=ty) (pos:=pos) (af:=af) (gd:=gd) (x:=.func f) (l:=l) (ats:=ats) (a:=a) (w:=w) (c2:= []) A hb M O;rw[oT]at L;rw[L];refine rM (u (λ_ _=>False) w _ o) ?_;rintro e w' ⟨v,rfl,b,c⟩;exact I B _ w' ((r.ext c).put n (aa4 F b))
end
section
variable {T:List (Nat×AV)}{H:List (Nat×Bx)}{c:Code}
def pB(f:kV 4999 H=some (.ext (Sg X)))(g:X l=some (.my e n A cap G))(k:G.length<=cap->cap<=maxLen->(A=none->G= []/\cap=0)->AW P E nt c ⟨T,H⟩ Q):AW P E nt c ⟨T,H⟩ Q:=λB a w r=>by obtain⟨i,b,d,m⟩:=r.El (H:=St.h ⟨T,H⟩) f g;refine k b d (λe=>?_) B a w r;subst e;have:cap=0:=m;exact⟨pE kh,this⟩
def lL.amQ{o:Nat}{x:AV}(s:kV 4999 H=some (.ext (Sg X)))(g:X l=some (.my e n (some (b,o)) cap (x::G))):lL E nt ⟨T,H⟩ ⟨T,(4999,.ext (Sg (X.put l (.my e n (some (b,if cap=1 then o else o+1)) (cap- 1) G))))::H⟩:=λB a w r=>by
 obtain⟨_,K,v,rfl,d,k⟩:=r.nB (H:=St.h ⟨T,H⟩) s;have F:∀M,St.h ⟨T,(4999,.ext M)::H⟩=l9 (St.h ⟨T,H⟩) 4999 (.ext M):=λM=>kZ _ _ _;refine⟨B,?_⟩;rw[F];refine r.DS s ⟨_,rfl,λj=>?_,λj xb i=>?_⟩
 .by_cases L:j=l
  .subst L;rw[kC,<-d j,g];rfl
  .rw[ky _ _ L];exact d j
 .by_cases L:j=l
  .subst L;rw[kC]at i;injection i with i;subst i
   obtain⟨y,N,m2,cur,c,f,k2,k3,t⟩:=k j _ g;have u:1<=cap:=by simp at N;omega
   have p:=uY 1 t ki;simp only[DI,A1,QN]at p;refine⟨y,by simp at N;omega,by omega,cur,c.drop n,f,?_,λq m=>?_,p⟩
   .split
    .have:cap- 1=0:=by omega
     rw[this,vA];exact oG (mH _ kh) k2
    .rw[show o+1+(cap- 1)=o+cap by omega];exact k2
   .split
    .simp at N;have:G= []:=pE kh;subst this;simp at m
    .rw[lZ,QN,ye,k3 _ (by simp only[List.length_cons,lZ,QN];omega),wy]
  .rw[ky _ _ L]at i;exact k j xb i
end
def aj8(f:FuncId)(args:List AV)(X:kY)(r:AV)(M:kY→Prop):Prop:=∃fn,Tryz.prog.funcs[f]?=some fn∧fn.body.isSome=true∧(fn.name== "runtime.NumGoroutine")=false∧mZ Tryz.prog f args X r (fun C _=>M C)
def Un(f:FuncId)(args:List AV)(X:kY)(r:AV):Prop:=∃fn,Tryz.prog.funcs[f]?=some fn∧fn.body.isSome=true∧(fn.name== "runtime.NumGoroutine")=false∧mZ Tryz.prog f args X r (fun C _=>C=X)
def BB(f:FuncId)(args:List AV)(X:kY)(r:AV)(M:kY→Value→Prop):Prop:=∃fn,Tryz.prog.funcs[f]?=some fn∧fn.body.isSome=true∧(fn.name== "runtime.NumGoroutine")=false∧mZ Tryz.prog f args X r M
def acx{M:kY→Prop}(z:Tryz.prog.funcs[f]?=some fn)(u:mZ Tryz.prog f args X r (fun C _=>M C))(c:fn.body.isSome=true:=by decide+kernel)(B:(fn.name== "runtime.NumGoroutine")=false:=by decide+kernel):aj8 f args X r M:=⟨fn,z,c,B,u⟩
def lH(z:Tryz.prog.funcs[f]?=some fn)(u:mZ Tryz.prog f args X r (fun C _=>C=X))(c:fn.body.isSome=true:=by decide+kernel)(B:(fn.name== "runtime.NumGoroutine")=false:=by decide+kernel):Un f args X r:=⟨fn,z,c,B,u⟩
def kS(z:Tryz.prog.funcs[f]?=some fn)(u:mZ Tryz.prog f args X r M)(c:fn.body.isSome=true:=by decide+kernel)(B:(fn.name== "runtime.NumGoroutine")=false:=by decide+kernel):BB f args X r M:=⟨fn,z,c,B,u⟩
section
def Jv{l:List Operand}{y:AV}{M:kY->Prop}(g:H 4999=some (.ext (Sg X)))(j:td T l=some G)(e:tA G=some J)(N:G.all lS=true)(u:aj8 f J X y M)(F:mO y=true)(n:lK nt d=true):
 kE prog E nt ops ⟨d,.call {callee:=.value (.func f),args:=l.toArray,argTypes:=ats},ty,pos,af,gd⟩ T H [4999] ⟨y,[(4999,.ext (λC _=>M C))]⟩:=by
 obtain⟨fn,a,b,k,A⟩:=u;exact SM (caps:= []) g A F n a b k O (o6 j) N λH=>by rw[oT];exact pU _ _ e
def Jt{l:List Operand}{y:AV}(g:H 4999=some (.ext (Sg X)))(j:td T l=some G)(e:tA G=some J)(N:G.all lS=true)(u:Un f J X y)(F:mO y=true)(n:lK nt d=true):
 kE prog E nt ops ⟨d,.call {callee:=.value (.func f),args:=l.toArray,argTypes:=ats},ty,pos,af,gd⟩ T H [4999] ⟨y,[]⟩:=by
 obtain⟨fn,a,b,k,A⟩:=u;exact Lg (caps:= []) g A F n a b k O (o6 j) N λH=>by rw[oT];exact pU _ _ e
end
def uu.ext(m:uu E B H w)(e:pr w w'):uu E B H w'/\ ∀x v,qJ (kI E B H) w B H x v->qJ (kI E B H) w' B H x v:=by
 refine⟨⟨λg bx h=>?_,m.x3,m.inj,m.left.ext e,m.qa,m.fx.go O e.size λ_ _ a d=>.inl ⟨a,d⟩⟩,λx v h=>vE (nK.oD e) (λ_ _ _ h=>h) (qt.ext e) h⟩;have hb:=m.box g bx h;cases bx with
 |var x=>
  obtain⟨b,cs,t,a,d,o,A⟩:=hb;exact⟨b,cs,t,a,e.heap d,n6 (nK.oD e) (λ_ _ _ h=>h) x (qt.ext e) o,A⟩
 |froz x=>
  obtain⟨b,cs,a,d,o,A⟩:=hb;exact⟨b,cs,a,e.row d,o,n6 (nK.oD e) (λ_ _ _ h=>h) x (qt.ext e) A⟩
 |hid=>exact hb
 |ext M=>exact⟨hb.1,hb.2.go O O (λl b i=>e.block b (m.fx.lt l b i)) (nK.oD e) (λ_ _ _ h=>h)⟩
 |tail ty n k=>
  obtain⟨j,C,a⟩:=hb;refine⟨j,C,a.imp id ?_⟩;rintro⟨b,cur,cap,f,k2,k3⟩;exact⟨b,cur,cap,f,e.heap k2,k3⟩
 |own ty n G=>
  obtain⟨j,C,a⟩:=hb;refine⟨j,C,a.imp id ?_⟩;rintro⟨b,cur,cap,c,f,k2,k3,p,F,y,q,U⟩;exact⟨b,cur,cap,c,f,e.heap k2,k3,p,F,y,nr (nK.oD e) (λ_ _ _ h=>h) n G (qt.nj _ _) q,U⟩
def uu.ajK(m:uu E B H w){α:Type}{F:α->AV}{arr:α->Array Value}{n g len:Nat}{e:TypeId}(enc:uo arr n)(D:∀(U:u0) (w:World) (G:List α) {c:List Value},ov U w n (G.map F) B0 H0 c↔c=qc arr G){G:List α}{v:Value}
 (t:H g=some (.own e n (G.map F))) (y:qJ (kI E B H) w B H (.own g n len .row) v) (T:len=G.length):Sl arr n w v G:=by
 obtain⟨hn,C,hb⟩:=m.box g _ t;have h:=Fv y;obtain⟨f,k2⟩:=h.now t (by rw[T,kX]);rcases hb with⟨z,Z⟩|⟨b,cur,cap,c,z,Z,b3,I,J,b6,b7,b8⟩
 .rw[f z];have:G= []:=fS;subst this;exact Sl.nil _ _ _
 .obtain⟨q,p,L,o,V,R,A⟩:=k2 b z;rw[Z]at p;simp only[mr,Obj.cells.injEq]at p;obtain⟨rfl,_⟩:=p;rw[D]at b7;subst b7;refine⟨some ⟨b,0,none⟩,L,by rw[o,T],by omega,R,λl=>⟨b,0,rfl,qY Z,λi hi=>?_⟩⟩;have j:=sK enc G;have P:i*n+n<=G.length*n:=fD;have W:G.length*n<=cur.size:=by rw[b3];rw[kX]at I;exact mH _ I
  rw[mX Z];unfold mD;rw[kx kh]
  congr 1
  apply qB;intro k;rw[w4];by_cases x:k<n
  .rw[kx kh,b6 _ jb,oa];have:=zH enc G i k hi x;simpa using this
  .rw[ku kh,ru i7]
section
def mg.aeP(r:mg E nt B T H a w){g es:Nat}{e:TypeId}{J:List AV}{cs:List Value}(t:H g=none)(C:0<es)(F:ov (kI E B H) w es J B0 H0 cs)(U:J.length<=maxLen):
 mg E nt (B.E2 g w.heap.size) T (l9 H g (.own e es J)) a (w.alloc (.cells cs.toArray e))/\rQ (w.alloc (.cells cs.toArray e)) (B.E2 g w.heap.size) (l9 H g (.own e es J)) g es J.length .row (.slice (some ⟨w.heap.size,0,none⟩) J.length J.length):=by
 have Z:∀j n b,H j=some n->B j=some b->b<w.heap.size:=λj n b c d=>r.qp c d;have P:=lG F;refine⟨r.new t ⟨C,Ks.none (r.qa _ t),.inr ⟨w.heap.size,cs.toArray,J.length,cs,kB _ _ _,o8 w _,by simpa using P,kK _,U,λo _=>by simp,nr (nK.oD ((pr.refl w).alloc _)) (vT Z) _ J (qt.nj _ _) F,.inl r.left.size⟩⟩,⟨e,J,kB _ _ _,kK _,rfl,λ_=>⟨λh=>?_,λb hb=>?_⟩⟩⟩
 .rw[nq]at h;cases h
 .rw[nq]at hb;injection hb with hb;subst hb
  exact⟨cs.toArray,o8 w _,J.length,rfl,kK _,U,by simpa using P⟩
def N5(r:mg E nt B T H a w){g n len:Nat}{e:TypeId}{G:List AV}{v:Value}(h:rQ w B H g n len .row v)(t:H g=some (.own e n G))(i:len=G.length):
 ∃A cap,v= .slice A G.length cap/\G.length<=cap/\cap<=maxLen:=by
 obtain⟨l,y⟩:=h.now t i;subst i;obtain⟨x,z⟩:=r.Bq t;rcases z with⟨f,k2⟩|⟨b,cur,s,c,f,_⟩
 .subst k2;exact⟨none,0,l f,kK _,kO _⟩
 .obtain⟨k,_,cap,m,j,U,_⟩:=y b f;exact⟨_,cap,m,j,U⟩
def mg.VP(r:mg E nt B T H a w){g n b:Nat}{e:TypeId}{G zs:List AV}{u:Array Value}{news:List Value}{off:Nat}(t:H g=some (.own e n G))(i:B g=some b)(m:w.heap[b]?=some (.cells u e (0,0)))(l:ov (kI E B H) w n zs B0 H0 news)(z:off+zs.length<=G.length):
 (storeCells ⟨b,off*n,none⟩ news).run P w= .ok () (mw w b (off*n) news.toArray)/\mg E nt B T (l9 H g (.own e n (G.take off++(zs++G.drop (off+zs.length))))) a (mw w b (off*n) news.toArray):=by
 obtain⟨C,A⟩:=r.Bq t;rcases A with⟨j,k2⟩|⟨b',D,s,c,j,k2,k3,p,I,y,v,W,Z⟩
 .rw[i]at j;cases j
 rw[i]at j;injection j with j;subst j
 rw[m]at k2;injection k2 with k2;injection k2 with k2 _ _;subst k2
 have X:=lG l;have S:=lG v;have q:G.length*n<=u.size:=by rw[k3];exact mH _ p
 have d:off*n+zs.length*n<=G.length*n:=fT;have N:off*n+news.length<=u.size:=eY;have V:(G.take off++(zs++G.drop (off+zs.length))).length=G.length:=fy;have x:=mB (off:=off*n) (cs:=news.toArray) m;have K:(lY u (off*n) news.toArray).size=u.size:=oL _ _ _ jT;have F:=oi (qK off v) (oi l (uY (off+zs.length) v z));refine⟨oM (P:=P) w b (off*n) news m N (vR n _ l),(r.VQ (J:=G.take off++(zs++G.drop (off+zs.length))) (c':=c.take (off*n)++(news++c.drop ((off+zs.length)*n))) t i m k3 kh kh I oZ x K (λo U=>?_) F).1⟩;rw[V]at U;rw[mn jT];have R:(off+zs.length)*n=off*n+news.length:=by rw[lZ,X]
 have L:(c.take (off*n)).length=off*n:=fA;by_cases f:o<off*n
 .rw[ku kh,y o U,pF kh,yg,kx f]
 .rw[o7 kh,L];by_cases k:o<off*n+news.length
  .rw[kx jY,pF kh];simp
  .rw[ku jY,y o U,o7 kh,wy,R]
   congr 1
   omega
end
variable {e':TypeId}
variable {kn:IntKind}
section
def VY{bytes:Nat}(p:kM.ti t=some (.sl e es bytes ea))(o:lK nt d=true)(j:kv T x=some (.own g n len .row))(u:H g=some (.own e' n G))(i:len=G.length):
 kE prog E nt ops ⟨d,.call {callee:=.builtin .len,args:= #[x],argTypes:= #[t]},ty,pos,af,gd⟩ T H [g] ⟨.v (.int .i64 (len:Nat)),[]⟩:=
 lO o λB T' H' a w r s D=>by have X:=(D g ki).trans u;obtain⟨A,cap,y,_⟩:=N5 r (Fv (r.eval ((s x iV).trans j))) X i;refine⟨.int .i64 (len:Nat),?_,by rw[nM];exact⟨O,rfl⟩⟩;have hu:=(kM.ok t _ p).2.1;simp[execOp,resolve,invoke,builtin,y,i,Builtin.len_,lu hu,goInt]
def Ak{bytes:Nat}{lo hi:Option Operand}{l:Nat}(n:lK nt d=true)(o:kM.ti t=some (.sl e es bytes ea))(k:kv T x=some (.own g es len .row))(u:H g=some (.own e es G))(S:len=G.length)(Y:se T lo 0 l)(J:se T hi len h)(f:l<h)(i:h<=len):
 kE prog E nt ops ⟨d,.slice t x lo hi none,ty,pos,af,gd⟩ T H [g] ⟨.own g es len (.part l (h- l)),[]⟩:=
 lO n λB T' H' a w r s D=>by
  subst S;have X:=(D g ki).trans u;have p:=Fv (r.eval ((s x js).trans k));obtain⟨U,R⟩:=p.now X O;obtain⟨K,I⟩:=r.Bq X;obtain⟨_,hu,L,_⟩:=kM.ok t _ o;have m:=lC L w;have hlo':=qs Y (T':=T') (λy F=>s y ia);have Z:=qs J (T':=T') (λy F=>s y (by simp only[Op.operands];simp;simp at F;exact .inr (.inr F)));rcases I with⟨j,k2⟩|⟨b,cur,A,c,j,k2,_⟩
  .subst k2;simp at i;omega
  .obtain⟨V,M,cap,z,W,hmx,C⟩:=R b j;have N:=rH (P:=prog) (isS:=true) (len:=G.length) (cap:=cap) r hlo' Z (show se T' none cap cap from rfl) ki kh kh (kK _);refine⟨.slice (some ⟨b,l*es,none⟩) (h- l) (cap- l),?_,Fw ⟨e,G,X,kK _,rfl,λ_=>⟨λhn=>(by rw[j]at hn;cases hn),λb' q=>?_⟩⟩⟩
   .simp at N;have v:¬cap=l:=eY;simp[execOp,z,Instr.sliceAt,lu hu,Instr.slice,N,m,v,ss]
   .rw[j]at q;injection q with q;subst q
    exact⟨V,M,cap- l,rfl,by omega,by omega,by omega⟩
def IB{tx:TypeId}{bytes:Nat}{l:Nat}(n:lK nt d=true)(o:kM.ti t=some (.sl e es bytes ea))(j:kv T x=some (.own g es len (.part off l)))(F:kv T y=some src)(K:Ic prog es src J)
 (u:H g=some (.own e es G)) (hln:len=G.length) (k:0<len) (N:off+J.length<=len) (hyl:J.length<=l):
 kE prog E nt ops ⟨d,.call {callee:=.builtin .copy,args:= #[x,y],argTypes:= #[t,tx]},ty,pos,af,gd⟩ T H [g] ⟨.v (.int .i64 (J.length:Nat)),[(g,.own e es (G.take off++(J++G.drop (off+J.length))))]⟩:=
 oC n λB T' H' a w r s D i=>by
  subst hln;have X:H' g=some (.own e es G):=(D g ki).trans u;have h:=Fv (r.eval ((s x iV).trans j));obtain⟨V,q,v,S⟩:=K E B H' w _ J.length (kK _) (r.eval ((s y iV).trans F));rw[nQ]at S;obtain⟨hn1,Z⟩:=h.now X O;obtain⟨Y,U⟩:=r.Bq X;rcases U with⟨f,k2⟩|⟨b,cur,C,c,f,k2,_⟩
  .subst k2;simp at k
  .obtain⟨cu,M,cap,z,A,I,R⟩:=Z b f;obtain⟨p,m⟩:=r.VP (P:=prog) X f M S N;obtain⟨_,hu,L,_⟩:=kM.ok t _ o;have hzz:=lC L w;have W:Nat.min J.length l=J.length:=AX hyl;have hmin':min J.length l=J.length:=AX hyl;refine⟨.int .i64 (J.length:Nat),_,B,?_,m,by rw[nM];exact⟨O,rfl⟩⟩;simp[execOp,resolve,invoke,builtin,Builtin.copy_,z,lu hu,V,W,hmin',hzz,v,p,goInt]
def PF{bytes:Nat}{l:Nat}(o:kM.ti t=some (.sl e (es+1) bytes ea))(d:xG e=some z)(j:kv T x=some (.own g (es+1) len (.part off l)))(u:H g=some (.own e (es+1) G))(Z:len=G.length)(m:0<l)(S:off+l<=len):
 kE prog E nt ops ⟨none,.call {callee:=.builtin .clear,args:= #[x],argTypes:= #[t]},ty,pos,af,gd⟩ T H [g] ⟨.mz [],[(g,.own e (es+1) (G.take off++(List.replicate l z++G.drop (off+l))))]⟩:=
 oC O λB T' H' a w r s D k=>by
  subst Z;have X:H' g=some (.own e (es+1) G):=(D g ki).trans u;have h:=Fv (r.eval ((s x iV).trans j));obtain⟨_,hu,hte,i,N,z1,z2,C,J,I⟩:=kM.ok t _ o;obtain⟨i',zv',y1,y2,Y⟩:=tz d;rw[z1]at y1;injection y1 with y1;subst y1
  rw[z2]at y2;injection y2 with y2;subst y2
  have V:=vY (U:=kI E B H') (w:=w) (Y _ _) (by rw[I];omega) l;rw[I]at V;obtain⟨hn1,W⟩:=h.now X O;obtain⟨L,K⟩:=r.Bq X;rcases K with⟨f,k2⟩|⟨b,cur,v,c,f,k2,_⟩
  .subst k2;simp at S;omega
  .obtain⟨cu,M,cap,y,A,F,R⟩:=W b f;obtain⟨q,p⟩:=r.VP (P:=prog) (zs:=List.replicate l z) (off:=off) X f M V (by simpa using S);rw[pj]at p;obtain⟨n,rfl⟩:∃n,l=n+1:=⟨l- 1,by omega⟩;have hzc:(Builtin.zeroCells N.cells (n+1)).toList=(madeCells N.cells ((n+1)*(es+1))).toList:=by rw[<-I];rfl
   refine⟨.tuple #[],_,B,?_,p,by rw[mW];exact⟨[],rfl,by simp[oe]⟩⟩;simp[execOp,resolve,invoke,builtin,Builtin.clear_,y,lu hu,zeroValue,typeInfo,z1,z2,hzc,q]
def PE{tx:TypeId}{bytes:Nat}{m:Nat}(u:lK nt d=true)(y:kM.ti t=some (.sl e (es+1) bytes ea))(N:xG e=some z)(p:kv T s=some (.own g (es+1) len .row))(D:H g=some (.own e (es+1) G))(hln:len=G.length)
 (htx:prog.underlying tx=some (.int kn)) (K:kv T x=some (.v (.int k (m:Nat)))) (hln':len'=len+m) (hlen:(len+m)*bytes<=140737488355328) (hlen2:len+m<=4611686018427387904):
 kE prog E nt ops ⟨d,.call {callee:=.builtin .append,args:= #[s,x],argTypes:= #[t,tx]},ty,pos,af,gd⟩ T H [g] ⟨.own g (es+1) len' .row,[(g,.own e (es+1) (G++List.replicate m z))]⟩:=
 oC u λB T' H' a w r C I S=>by
  subst hln hln';have hg':H' g=some (.own e (es+1) G):=(I g ki).trans D;have h:=Fv (r.eval ((C s iV).trans p));have hev:=r.od ((C x iV).trans K);obtain⟨_,hu,hte,i,zv,z1,z2,z3,z4,z5⟩:=kM.ok t _ y;obtain⟨i',zv',y1,y2,y3⟩:=tz N;rw[z1]at y1;injection y1 with y1;subst y1
  rw[z2]at y2;injection y2 with y2;subst y2
  have V:=vY (U:=kI E B H') (w:=w) (y3 _ _) jB m;rw[z5]at V;have hml:=lG V;rw[pj]at hml;have hzc:∀n,Builtin.zeroCells zv.cells n=madeCells zv.cells (n*(es+1)):=λn=>fC;obtain⟨hn1,hn2⟩:=h.now hg' O;obtain⟨hpos,hbox⟩:=r.Bq hg';obtain⟨A,cap,hsv,hcap,hcm⟩:=N5 r h hg' O;have hwr:IntKind.i64.wrap (m:Int)=m:=by rw[Ka];omega
  have hneg:¬((m:Int)<0):=eY
  have hmb:m*bytes<=140737488355328:=by have:m*bytes<=(G.length+m)*bytes:=mH _ kh;omega
  have h48:¬(281474976710656<(m:Int)*(i.bytes:Int)):=by
   rw[z4,<-QO];omega
  by_cases hm0:m=0
  .subst hm0
   have L:(Builtin.append_ #[t,tx] ty #[.slice A G.length cap,.int k (0:Nat)]).run prog w= .ok (.slice A G.length cap) w:=by
    cases A<;>simp[Builtin.append_,lu hu,lu htx,sizeOf,typeInfo,zeroValue,z1,z2,asInt,asIntOf,hcap,storeCells,show IntKind.i64.wrap 0=0 from by rw[Ka];omega]
   refine⟨.slice A G.length cap,w,B,by simp only[execOp,resolve,invoke,builtin,Qz,nc,AJ,hsv,hev,Sem.run_bind,Sem.run_pure,Result.andThen_ok,L],?_,?_⟩
   .rw[Zo,oT];have:nA H' [(g,Bx.own e (es+1) G)]=H':=rC hg';rw[this];exact r
   .rw[Zo,oT];have:nA H' [(g,Bx.own e (es+1) G)]=H':=rC hg';simp only[this];rw[vA,<-hsv];exact Fw h
  have Z:G.length<(G++List.replicate m z).length:=fy;have hel:(G++List.replicate m z).length=G.length+m:=e1
  have oY:∀(v:Value) (w':World),(Builtin.append_ #[t,tx] ty #[.slice A G.length cap,.int k (m:Nat)]).run prog w= .ok v w'->(execOp a.eval ⟨d,.call {callee:=.builtin .append,args:= #[s,x],argTypes:= #[t,tx]},ty,pos,af,gd⟩).run prog w= .ok (.value v) w':=λv w' L=>by simp only[execOp,resolve,invoke,builtin,Qz,nc,AJ,hsv,hev,Sem.run_bind,Sem.run_pure,Result.andThen_ok,L]
  have hcmax:∀c,grownCap w (G.length+m) c e<=maxLen:=λc=>DK w _ c e jp
  have fresh:∀(olds:List Value),cap<G.length+m->ov (kI E B H') w (es+1) G B0 H0 olds->(Builtin.firstCells i.size G.length (.slice A G.length cap)).run prog w.drew= .ok olds.toArray w.drew->
   ∃v w' B',(execOp a.eval ⟨d,.call {callee:=.builtin .append,args:= #[s,x],argTypes:= #[t,tx]},ty,pos,af,gd⟩).run prog w= .ok (.value v) w'/\mg E nt B' T' (l9 H' g (.own e (es+1) (G++List.replicate m z))) a w'/\rQ w' B' (l9 H' g (.own e (es+1) (G++List.replicate m z))) g (es+1) (G.length+m) .row v:=by
   intro olds F hO hold;have hol:=lG hO;have L:=Zn (P:=prog) w t tx ty e i zv k kn hu htx z1 z2 A G.length cap olds hold m kh (by rw[z3];omega) F kh (by rw[z4];omega) (Bb kh (by rw[z4];exact hlen));have hge:=DJ w (G.length+m) cap e
   have hsz:(olds.toArray++Builtin.zeroCells zv.cells m++Builtin.zeroCells zv.cells (grownCap w (G.length+m) cap e-(G.length+m))).size=grownCap w (G.length+m) cap e*(es+1):=by
    simp only[xo,xn,GU,z5,hol,<-lZ]
    congr 1;omega
   have hreg:=r.adX (J:=G++List.replicate m z) (c':=olds++(madeCells zv.cells (m*(es+1))).toList) hg' Z hsz (by rw[hel];exact hge) (hcmax cap) (λo W=>by
    rw[hel,lZ,<-hol,<-hml,<-lA]at W;rw[AI (by simp[hzc]at W⊢;omega),hzc];by_cases ho':o<olds.length
    .rw[AI (by simpa using ho'),pF ho'];simp
    .rw[Q6 jY,o7 kh];simp) (oi hO V)
   refine⟨_,_,_,oY _ _ L,hreg,⟨e,G++List.replicate m z,kB _ _ _,yd hel.symm,rfl,λ_=>⟨λh=>?_,λb hb=>?_⟩⟩⟩
   .rw[nq]at h;cases h
   .rw[nq]at hb;injection hb with hb;subst hb
    exact ew
  have main:∃v w' B',(execOp a.eval ⟨d,.call {callee:=.builtin .append,args:= #[s,x],argTypes:= #[t,tx]},ty,pos,af,gd⟩).run prog w= .ok (.value v) w'/\mg E nt B' T' (l9 H' g (.own e (es+1) (G++List.replicate m z))) a w'/\rQ w' B' (l9 H' g (.own e (es+1) (G++List.replicate m z))) g (es+1) (G.length+m) .row v:=by
   rcases hbox with⟨l,k2⟩|⟨b,cur,cp,c,l,k2,k3,X,k5,k6,k7,k8,k9⟩
   .subst k2;have:=hn1 l;rw[hsv]at this;injection this with R M e3;subst R e3;exact ez
   .obtain⟨cu,m1,Y,m2,m3,m4,m5⟩:=hn2 b l;rw[k2]at m1;injection m1 with m1;injection m1 with m1 _ _;subst m1
    rw[hsv]at m2;injection m2 with R M e3;subst R e3;have hcl:=lG k7;by_cases hroom:G.length+m<=cap
    .have hfit:G.length*(es+1)+(madeCells zv.cells (m*(es+1))).toList.length<=cur.size:=by rw[hml,m5,<-lZ];exact mH _ hroom
     have hst:=oM (P:=prog) w b (G.length*(es+1)) (madeCells zv.cells (m*(es+1))).toList k2 hfit (vR (es+1) _ V);have hns:¬(m*(es+1)=0):=Nat.mul_ne_zero hm0 (Nat.succ_ne_zero es)
     have L:(Builtin.append_ #[t,tx] ty #[.slice (some ⟨b,0,none⟩) G.length cap,.int k (m:Nat)]).run prog w= .ok (.slice (some ⟨b,0,none⟩) (G.length+m) cap) (mw w b (G.length*(es+1)) (madeCells zv.cells (m*(es+1))).toList.toArray):=by have ha:=ss b 0 (G.length*(es+1));rw[oa]at ha;simp[Builtin.append_,lu hu,lu htx,sizeOf,typeInfo,zeroValue,z1,z2,z3,asInt,asIntOf,hwr,hneg,h48,hroom,hm0,hzc,ha,hst];exact λh=>absurd h hns
     have hput:=mB (off:=G.length*(es+1)) (cs:=(madeCells zv.cells (m*(es+1))).toList.toArray) k2;have hsp:(lY cur (G.length*(es+1)) (madeCells zv.cells (m*(es+1))).toList.toArray).size=cur.size:=oL _ _ _ iT
     have hrm:=r.VQ (J:=G++List.replicate m z) (c':=c++(madeCells zv.cells (m*(es+1))).toList) hg' l k2 m5 kh (by rw[hel];exact hroom) m4 oZ hput hsp (λo W=>by
      rw[hel,lZ]at W;rw[mn iT];by_cases f:o<G.length*(es+1)
      .rw[ku kh,k6 o f,pF kh]
      .rw[kx (by rw[xn];omega),o7 kh,hcl];simp) (oi k7 V)
     refine⟨_,_,B,oY _ _ L,hrm.1,⟨e,G++List.replicate m z,kB _ _ _,yd hel.symm,rfl,λ_=>⟨λh=>?_,λb' hb'=>?_⟩⟩⟩
     .rw[l]at h;cases h
     .rw[l]at hb';injection hb' with hb';subst hb'
      exact eA
    .refine fresh c kh k7 ?_;rw[z3];exact xm (P:=prog) w.drew (es+1) G.length ⟨b,0,none⟩ G.length cap c (by rw[hcl]) ja
  obtain⟨v,w',B',f,j,q⟩:=main;exact⟨v,w',B',f,j,Fw q⟩
theorem V6{bytes:Nat}{l:List (Nat×Operand)}(o:lK nt d=true)(q:kM.ti t=some (.sl e (es+1) bytes ea))(m:xG e=some z)(C:pL T l=some vs)(W:um vs (List.replicate (len+1) z)=some out)(u:H g=none)
 (hdt:∀H',BL H' out out) (M:out.all (λx=>Nat.beq (lE x) (es+1))=true) (Y:out.length=len+1) (hsmall:Nat.ble ((len+1)*(es+1)) 16777216=true):
 kE prog E nt ops ⟨d,.buildSlice t (len+1) l.toArray,ty,pos,af,gd⟩ T H [] ⟨.own g (es+1) (len+1) .row,[(g,.own e (es+1) out)]⟩:=
 oC o λB T' H' a w r s D hw'=>by
  have c:H' g=none:=(hw' (g,.own e (es+1) out) ki).trans u;obtain⟨_,hu,hte,i,N,z1,z2,K,z4,L⟩:=kM.ok t _ q;obtain⟨i',zv',y1,y2,y3⟩:=tz m;rw[z1]at y1;injection y1 with y1;subst y1
  rw[z2]at y2;injection y2 with y2;subst y2
  have hzr:=y3 (kI E B H') w;have hzl:lE z=es+1:=by rw[<-nJ hzr];simpa using L
  have V:=Ku (nr (nK.refl _ w) (λ_ _ _ h=>h) _ _ ⟨λg b h _=>by simp[H0,pH]at h,λg h=>by simp[H0,pH]at h,λt n len A cap h=>by obtain⟨e,k,h,_⟩:=h;simp[H0]at h,λg n len k v h=>by obtain⟨e,G,h,_⟩:=h;simp[H0]at h,λg h=>by simp[H0]at h⟩ (vY (U:=kI E B H') (w:=w) hzr (by rw[L];omega) (len+1)):ov (kI E B H') w N.cells.size (List.replicate (len+1) z) B H' _);have hv':=vU C (T':=T') (λp X=>s p.2 iR)
  have hsum:∀k i,te ((List.replicate k z).take i)=min i k*(es+1):=by
   intro k
   induction k with
   |zero=>intro i;simp[te]
   |succ k J=>
    intro i;cases i with
    |zero=>simp[te]
    |succ i=>simp only[List.replicate_succ,List.take_succ_cons,te,J,hzl];rw[Nat.succ_min_succ,sb];omega
  obtain⟨cells',I,F⟩:=Cv r l vs _ out _ hv' W (place:=λi=>some (i*(es+1),es+1)) (λi y h=>by have Z:=(mS.1 h).1;simp at Z;rw[GQ,kx Z]at h;injection h with h;subst h;rw[hsum,hzl];have:min i (len+1)=i:=eY;rw[this]) V
  have hszl:∀x∈out,lE x=es+1:=λx j=>mi (mq.1 M x j);have hrdu:=(hdt H').rdu (Bg F hszl);have S:=lG hrdu;have hsm:(len+1)*(es+1)<=16777216:=A8 hsmall;have hlm:len+1<=(len+1)*(es+1):=Zz _ (qh es);obtain⟨f,k2⟩:=r.aeP (e:=e) c (qh es) hrdu (by rw[Y];unfold maxLen;omega);rw[Y]at k2
  have hbs:=Q0 (P:=prog) w t e (len+1) (l.map λp=>(p.1,a.eval p.2)).toArray cells'.toArray i N hu z1 z2 (by rw[K];omega) (by rw[K];have:=Nat.mul_pos (qh len) (qh es);omega) (by
   rw[K];have:=rS _ _ _ I;rw[zd]at this;have R:madeCells N.cells ((len+1)*N.cells.size)=(Array.range ((len+1)*(es+1))).map (N.cells[· %N.cells.size]!):=by rw[<-L];rfl
   rw[R]at this;simpa using this)
  refine⟨_,_,_,?_,f,Fw k2⟩;exact cv
end
def IZ(X:kY)(n:Nat)(src:AV)(J:List AV):Prop:=∀E B H w v m,(∀l xb,X l=some xb->yp (kI E B H) w xb)->m<=J.length->qJ (kI E B H) w B H src v->aoa prog E B H w n v J m
def ajI(h:Ic prog n src J):IZ X n src J:=λE B H w v m _ T y=>h E B H w v m T y
def aaF{o c k m:Nat}(A:X l=some (.my e n (some (b,o)) cap G))(U:off=(o+k)*n)(x:k+m<=G.length):IZ X n (.raw lb p (.slice (some ⟨b,off,none⟩) m c)) ((G.drop k).take m):=λE B H w v j r i y=>by
 obtain⟨_,rfl⟩:=qI.1 y;obtain⟨C,a,d,cur,F,f,k2,k3,D⟩:=r l _ A;have g:=lG D;have T:((G.drop k).take m).length=m:=fQ;rw[T]at i;have s:=uY k D kh;have t:=qK j s;have R:k*n+m*n<=G.length*n:=fR;have u:G.length*n<=cap*n:=mH _ a;have S:(o+cap)*n=o*n+cap*n:=lZ _ _ _;have Y:(o+k)*n=o*n+k*n:=lZ _ _ _;have Z:j*n<=m*n:=mH _ i;refine⟨by simp[Builtin.lenOf,T],(F.drop (k*n)).take (j*n),?_,by rw[QS,AX i];exact t⟩;have V:((F.drop (k*n)).take (j*n)).length=j*n:=fQ;refine xm (P:=prog) w n j ⟨b,off,none⟩ m c _ V ?_
 have W:mQ w b off ((F.drop (k*n)).take (j*n)).length=some ((F.drop (k*n)).take (j*n)).toArray:=yW f kh λq z=>by rw[show off+q=o*n+(k*n+q) by omega,k3 _ kh,yP kh,wy]
 exact pg W
section
def mg.amR(r:mg E nt B T H a w){X:kY}{l:nz}{n b o cap i:Nat}{e:TypeId}{G zs:List AV}{news:List Value}(t:H 4999=some (.ext (Sg X)))(s:X l=some (.my e n (some (b,o)) cap G))(p:ov (kI E B H) w n zs B0 H0 news)(hi:i<=G.length)(z:i+zs.length<=cap):
 (storeCells ⟨b,(o+i)*n,none⟩ news).run prog w= .ok () (mw w b ((o+i)*n) news.toArray)/\mg E nt B T (l9 H 4999 (.ext (Sg (X.put l (.my e n (some (b,o)) cap (G.take i++(zs++G.drop (i+zs.length)))))))) a (mw w b ((o+i)*n) news.toArray):=by
 obtain⟨u,d,f,cur,c,g,k2,k3,v⟩:=r.El t s;have Y:=lG p;have S:=lG v;have j:G.length*n<=cap*n:=mH _ d;have R:(o+cap)*n=o*n+cap*n:=lZ _ _ _;have U:(o+i)*n=o*n+i*n:=lZ _ _ _;have W:i*n+zs.length*n<=cap*n:=fT;have K:i*n<=G.length*n:=mH _ hi;have N:(o+i)*n+news.length<=cur.size:=eY;have C:=mB (off:=(o+i)*n) (cs:=news.toArray) g;have J:(lY cur ((o+i)*n) news.toArray).size=cur.size:=oL _ _ _ jT
 have Z:ov (kI E B H) w n (G.drop (i+zs.length)) B0 H0 (c.drop ((i+zs.length)*n)):=by
  by_cases y:i+zs.length<=G.length
  .exact uY _ v y
  .have L:G.length*n<=(i+zs.length)*n:=mH _ kh;rw[ub kh,ub kh];simp[ov]
 have F:=oi (qK i v) (oi p Z);have D:=lG F;refine⟨oM (P:=prog) w b ((o+i)*n) news g N (vR n _ p),r.U2 t s O O oZ (.inl ⟨cur,_,e,(0,0),g,C,J⟩) λx=>?_⟩;refine⟨u,by simp;omega,f,_,_,C,by rw[J];exact k2,λq m=>?_,nr x (λ_ _ _ h=>h) _ _ (qt.nj _ _) F⟩;rw[<-D]at m;rw[mn jT];have L:(i+zs.length)*n=i*n+news.length:=by rw[lZ,Y]
 have M:(c.take (i*n)).length=i*n:=fA;by_cases k:q<i*n
 .rw[ku kh,k3 q kh,pF kh,yg,kx k]
 .rw[o7 kh,M];by_cases A:q<i*n+news.length
  .rw[kx jY,pF kh];simp only[AZ]
   congr 1;omega
  .have I:q<G.length*n:=by
    simp only[lA,q8,M]at m;omega
   rw[ku jY,k3 q I,o7 kh,wy,L]
   congr 1
   omega
def mg.ag2(r:mg E nt B T H a w){X:kY}{l:nz}{n b o cap:Nat}{e:TypeId}{G:List AV}{off:Nat}{news:List Value}(t:H 4999=some (.ext (Sg X)))(j:X l=some (.my e n (some (b,o)) cap G))(u:∀v∈news,v.oneCell'=true)(U:(o+G.length)*n<=off)(z:off+news.length<=(o+cap)*n):
 (storeCells ⟨b,off,none⟩ news).run prog w= .ok () (mw w b off news.toArray)/\mg E nt B T H a (mw w b off news.toArray):=by
 obtain⟨k,d,f,cur,c,g,k2,k3,m⟩:=r.El t j;have S:(o+G.length)*n=o*n+G.length*n:=lZ _ _ _;have N:off+news.length<=cur.size:=eY;have s:=mB (off:=off) (cs:=news.toArray) g;have J:(lY cur off news.toArray).size=cur.size:=oL _ _ _ jT;refine⟨oM (P:=prog) w b off news g N u,?_⟩
 have h:=r.U2 (xb':=.my e n (some (b,o)) cap G) t j O O oZ (.inl ⟨cur,_,e,(0,0),g,s,J⟩) λp=>
  ⟨k,d,f,_,c,s,by rw[J];exact k2,λq i=>by rw[mn jT,ku kh];exact k3 q i,nr p (λ_ _ _ h=>h) _ _ (qt.nj _ _) m⟩
 rw[ahQ j,rC t]at h;exact h
end
section
def SZ{bytes:Nat}{o m c:Nat}(q:kM.ti t=some (.sl e (es+1) bytes ea))(d:lB prog e z)(j:kv T x=some (.raw lb p (.slice (some ⟨b,off,none⟩) m c)))(k:H 4999=some (.ext (Sg X)))(g:X l=some (.my e (es+1) (some (b,o)) cap G))(u:0<m)(W:(o+G.length)*(es+1)<=off)(A:off+m*(es+1)<=(o+cap)*(es+1)):
 kE prog E nt ops ⟨none,.call {callee:=.builtin .clear,args:= #[x],argTypes:= #[t]},ty,pos,af,gd⟩ T H [4999] ⟨.mz [],[(4999,.ext (Sg X))]⟩:=
 oC O λB T' H' a w r s D f=>by
  have C:H' 4999=some (.ext (Sg X)):=(D 4999 ki).trans k;have h:=r.pe ((s x iV).trans j);obtain⟨_,hu,Y,i,N,z1,z2,F,J,I⟩:=kM.ok t _ q;obtain⟨P,S,y1,y2,L⟩:=d;rw[z1]at y1;injection y1 with y1;subst y1
  rw[z2]at y2;injection y2 with y2;subst y2
  have V:=vY (U:=kI E B H') (w:=w) (L _ _) (by rw[I];omega) m;rw[I]at V;have Z:=lG V;rw[pj]at Z;obtain⟨y,v⟩:=r.ag2 (off:=off) (news:=(madeCells N.cells (m*(es+1))).toList) C g (vR _ _ V) W (by rw[Z];exact A);obtain⟨n,rfl⟩:∃n,m=n+1:=⟨m- 1,by omega⟩;have M:(Builtin.zeroCells N.cells (n+1)).toList=(madeCells N.cells ((n+1)*(es+1))).toList:=by rw[<-I];rfl
  have K:nA H' [(4999,Bx.ext (Sg X))]=H':=rC C;refine⟨.tuple #[],_,B,?_,by rw[K];exact v,by rw[mW];exact⟨[],rfl,by simp[oe]⟩⟩;simp[execOp,resolve,invoke,builtin,Builtin.clear_,h,lu hu,zeroValue,typeInfo,z1,z2,M,y]
def PM{bytes:Nat}{A:Option Addr}(o:kM.ti t=some (.sl e es bytes ea))(j:kv T x=some (.raw l p (.slice A len cap)))(F:kv T y=some (.v (.slice none 0 0)))(n:lK nt d=true):kE prog E nt ops ⟨d,.binOp .eql t x y t',ty,pos,af,gd⟩ T H [] ⟨kA A.isNone,[]⟩:=
 lO n λB T' H' a w r s D=>by have b:=r.pe ((s x js).trans j);have c:=r.od ((s y js).trans F);have I:=AU (P:=prog) w t e A len cap 0 0 (kM.ok t _ o).2.1;exact⟨.bool A.isNone,by simp[execOp,b,c,eqGuard,I],by rw[kA,nM];exact⟨O,rfl⟩⟩
theorem adz{A Y j:TypeId}{z Z K k m c x o:Nat}{J:TypeId}(d:∀w,(underlying A).run prog w= .ok (.slice j) w)(f:(sizeOf j).run prog w= .ok n w)(g:z≠b)(M:w.shape? z=some (J,k+1))(r:w.shape? b=some (e,x))(q:w.frozen? ⟨b,off,none⟩=false)(s:w.frozen? ⟨b,x,none⟩=false):
 (Extern.SlicesOverlaps.overlaps #[A,A] #[Y] #[.slice (some ⟨z,Z,none⟩) o K,.slice (some ⟨b,off,none⟩) m c]).run prog w= .ok (.bool false) w:=by
 have p:(z !=b)=true:=fU;have y:(z==b)=false:=fU
 change Sem.run prog (α:=Value) (do
  let some t:=(#[A,A]:Array TypeId)[0]? |stuck "slices.overlaps: no parameter types"
  let .slice elem←underlying t|stuck "slices.overlaps: slice type expected"
  let size<-sizeOf elem
  match(some (⟨z,Z,none⟩:Addr)),(some (⟨b,off,none⟩:Addr))with
  |some a,some b=>
   if o=0∨m=0∨size=0 then pure (Value.bool false)
   else if a.block !=b.block&&(<-frozen a)&&(<-frozen b)then unsupported .addressObserved
   else do
    if a.block !=b.block then do
     noView a;noView b
     if<-mayBeOne a b then return Value.bool ((<-choose _)==1)
    pure (Value.bool (a.block==b.block&&a.off<b.off+m*size&&b.off<a.off+o*size))
  |_,_=>pure (Value.bool false)) w=_
 by_cases i:o=0∨m=0∨n=0
 .simp[d,f,i]
 .cases l:w.frozen? ⟨z,Z,none⟩<;>cases v:w.frozen? ⟨z,k+1,none⟩<;>cases x<;>simp[d,f,i,p,y,frozen,noView,viewAt,mayBeOne,stringish,shape,Sem.run,M,r,q,s,l,v]
def ah3{tok:Option Nat}{o m c:Nat}(tS tR:TypeId){bytes:Nat}{S:Bool}(D:Tryz.prog.funcs[292]?=some fn)(hbn:fn.body.isNone=true)(hnm:(fn.name== "runtime.NumGoroutine")=false)(hfn:Extern.findNext fn=none)(hex:Extern.find fn=some (Extern.SlicesOverlaps.overlaps #[tS,tS] #[tR]))(t:kM.ti tS=some (.sl e n bytes S))(hn0:0<n)
 (q:kv T x=some (.sl tok n (z::zs))) (I:kv T y=some (.raw lb p (.slice (some ⟨b,off,none⟩) m c))) (L:H 4999=some (.ext (Sg X))) (j:X l=some (.my e n (some (b,o)) cap G)) (v:0<cap) (s:lK nt d=true):
 kE prog E nt ops ⟨d,.call {callee:=.value (.func 292),args:= #[x,y],argTypes:=ats},ty,pos,af,gd⟩ T H [4999] ⟨kA false,[]⟩:=
 lO s λB T' H' a w r u F=>by
  have hX':H' 4999=some (.ext (Sg X)):=(F 4999 ki).trans L;have f:=ml ki (r.eval ((u x iV).trans q)) O;have g:=r.pe ((u y iV).trans I);simp only[Rd]at f;obtain⟨A,c1,P,J,U,e4,_⟩:=f;injection P with P;obtain⟨Y,off1,cc,rfl,i,k2,k3⟩:=e4 ki;obtain⟨_,hX0,W,rfl,hff,_⟩:=r.nB hX';obtain⟨m0,R,m2,cur,c2,Z,m4,m5,m6⟩:=r.El hX' j;have hbu:kI E B H' b off1:=.inr (.inl ⟨l,by rw[<-hff l,j];rfl⟩);have V:Y≠b:=λe=>k2 off1 (kK _) (by have:1*1<=(z::zs).length*n:=QM ki hn0;omega) (e▸hbu);have hrow:=i;unfold mQ at hrow;split at hrow
  .rename_i cs t1 fr hb1;obtain⟨N,M,_⟩:=o3 hrow;refine⟨.bool false,?_,by rw[kA,nM];exact⟨O,rfl⟩⟩
   have hcs:0<cs.size:=by have:1*1<=(z::zs).length*n:=QM ki hn0;omega
   have hcu:0<cur.size:=by
    have:1*1<=cap*n:=QM v hn0;rw[lZ]at m4;omega
   obtain⟨lz,hlz⟩:∃lz,lz=(z::zs).length:=⟨_,rfl⟩;rw[<-hlz]at P
   have hcall:(callFunc 292 #[.slice (some ⟨Y,off1,none⟩) lz c1,.slice (some ⟨b,off,none⟩) m c]).run prog w= .ok (.value (.bool false)) w:=by
    rw[run_callFunc_extern D hnm hbn hfn hex];have K:=lC (kM.ok tS _ t).2.2.1 w;have hu:=lu (kM.ok tS _ t).2.1 w;have hfb:w.frozen? ⟨b,off,none⟩=false:=by simp[World.frozen?,Z]
    have hfe:w.frozen? ⟨b,cur.size,none⟩=false:=by simp[World.frozen?,Z]
    have hsb:w.shape? b=some (e,cur.size):=by simp[World.shape?,Z]
    have hsa:w.shape? Y=some (t1,cs.size):=by simp[World.shape?,hb1]
    obtain⟨k,C⟩:∃k,cs.size=k+1:=⟨cs.size- 1,by omega⟩;rw[C]at hsa;rw[adz (λw=>lu (kM.ok tS _ t).2.1 w) K V hsa hsb hfb hfe];rfl
   have ef:a.eval (.func 292)= .func (.func 292) #[] #[]:=rfl;simp[execOp,resolve,invoke,Deferred.ofValue,ef,P,g,hcall]
  .cases hrow
end
def P7(k:List Int)(cs:List kH)(s:kH->kH->Int)(j:Nat)(h:j<k.length)(y:oF k 0 k=oF k j (k.drop j))(e:k[j]<1∨256<=k[j]∨lF k k[j]≠(j:Int)):sY s k cs=false:=by
 unfold sY;rw[y,Eb k k j h];rcases e with e|e|e
 .rw[show decide (1<=k[j])=false from la kh];simp
 .rw[show decide (k[j]<256)=false from la kh];simp
 .rw[show decide (lF k k[j]=(j:Int))=false from la e];simp
def air(k:List Int)(j:Nat)(h:j<k.length)(y:oF k 0 k=oF k j (k.drop j))(P:¬k[j]<1)(a:¬256<=k[j])(R:lF k k[j]=(j:Int)):oF k 0 k=oF k (j+1) (k.drop (j+1)):=by rw[y,Eb k k j h,show decide (1<=k[j])=true from kW kh,show decide (k[j]<256)=true from kW kh,show decide (lF k k[j]=(j:Int))=true from kW R];simp
def WG(k:List Int)(cs:List kH)(s:kH->kH->Int)(e:k.length<2∨4<k.length∨cs.length+1≠k.length):sY s k cs=false:=by
 unfold sY;rcases e with e|e|e
 .rw[show decide (2<=k.length)=false from la kh];simp
 .rw[show decide (k.length<=4)=false from la kh];simp
 .rw[show decide (cs.length+1=k.length)=false from la e];simp
def alI(k:List Int)(cs:List kH)(s:kH->kH->Int)(b:2<=k.length)(A:k.length<=4)(u:cs.length+1=k.length)(w:oF k 0 k=true):sY s k cs=nu s none cs:=by
 unfold sY;rw[kW b,kW A,kW u,w];simp
def adG(s:kH->kH->Int)(cs:List kH)(j:Nat)(h:j<cs.length)(y:nu s none cs=nu s (zO cs j) (cs.drop j))(e:cs[j].ok=false):nu s none cs=false:=by
 cases j with
 |zero=>rw[y,D4 s cs h,e];rfl
 |succ m=>rw[y,Ag s cs m h,e];rfl
def adF(s:kH->kH->Int)(cs:List kH)(m:Nat)(h:m+1<cs.length)(y:nu s none cs=nu s (zO cs (m+1)) (cs.drop (m+1)))(e:0<=s cs[m] cs[m+1]):nu s none cs=false:=by rw[y,Ag s cs m h,show decide (s cs[m] cs[m+1]<0)=false from la kh];simp
def adE(s:kH->kH->Int)(cs:List kH)(h:0<cs.length)(y:nu s none cs=nu s (zO cs 0) (cs.drop 0))(e:cs[0].ok=true):nu s none cs=nu s (zO cs 1) (cs.drop 1):=by
 rw[y,D4 s cs h,e];simp
def adD(s:kH->kH->Int)(cs:List kH)(m:Nat)(h:m+1<cs.length)(y:nu s none cs=nu s (zO cs (m+1)) (cs.drop (m+1)))(e:cs[m+1].ok=true)(c:¬0<=s cs[m] cs[m+1]):nu s none cs=nu s (zO cs (m+2)) (cs.drop (m+2)):=by rw[y,Ag s cs m h,e,show decide (s cs[m] cs[m+1]<0)=true from kW kh];simp
def s5(l:List lq):Int:=(l.map lq.size).sum
def nN(k:kH)(l:List lq):Nat:=l.countP λe=>decide (e.key.lV<k.lV)
def uv(l:List lq):Prop:=l.Pairwise λa b=>a.key.lV<b.key.lV
structure Bf(l:List lq):Prop where
 ok:∀m∈l,m.ok=true
 DV:uv l
def rO(k:kH)(l:List lq):Option lq:=l.find? λe=>decide (e.key=k)
def aln(m:lq)(o:Option lq):lq:=match o with
 |some x=>nZ x m
 |none=>m
def Ee(l:List lq)(m:lq):List lq:=l.filter (λe=>decide (e.key.lV<m.key.lV))++([m]++l.filter (λe=>decide (m.key.lV<e.key.lV)))
def Ef(l:List lq)(m:lq):List lq:=Ee l (aln m (rO m.key l))
def ya(l ms:List lq):List lq:=ms.foldl Ef l
def Qk(o n:lq):(nZ o n).key=n.key:=by
 unfold nZ;split
 .rfl
 .split
  .rfl
  .split<;>rfl
def Ta(m:lq)(o:Option lq):(aln m o).key=m.key:=by
 cases o with
 |none=>rfl
 |some x=>exact Qk x m
def AF(k:kH)(l:List lq):nN k l<=l.length:=H6
def Dd(k:kH)(e:lq)(l:List lq):nN k (e::l)=nN k l+if e.key.lV<k.lV then 1 else 0:=by
 unfold nN;rw[Kh];simp
def uv.tail{e:lq}{l:List lq}(h:uv (e::l)):uv l:=(GH.1 h).2
def uv.head{e:lq}{l:List lq}(h:uv (e::l)):∀b∈l,e.key.lV<b.key.lV:=(GH.1 h).1
def H4{k:kH}{l:List lq}(h:∀b∈l,k.lV<=b.key.lV):nN k l=0:=by
 unfold nN;rw[Zt];intro b hb;have:=h b hb;simp;omega
def L7{k:kH}{l:List lq}(h:uv l):∀i (hi:i<l.length),(i<nN k l↔l[i].key.lV<k.lV):=by
 induction l with
 |nil=>intro i hi;cases hi
 |cons e l y=>
  intro i hi;rw[Dd];by_cases c:e.key.lV<k.lV
  .rw[kx c];cases i with
   |zero=>simp[c]
   |succ i=>simpa using y h.tail i jz
  .rw[ku c];have d:nN k l=0:=H4 λb hb=>fI;rw[d];cases i with
   |zero=>simp;omega
   |succ i=>
    have D:i<l.length:=fJ;have:=h.head l[i] (ng D);simp;omega
def uv.lt{l:List lq}(h:uv l){i j:Nat}(hi:i<l.length)(k:j<l.length)(x:i<j):l[i].key.lV<l[j].key.lV:=Kg.1 h i j hi k x
def uv.inj{l:List lq}(h:uv l){a b:lq}(N:a∈l)(d:b∈l)(L:a.key.lV=b.key.lV):a=b:=by exact bH
def Dc{l:List lq}(h:uv l)(k:kH)(m:lq):rO k l=some m↔m∈l/\m.key=k:=by
 unfold rO;constructor
 .intro z;have A:=GG z;rw[nO]at A;exact⟨DB z,A⟩
 .rintro⟨T,rfl⟩;cases z:l.find? (λe=>decide (e.key=m.key))with
  |none=>
   rw[QR]at z;have:=z _ T;simp at this
  |some e=>
   have n:=DB z;have A:=GG z;rw[nO]at A;rw[h.inj n T (by rw[A])]
def L6{l:List lq}(h:uv l){k:kH}{i:Nat}(hi:i<l.length)(L:l[i].key=k):rO k l=some l[i]:=by
 rw[Dc h];exact⟨ng hi,L⟩
def ai0{l:List lq}(h:uv l){k:kH}{i:Nat}(hi:i<l.length)(L:l[i].key.lV=k.lV):nN k l=i:=by
 have a:=(L7 (k:=k) h i hi);have m:=AF k l;rcases GP (nN k l) i with c|c|c
 .have A:=(L7 (k:=k) h (nN k l) kh);have:=h.lt kh hi c;omega
 .exact c
 .omega
def Gb{l:List lq}(h:uv l){k:kH}(B:∀(hi:nN k l<l.length),l[nN k l].key≠k):rO k l=none:=by
 cases t:rO k l with
 |none=>rfl
 |some v=>
  rw[Dc h]at t;obtain⟨i,hi,L⟩:=vN.1 t.1;have:=ai0 h (k:=k) hi (by rw[L,t.2]);subst this;exact absurd (by rw[L,t.2]) (B hi)
def Y6{k:kH}{l:List lq}(h:uv l):l.filter (λe=>decide (e.key.lV<k.lV))=l.take (nN k l):=by
 induction l with
 |nil=>rfl
 |cons e l y=>
  rw[Dd];by_cases c:e.key.lV<k.lV
  .rw[kx c,Zs jK,Q2,y h.tail]
  .rw[ku c,DA jK];have d:nN k l=0:=H4 λb hb=>fI;rw[y h.tail,d];rfl
def TU{k:kH}{l:List lq}(h:∀b∈l,k.lV<b.key.lV):l.filter (λe=>decide (k.lV<e.key.lV))=l:=by
 rw[Zr];intro b hb;simpa using h b hb
def Y7{k:kH}{l:List lq}(h:uv l):l.filter (λe=>decide (k.lV<e.key.lV))=l.drop (nN k l+if(∃hi:nN k l<l.length,l[nN k l].key.lV=k.lV)then 1 else 0):=by
 induction l with
 |nil=>simp
 |cons e l y=>
  by_cases c:e.key.lV<k.lV
  .have P:nN k (e::l)=nN k l+1:=by rw[Dd,kx c]
   have i:(∃hi:nN k (e::l)<(e::l).length,(e::l)[nN k (e::l)].key.lV=k.lV)↔(∃hi:nN k l<l.length,l[nN k l].key.lV=k.lV):=by exact cI
   have K:=y h.tail;rw[DA jY,K];by_cases g:∃hi:nN k l<l.length,l[nN k l].key.lV=k.lV
   .rw[kx g,kx (i.2 g),P,show nN k l+1+1=(nN k l+1)+1 from rfl,DI]
   .rw[ku g,ku (λx=>g (i.1 x)),P,vA,vA,DI]
  .have j:nN k l=0:=H4 λb hb=>by have:=h.head b hb;omega
   have P:nN k (e::l)=0:=by rw[Dd,ku c,j]
   rw[P];by_cases d:e.key.lV=k.lV
   .rw[kx ⟨by simp[P],by simpa[P]using d⟩,DA jY,TU (λb hb=>by have:=h.head b hb;omega)];rfl
   .rw[ku (λ⟨_,f⟩=>d (by simpa[P]using f)),TU (λb hb=>by
     rcases mf.1 hb with rfl|hb
     .omega
     .have:=h.head b hb;omega)]
    rfl
def ai4{l:List lq}(h:uv l)(m:lq)(hi:nN m.key l<l.length)(L:l[nN m.key l].key=m.key):Ef l m=l.take (nN m.key l)++([nZ l[nN m.key l] m]++l.drop (nN m.key l+1)):=by
 unfold Ef Ee;rw[Ta,L6 h hi L,Y6 h,Y7 h,kx ⟨hi,by rw[L]⟩];rfl
def amf{l:List lq}(h:Bf l)(m:lq)(w:m.key.ok=true)(B:∀(hi:nN m.key l<l.length),l[nN m.key l].key≠m.key):Ef l m=l.take (nN m.key l)++([m]++l.drop (nN m.key l)):=by
 unfold Ef Ee;rw[Ta,Gb h.DV B,Y6 h.DV,Y7 h.DV,ku]
 .rfl
 .rintro⟨hi,b⟩;exact B hi ((La (lq.spec (h.ok _ (ng hi))).2.2.1 w).1 b)
def aeY{l:List lq}{m e:lq}:e∈Ee l m↔(e∈l/\e.key.lV≠m.key.lV)∨e=m:=by
 unfold Ee;simp only[rJ,tr,nO,s7];exact ba
def ado{l:List lq}(h:uv l)(m:lq):uv (Ee l m):=by
 unfold uv Ee;rw[Kf,Kf];refine⟨h.sublist Ke,⟨Zq ..,h.sublist Ke,λa N b hb=>?_⟩,λa N b hb=>?_⟩
 .rw[s7.1 N];simpa using(tr.1 hb).2
 .have c:a.key.lV<m.key.lV:=by simpa using(tr.1 N).2
  rcases rJ.1 hb with hb|hb
  .rw[s7.1 hb];exact c
  .have d:m.key.lV<b.key.lV:=by simpa using(tr.1 hb).2
   omega
def alS{l:List lq}(h:Bf l){m:lq}(T:m.ok=true):Bf (Ee l m):=by
 refine⟨λe L=>?_,ado h.DV m⟩;rcases aeY.1 L with⟨a,_⟩|rfl
 .exact h.ok e a
 .exact T
def aap(v:Vl)(n:BitVec 64):(D1 v n).ok=true:=F1 _
def lq.alr{k:Int}{s:BitVec 64}{R:kH}{v:Vl}{n:BitVec 64}(a:1<=k/\k<=3)(w:R.ok=true)(y:if k=1 then v.ok=true else v=Vl.zero)(B:k≠3->n=0#64):(⟨k,s,R,v,n⟩:lq).ok=true:=by
 unfold lq.ok;by_cases c:k=1
 .rw[kx c]at y;simp[c,w,y,B kh]
 .rw[ku c]at y;by_cases d:k=3
  .simp[d,w,y]
  .simp[c,d,w,y,B d,a.1,a.2]
def IN{o n:lq}(U:o.ok=true)(B:n.ok=true):(nZ o n).ok=true:=by
 have p:=lq.spec U;have J:=lq.spec B;unfold nZ;split
 .exact B
 .split
  .exact lq.alr ⟨by omega,by omega⟩ J.2.2.1 (by rw[kx O];exact aap _ _) (λ_=>rfl)
  .split
   .exact lq.alr ⟨by omega,by omega⟩ J.2.2.1 (by rw[kx O];exact F1 _) (λ_=>rfl)
   .exact lq.alr ⟨by omega,by omega⟩ J.2.2.1 (by rw[ku kh]) (λh=>absurd O h)
def aih{m:lq}(T:m.ok=true){o:Option lq}(U:∀x,o=some x->x.ok=true):(aln m o).ok=true:=by
 cases o with
 |none=>exact T
 |some x=>exact IN (U x O) T
def aiW{l:List lq}(h:Bf l)(k:kH):∀x,rO k l=some x->x.ok=true:=λx j=>h.ok _ ((Dc h.DV k x).1 j).1
def alT{l:List lq}(h:Bf l){m:lq}(T:m.ok=true):Bf (Ef l m):=alS h (aih T (aiW h _))
def afX:∀{l:List lq},Bf l->(∀m∈ms,m.ok=true)->Bf (ya l ms):=by
 induction ms with
 |nil=>intro l h _;exact h
 |cons m ms y=>intro l h T;exact y (alT h (T m ki)) (λx j=>T x (nV _ j))
def afW:Bf []:=⟨(λe h=>by cases h),List.Pairwise.nil⟩
def afU{l:List lq}(m:lq):(Ee l m).length<=l.length+1:=by
 unfold Ee
 have b:(l.filter (λe=>decide (e.key.lV<m.key.lV))).length+(l.filter (λe=>decide (m.key.lV<e.key.lV))).length<=l.length:=by
  induction l with
  |nil=>simp
  |cons e l y=>
   simp only[QP];split<;>split<;>simp_all<;>omega
 simp only[lA,List.length_singleton];omega
def ai3(l:List lq)(m:lq):(Ef l m).length<=l.length+1:=afU _
theorem CG:∀(ms:List lq) (l:List lq),(ya l ms).length<=l.length+ms.length
 | [],l=>by simp[ya]
 |m::ms,l=>by have a:=CG ms (Ef l m);have b:=ai3 l m;simp only[ya,List.foldl_cons,List.length_cons]at a⊢;omega
def TZ(a b:List lq):s5 (a++b)=s5 a+s5 b:=by simp[s5]
def OH(l:List lq)(j:Nat)(h:j<l.length):s5 (l.take (j+1))=s5 (l.take j)+l[j].size:=by
 rw[<-vM h,TZ];simp[s5]
def lq.size_le(m:lq):0<=m.size/\m.size<=35:=by
 unfold lq.size;cases h:m.ok with
 |false=>simp
 |true=>
  have o:=lq.spec h;have a:=kH.EA o.2.2.1;have b:=Vl.EA o.2.2.2.1;rw[kx O];split
  .omega
  .split<;>omega
theorem JB:∀(l:List lq),0<=s5 l/\s5 l<=35*(l.length:Int)
 | []=>fV
 |e::l=>by
  have a:=JB l;have b:=e.size_le;have k:s5 (e::l)=e.size+s5 l:=fV;rw[k];simp only[List.length_cons];omega
def OG(k:kH)(l:List lq):Bool:=match l[nN k l]? with
 |some e=>decide (e.key=k)
 |none=>false
def zM{k:kH}{l:List lq}(hi:nN k l<l.length):OG k l=decide (l[nN k l].key=k):=by
 unfold OG;rw[kQ hi]
def Db{k:kH}{l:List lq}(hi:¬nN k l<l.length):OG k l=false:=by
 unfold OG;rw[pN kh]
variable {name:String}{F:Array Field}
def VE(n:Nat)(h:(P.info? t).bind (λi=>(i.methods.find? (·.name==name)).map λm=>(m.path.toList.length,m.func))=some (0,some (f,false)))(c:P.underlying t=some (.struct F))(w:World):(Go.method (n+1) t v name).run P w= .ok (f,v) w:=by
 cases hi:P.info? t with
 |none=>rw[hi]at h;cases h
 |some i=>
  rw[hi]at h;simp only[Option.bind_some]at h;cases T:i.methods.find? (·.name==name)with
  |none=>rw[T]at h;cases h
  |some m=>
   exact bh
variable {xt:TypeId}
section
def aea{y:AV}(f:P.underlying t=some (.struct F))(n:lK nt d=true)(j:kv T x=some y)(N:lS y=true):kE P E nt ops ⟨d,.makeInterface t x,ty,pos,af,gd⟩ T H [] ⟨.ifc t y,[]⟩:=
 lO n λB T' H' a w r s D=>by have b:=r.eval ((s x js).trans j);rw[kJ (l6 N)]at b;obtain⟨c,e,k⟩:=b;refine⟨.iface t (a.eval x),by simp[execOp,Instr.makeInterface,lu f],?_⟩;rw[kJ ki];exact⟨[_],by simp only[Rd];exact⟨c,e,rfl⟩,by rw[k];rfl⟩
def SR{y:AV}(f:P.underlying t=some (.struct F))(n:lK nt d=true)(j:kv T x=some (.ifc t y))(N:lS y=true):kE P E nt ops ⟨d,.typeAssert x xt t true,ty,pos,af,gd⟩ T H [] ⟨.mz [y,kA true],[]⟩:=
 lO n λB T' H' a w r s D=>by have b:=ml ki (r.eval ((s x js).trans j)) O;simp only[Rd]at b;obtain⟨c,e,k⟩:=b;injection k with k;refine⟨.tuple #[m9 y c,.bool true],by simp[execOp,k,Instr.typeAssert,lu f],?_⟩;rw[mW];refine⟨[m9 y c,.bool true],rfl,?_⟩;simp only[oe];exact⟨c,[.bool true],rfl,e,[.bool true],[],rfl,(qV O).2 O,rfl⟩
def Wu:Value->Bool
 | .agg _=>true
 |_=>false
def IC{s:TypeId}{y:AV}{fs:List AV}(g:P.underlying t=some (.struct F))(o:lK nt d=true)(j:kv T x=some (.ifc s y))(m:Nat.beq s t=false)(l:lB P t (.agg n fs))(p:((P.info? t).bind (·.zero)).map Wu=some true):kE P E nt ops ⟨d,.typeAssert x xt t true,ty,pos,af,gd⟩ T H [] ⟨.mz [.agg n fs,kA false],[]⟩:=
 lO o λB T' H' a w r u D=>by
  have b:=ml ki (r.eval ((u x js).trans j)) O;simp only[Rd]at b;obtain⟨c,f,k⟩:=b;injection k with k;obtain⟨i,N,z1,z2,v⟩:=l;have M:¬s=t:=λe=>by subst e;simp at m
  have G:=t4 (B:=B) (H:=H') _ (v (kI E B H') w);refine⟨.tuple #[N,.bool false],by simp[execOp,k,Instr.typeAssert,lu g,M,zeroValue,typeInfo,z1,z2],?_⟩;rw[mW];refine⟨[N,.bool false],rfl,?_⟩;simp only[oe];refine⟨N.cells.toList,[.bool false],?_,G,[.bool false],[],rfl,(qV O).2 O,rfl⟩;rw[z1]at p;simp only[Option.bind_some,z2,Option.map_some,mr]at p;cases N<;>first|rfl|cases p
def abd{l:List Operand}{v y:AV}(p:lK nt d=true)(C:P.funcs[f]?=some fn)(j:fn.body.isSome=true)(hnm:(fn.name== "runtime.NumGoroutine")=false)
 (M:P.underlying t=some (.struct F)) (U:(P.info? t).bind (λi=>(i.methods.find? (·.name==name)).map λm=>(m.path.toList.length,m.func))=some (0,some (f,false))) (Z:kv T x=some (.ifc t v)) (hvd:mO v=true) (k:l.map (kv T)=G.map some) (A:mG P f (v::J) y) (V:∀H',BL H' G J) (N:G.all lS=true):
 kE P E nt ops ⟨d,.call {callee:=.invoke x name,args:=l.toArray,argTypes:=ats},ty,pos,af,gd⟩ T H [] ⟨y,[]⟩:=by
 intro T' H' s _ _ B a w r K Q Y;have hxs:=rP r l G (rn k (λy I=>mv s ir)) (λz S=>l6 (mq.1 N z S));have hys:=(V H').Yi hxs;have hfv:=ml ki (r.eval ((mv s (x:=x) iV).trans Z)) O;simp only[Rd]at hfv;obtain⟨c,R,q⟩:=hfv;injection q with q
 have hall:oe (kI E B H') w (v::J) B0 H0 (m9 v c::l.map a.eval):=by
  simp only[oe];exact⟨c,_,rfl,pQ v hvd R,hys⟩
 have g:=A _ w _ hall;unfold Oper.wp
 have L:(execOp a.eval ⟨d,.call {callee:=.invoke x name,args:=l.toArray,argTypes:=ats},ty,pos,af,gd⟩).run P w= .ok (.enter f (m9 v c::l.map a.eval).toArray) w:=by
  have X:fn.body≠none:=fu;have hn':fn.name≠ "runtime.NumGoroutine" :=fO;have hmr:=VE (v:=m9 v c) (P.types.size+Made.depth- 1) U M w;rw[show P.types.size+Made.depth- 1+1=P.types.size+Made.depth from by simp[Made.depth]]at hmr;have W:(m9 v c::l.map a.eval).toArray= #[m9 v c]++(l.toArray.map a.eval):=fv;rw[W];simp[execOp,resolve,q,invoke,callMethod,hmr,callFunc,C,hn',X];exact eu
 rw[L];refine rM g ?_;rintro e w' ⟨u,rfl,n,D⟩;exact Y B _ w' ((r.ext D).put p (G1 (Be (λb o h=>⟨r.w7 h,h⟩) n)))
end
section
noncomputable def xC(t:TypeId):Bool:=match prog.underlying t with
 |some (.struct _)=>true
 |_=>false
def yE(h:xC t=true):∃F,prog.underlying t=some (.struct F):=by
 unfold xC at h;split at h
 .rename_i F e;exact⟨F,e⟩
 .cases h
def FE{y:AV}(n:lK nt d=true)(j:kv T x=some y)(N:lS y=true)(b:xC t=true):kE prog E nt ops ⟨d,.makeInterface t x,ty,pos,af,gd⟩ T H [] ⟨.ifc t y,[]⟩:=by
 obtain⟨F,hF⟩:=yE b;exact aea hF n j N
def aeM{y:AV}(n:lK nt d=true)(j:kv T x=some (.ifc t y))(N:lS y=true)(b:xC t=true):kE prog E nt ops ⟨d,.typeAssert x xt t true,ty,pos,af,gd⟩ T H [] ⟨.mz [y,kA true],[]⟩:=by
 obtain⟨F,hF⟩:=yE b;exact SR hF n j N
def ajP{s:TypeId}{y:AV}{fs:List AV}(o:lK nt d=true)(j:kv T x=some (.ifc s y))(g:Nat.beq s t=false)(e:xG t=some (.agg n fs))(b:xC t=true)(f:((prog.info? t).bind (·.zero)).map Wu=some true):kE prog E nt ops ⟨d,.typeAssert x xt t true,ty,pos,af,gd⟩ T H [] ⟨.mz [.agg n fs,kA false],[]⟩:=by
 obtain⟨F,hF⟩:=yE b;exact IC hF o j g (tz e) f
def akd(t:TypeId)(name:String)(args:List AV)(r:AV):Prop:=∃f fn F,Tryz.prog.funcs[f]?=some fn∧fn.body.isSome=true∧(fn.name== "runtime.NumGoroutine")=false∧Tryz.prog.underlying t=some (.struct F)∧(Tryz.prog.info? t).bind (fun i=>(i.methods.find? (·.name==name)).map fun m=>(m.path.toList.length,m.func))=some (0,some (f,false))∧mG Tryz.prog f args r
def YJ(z:Tryz.prog.funcs[f]?=some fn)(u:mG Tryz.prog f args r)(c:fn.body.isSome=true)(B:(fn.name== "runtime.NumGoroutine")=false)(b:xC t=true)(T:(Tryz.prog.info? t).bind (fun i=>(i.methods.find? (·.name==name)).map fun m=>(m.path.toList.length,m.func))=some (0,some (f,false))):akd t name args r:=by
 obtain⟨F,hF⟩:=yE b;exact⟨f,fn,F,z,c,B,hF,T,u⟩
def aeF{l:List Operand}{v y:AV}(n:lK nt d=true)(p:kv T x=some (.ifc t v))(c:mO v=true)(j:td T l=some G)(e:tA G=some J)(N:G.all lS=true)(u:akd t name (v::J) y):
 kE prog E nt ops ⟨d,.call {callee:=.invoke x name,args:=l.toArray,argTypes:=ats},ty,pos,af,gd⟩ T H [] ⟨y,[]⟩:=by
 obtain⟨f,fn,F,a,b,k,A,D,P⟩:=u;exact abd n a b k A D p c (o6 j) P (λ_=>pU _ _ e) N
end
variable {agg:Bool}
theorem Iw(s:zg P t agg n)(w:World)(K c2 b:List Value)(B:c2.length=n)(a:agg=false->n=1):
 (part t (K++c2++b).toArray K.length).run P w= .ok (if agg then .agg c2.toArray else c2.headD undef) w:=by
 have f:=lC s w;obtain⟨d,hu,o,hi⟩:=s
 have u:(isAgg t).run P w= .ok agg w:=by
  unfold isAgg;rw[Sem.run_bind,lu hu w];subst o;cases d<;>rfl
 unfold part;rw[Sem.run_bind,u,Result.andThen_ok];cases agg
 .obtain rfl:=a O
  obtain⟨v,rfl⟩:∃v,c2= [v]:=by
   match c2,B with
   | [v],_=>exact⟨v,rfl⟩
  simp
 .have e:(K++c2++b).toArray.extract K.length (K.length+n)=c2.toArray:=by
   apply sr;simp[List.extract_eq_take_drop,DL,GV,<-B]
  simp only[oQ,Sem.run_bind,f,Result.andThen_ok,e];rfl
section
variable (tb:ZL P)
theorem ah1{s:TypeId}{f o:Nat}{fs:List (Nat×Nat×Bool)}{y:AV}(p:lK nt d=true)(k:kv T x=some y)(q:tb.ti s=some (.st n fs))(A:aby fs y f=some (o,z))(u:fs[f]?=some (o,lE z,na z)):
 kE P E nt ops ⟨d,.field s x f,ty,pos,af,gd⟩ T H [] ⟨z,[]⟩:=
 lO p λB T' H' a w r t D=>by have b:=r.eval ((t x js).trans k);obtain⟨m,J,g,rfl,j,k2,k3,v⟩:=Oz A;rw[kJ ki]at b;obtain⟨c,i,l⟩:=b;simp only[Rd]at i;obtain⟨L,C⟩:=i;obtain⟨c1,c2,c3,rfl,M,m2,_⟩:=MG C j;obtain⟨_,F,hu,hF⟩:=tb.ok s _ q;obtain⟨N,K,G,I⟩:=Da hF f o (lE z) _ u;have X:=Iw I w c1 c2 c3 (nJ m2) NQ;rw[CZ m2]at X;rw[M,<-k3]at X;refine⟨m9 z c2,?_,by rw[kJ (oV m2)];exact⟨c2,m2,rfl⟩⟩;have e:m9 (.agg m J) (c1++c2++c3)= .agg (c1++c2++c3).toArray:=rfl;simp only[execOp,l,e,Instr.field,Sem.run_bind,lu hu,K,asAgg,Result.andThen_ok,Sem.run_pure,G,X]
theorem ah0{m:Nat}{i:Int}{y:AV}(o:lK nt d=true)(p:tb.ti t=some (.arr tn len es ea e))(l:kv T x=some (.arr m es G))(hi:kv T ix=some (.v (.int k i)))
 (v:0<=i) (g:i<(len:Int)) (F:G[i.toNat]?=some y) (u:ea=na y):
 kE P E nt ops ⟨d,.index t x ix,ty,pos,af,gd⟩ T H [] ⟨y,[]⟩:=
 lO o λB T' H' a w r s D=>by
  have b:=r.eval ((s x js).trans l);have j:=r.od ((s ix js).trans hi);rw[kJ ki]at b;obtain⟨c,f,n⟩:=b;simp only[Rd]at f;obtain⟨A,I⟩:=f;obtain⟨c1,c2,c3,rfl,M,C,m2,_⟩:=Rn I F;obtain⟨_,hu,L⟩:=tb.ok t _ p;have q:=lC L w;subst u;have z:es=lE y:=by rw[<-C];exact nJ m2
  have X:=Iw L w c1 c2 c3 C (by intro h;rw[z];exact NQ h);rw[CZ m2]at X;rw[M]at X;refine⟨m9 y c2,?_,by rw[kJ (oV m2)];exact⟨c2,t4 _ m2,rfl⟩⟩;have V:a.eval x= .agg (c1++c2++c3).toArray:=n;generalize (c1++c2++c3).toArray=cs at V X;simp[execOp,V,j,Instr.index,asIntOf,lu hu,v,g,q,X]
end
section
def ak9{s:TypeId}{f o:Nat}{fs:List (Nat×Nat×Bool)}{y:AV}(p:lK nt d=true)(j:kv T x=some y)(q:kM.ti s=some (.st n fs))(A:aby fs y f=some (o,z))(t:fs[f]?=some (o,lE z,na z)):
 kE prog E nt ops ⟨d,.field s x f,ty,pos,af,gd⟩ T H [] ⟨z,[]⟩:=ah1 kM p j q A t
def HJ{m:Nat}{i:Int}{y:AV}(o:lK nt d=true)(p:kM.ti t=some (.arr tn len es ea e))(n:kv T x=some (.arr m es G))(hi:kv T ix=some (.v (.int k i)))
 (l:Bs i=some j) (g:Nat.blt j len=true) (F:G[j]?=some y) (u:ea=na y):
 kE prog E nt ops ⟨d,.index t x ix,ty,pos,af,gd⟩ T H [] ⟨y,[]⟩:=by
 have:=uI l;subst this;have I:j<len:=A8 g;exact ah0 kM o p n hi (Kl j) kh jL u
end
def Rv:lB prog 352 (.agg 2 [.v .nilFunc,.v .nilFunc]):=lR (v:=.agg #[.nilFunc,.nilFunc]) (n:=2) j6 λU w=>by
 simp only[Rd,qQ,Value.cells];exact ee
def Z4:lB prog 377 (.arr 4 2 [.agg 2 [.v .nilFunc,.v .nilFunc],.agg 2 [.v .nilFunc,.v .nilFunc]]):=lR (v:=.agg #[.nilFunc,.nilFunc,.nilFunc,.nilFunc]) (n:=4) j6 λU w=>by
 simp only[Rd,qQ,ov,Value.cells];exact⟨O,[_,_],_,rfl,rfl,ee,[_,_],_,rfl,rfl,ee,rfl⟩
def wA{Q:Prop}(k:R)(h:zT R->Q:=by intro kHid;(repeat (first|refine Ip ?_|(first|(apply Wv;(focus (first|exact oB O O|exact vW O O O O iP|exact wg O O O O iP|exact tl O O O|exact vV O O O|exact xV O O O|exact xU O O|exact rW O O O kh|exact xZ O O O kh|exact uh O O O kh|exact sG O O O kh|exact vf O O O kh|exact Cm O O O kh|exact Ck O O O kh|exact t6 O O O kg O|exact vI O O O|exact vH O O O|exact Ao O O O|exact qx O O O O j5|exact An O O O|exact wh O O O O kh|exact wi O O O O kh|exact uF O O O O kh|exact uG O O O O kh|exact sH O O O O O O O kh kh|exact wQ O O O|exact zc O O|exact t5 O O O O O|exact vb O O O O O O O|exact y7 O O O|exact PQ O O O kg|exact C4 ⟨_,mc⟩ pz O O|exact C2 ⟨_,mc⟩ vO O O|exact C3 s8 pz uU O O|exact t9 O O O O jd|exact ak9 O O O O O|exact HJ O O O O O O O O|exact sI Rv O O O O O O O|exact PV Z4 O O O O O O O O O|exact w9 O O O O O O j5|exact FE O O O jC|exact aeM O O O jC|exact ajP O O O O jC jC|exact aeF O O O O O O j5|exact BN O O O O O O O O O|exact Cn O O O O O O|exact Cl O O O kh|exact FD O O O kh));(focus exact ig))|(apply Wb;(focus (first|exact zB O O O O|exact xY O O O O O iu iO iO|exact xW O O O O O iu iO iO|exact xX O O O O O iu iO iO|exact y6 O O O|exact xH O O O O O O O O O|exact tQ O O O|exact oR Rv O O));(focus exact ig))|(apply Ws;(focus (exact nX kM (d:=none) O O O O O O O O O O));(focus exact ig))|(refine sN gS O ?_)|refine Mx O O iK ?_|refine My O O iK ?_|(refine Mz O O jh ?_)|(refine tc _ j5 ?_))));exact kHid.out):Q:=h ⟨k⟩
def FU(U:u0)(w:World)(G:List (BitVec 8)){c:List Value}:ov U w 1 (G.map lN) B0 H0 c↔c=qc be G:=by rw[AA (arr:=be) (cell:=λn=>Value.int .u8 (B8 n)) (λ_=>rfl)];exact zx (cell:=λn=>.int .u8 (B8 n)) (λ_=>rfl) (λ_=>rfl) G
variable {u:Value}
def aa6{G:List (BitVec 8)}(h:Ji w.heap.size ty be 1 w' u G):qJ (λb o=>b<w.heap.size/\U b o) w' B0 H0 (tp G) u:=by
 obtain⟨g,V⟩:=h;rw[tp,kJ ki];refine⟨[_],?_,rfl⟩;simp only[Rd,kX];rcases V with⟨rfl,i⟩|⟨b,cap,cur,rfl,hb,e,v,T,p,s⟩
 .have F:G= []:=pE i;subst F;exact⟨none,0,rfl,kK _,kO _,λh=>absurd h (J9 _),λt s=>by cases s⟩
 .refine⟨_,cap,rfl,v,T,λ_=>⟨b,0,qc be G,rfl,?_,λo _ _ hu=>absurd hu.1 kh,(FU _ _ _).2 O⟩,λt s=>by cases s⟩;have W:G.length*1<=cur.size:=by rw[p];exact mH _ v
  rw[mX e];unfold mD;rw[kx jS]
  congr 1
  apply sr;rw[<-s];simp
def uu.ahW{G J:List (BitVec 8)}(m:uu E B (hL [(1000,.own 5 1 (G.map lN))]) w)(e:pr w w'){v:Value}(Z:G.length<J.length)(U:Ji w.heap.size 5 be 1 w' v J):
 ∃B',uu E B' (hL [(1000,.own 5 1 (J.map lN))]) w'/\qJ (kI E B' (hL [(1000,.own 5 1 (J.map lN))])) w' B' (hL [(1000,.own 5 1 (J.map lN))]) (.own 1000 1 J.length .row) v:=by
 obtain⟨i,U⟩:=U;rcases U with⟨rfl,j⟩|⟨b,cap,cur,rfl,hb,f,u,T,p,s⟩
 .omega
 have t:hL [(1000,.own 5 1 (G.map lN))] 1000=some (.own 5 1 (G.map lN)):=rfl;have D:hL [(1000,.own 5 1 (J.map lN))] 1000=some (.own 5 1 (J.map lN)):=rfl
 have z:∀(zs:List (BitVec 8)) g,g≠1000->hL [(1000,.own 5 1 (zs.map lN))] g=none:=λzs g r=>by
  show kV g _=none
  simp only[kV]
  have:Nat.beq 1000 g=false:=by
   cases hb:Nat.beq 1000 g
   .rfl
   .exact absurd (mi hb).symm r
  rw[this];rfl
 obtain⟨_,C,_⟩:=m.box 1000 _ t;rw[kX]at C
 have y:∀o,o<(J.map lN).length*1->cur[o]?=(qc be J)[o]? :=λo U=>by
  rw[kX]at U;rw[s.symm];simp[yg];omega
 refine⟨⟨λg=>if g=1000 then some b else none,B.fx,B.hv⟩,⟨λg bx h=>?_,λg h=>?_,λg g' b' a d k A=>?_,m.left.ext e,λg h=>?_,m.fx.go O e.size λg b' a d=>.inr (by
  have c:g=1000:=Dy λc=>by rw[z _ g c]at a;cases a
  subst c;have d:some b=some b':=d;injection d with d;omega)⟩,Fw ⟨5,J.map lN,D,by rw[kX];exact kK _,rfl,λ_=>⟨λhn=>by simp at hn,λb' q=>?_⟩⟩⟩
 .by_cases c:g=1000
  .subst c;rw[D]at h;injection h with h;subst h
   refine⟨by omega,?_,.inr ⟨b,cur,cap,qc be J,by simp,f,p,by rw[kX];exact u,T,y,(FU _ _ _).2 O,.inl (oG m.left.size hb)⟩⟩;intro x I L;obtain⟨n,l⟩:=C x I L;rw[kX];exact⟨by omega,λe'=>by omega⟩
  .rw[z _ g c]at h;cases h
 .by_cases c:g=1000
  .subst c;rw[D]at h;cases h
  .simp[c]
 .have c:g=1000:=Dy λc=>by rw[z _ g c]at a;cases a
  have c':g'=1000:=Dy λc=>by rw[z _ g' c]at d;cases d
  rw[c,c']
 .by_cases c:g=1000
  .subst c;rw[D]at h;cases h
  .exact m.qa g (z _ g c)
 .simp at q;subst q;exact⟨cur,f,cap,rfl,u,T,by simpa using p⟩
def afO(G:List (BitVec 8))(n:BitVec 64)(H:Nat)(j:G.length<=100000000000000)(a:1<=H)(c:H<=8):
 Ii prog 261 [.own 1000 1 G.length .row,qU n,kq (H:Int)] [(1000,.own 5 1 (G.map lN))] (.own 1000 1 (G++ni n H).length .row) [(1000,.own 5 1 ((G++ni n H).map lN))]:=λE B w vs _ W m d=>by
 obtain⟨N,J,rfl,o,d⟩:=oo d;obtain⟨S,J,rfl,k,d⟩:=oo d;obtain⟨T,J,rfl,V,d⟩:=oo d;obtain rfl:=rE d;have z:=m.ajK CF FU (g:=1000) O o O;rw[Pm k,yF V];refine(Pz N G n H w z j a c).mono ?_;rintro e w' ⟨u,rfl,U,L⟩;obtain⟨B',f,k2⟩:=m.ahW L (by rw[lA,lP];omega) U;exact⟨u,B',rfl,f,k2⟩
def age(n:BitVec 64)(G:Nat)(a:1<=G)(c:G<=8):mG prog 261 [.v (.slice none 0 0),qU n,kq (G:Int)] (tp (ni n G)):=λU w vs h=>by
 obtain⟨N,J,rfl,m,h⟩:=oo h;obtain⟨S,J,rfl,j,h⟩:=oo h;obtain⟨T,J,rfl,W,h⟩:=oo h;obtain rfl:=rE h;rw[Pm j,yF W,(nM.1 m).2];refine(Pz _ [] n G w (Sl.nil _ _ _) ki a c).mono ?_;rintro e w' ⟨u,rfl,V,L⟩;exact⟨u,rfl,aa6 V,L⟩
def am3(x:BitVec 32):AV:=.v (.int .u32 (DZ x))
def anG(G:List (BitVec 8)):Ii prog 262 [.own 1000 1 G.length .row] [(1000,.own 5 1 (G.map lN))] (am3 (adm G)) [(1000,.own 5 1 (G.map lN))]:=λE B w vs _ V m d=>by
 obtain⟨N,J,rfl,n,d⟩:=oo d;obtain rfl:=rE d;have z:=m.ajK CF FU (g:=1000) O n O;refine(ahz N G w z).mono ?_;rintro e w' ⟨rfl,L⟩;exact⟨_,B,rfl,(m.ext L).1,nM.2 ⟨O,rfl⟩⟩
def amq(n:Int):mG prog 286 [kq n] (kA (decide (1<=n/\n<=8))):=λU w vs h=>by
 obtain⟨N,J,rfl,m,h⟩:=oo h;obtain rfl:=rE h;rw[yF m];refine(PZ n w).mono ?_;rintro e w' ⟨rfl,rfl⟩;exact⟨_,rfl,nM.2 ⟨O,rfl⟩,pr.refl _⟩
def vg(G:List (BitVec 8))(A H:Nat):BitVec 64:=if A+H<=G.length then uj (seg G A H)else 0#64
variable {at_ wd:Nat}
def Of{G:List (BitVec 8)}(h:at_+wd<=G.length):vg G at_ wd=uj (seg G at_ wd):=by unfold vg;rw[kx h]
def aeN{G:List (BitVec 8)}(h:¬at_+wd<=G.length):vg G at_ wd=0#64:=by unfold vg;rw[ku h]
def abV(G:List (BitVec 8))(A I:Nat)(a:1<=I)(c:I<=8)(h:A+I<=G.length):mG prog 288 [tp G,kq (A:Nat),kq (I:Nat)] (.mz [qU (vg G A I),kA (decide (A+I<=G.length))]):=λU w vs H=>by
 obtain⟨N,J,rfl,m,H⟩:=oo H;obtain⟨S,J,rfl,j,H⟩:=oo H;obtain⟨T,J,rfl,V,H⟩:=oo H;obtain rfl:=rE H;rw[yF j,yF V];refine(YB N G A I w (Iv m) a c h).mono ?_;rintro e w' ⟨rfl,rfl⟩;refine⟨_,rfl,?_,pr.refl _⟩;rw[mW,Of h,kW h];exact⟨_,rfl,zy O (nM.2 ⟨O,rfl⟩) (zy O (nM.2 ⟨O,rfl⟩) Su)⟩
section
def Yq(j:kv T x=some (.ptr g off p))(n:lK nt d=true):kE prog E nt ops ⟨d,.nilCheck x,ty,pos,af,gd⟩ T H [] ⟨.ptr g off p,[]⟩:=
 lO n λB T' H' a w r s D=>by have i:=r.eval ((s x js).trans j);have h:=ml ki i O;simp only[Rd]at h;obtain⟨_,b,_,c⟩:=h;injection c with c;exact⟨a.eval x,by simp[execOp,c],i⟩
def aed{bytes:Nat}{tok:Option Nat}(p:kM.ti t=some (.sl e es bytes ea))(o:lK nt d=true)(j:kv T x=some (.sl tok n G))(F:kv T y=some (.v (.slice none 0 0)))(i:0<G.length):kE prog E nt ops ⟨d,.binOp .eql t x y t',ty,pos,af,gd⟩ T H [] ⟨kA false,[]⟩:=
 lO o λB T' H' a w r s D=>by exact aC
def aeI{s:TypeId}{n:BitVec 32}(p:∃u,prog.underlying s=some u)(v:prog.underlying t=some (.int .u64))(o:lK nt d=true)(j:kv T x=some (am3 n)):kE prog E nt ops ⟨d,.convert s t x,ty,pos,af,gd⟩ T H [] ⟨qU (n.setWidth 64),[]⟩:=
 vp p v o j (by rw[xw,oJ,uW,OL];have:=n.isLt;omega)
def ajN{s:TypeId}{n:BitVec 64}(p:∃u,prog.underlying s=some u)(v:prog.underlying t=some (.int .i64))(o:lK nt d=true)(j:kv T x=some (qU n)):kE prog E nt ops ⟨d,.convert s t x,ty,pos,af,gd⟩ T H [] ⟨kq n.toInt,[]⟩:=
 vp p v o j (by rw[Ka,oJ,Zm];have:=n.isLt;split<;>omega)
def ajO{s:TypeId}{n:BitVec 8}(p:∃u,prog.underlying s=some u)(v:prog.underlying t=some (.int .i64))(o:lK nt d=true)(j:kv T x=some (lN n)):kE prog E nt ops ⟨d,.convert s t x,ty,pos,af,gd⟩ T H [] ⟨kq (n.toNat:Nat),[]⟩:=
 vp p v o j (by rw[Ka,rB];have:=n.isLt;omega)
def aem{bytes:Nat}{f:BitVec 8->AV}{G:List (BitVec 8)}(p:kM.ti t=some (.sl e es bytes ea))(o:lK nt d=true)(j:kv T x=some (.own g n len .row))(u:H g=some (.own e' n (G.map f)))(i:len=G.length):
 kE prog E nt ops ⟨d,.call {callee:=.builtin .len,args:= #[x],argTypes:= #[t]},ty,pos,af,gd⟩ T H [g] ⟨.v (.int .i64 (len:Nat)),[]⟩:=VY p o j u jU
def aes{tx:TypeId}{bytes:Nat}{f:BitVec 8->AV}{G zs:List (BitVec 8)}(o:lK nt d=true)(p:kM.ti t=some (.sl e es bytes ea))(j:kv T s=some (.own g es n .row))(u:H g=some (.own e es (G.map f)))
 (F:kv T x=some src) (I:yR prog tx es src (zs.map f)) (i:n=G.length) (U:(G.length+zs.length)*bytes<=140737488355328) (a:G.length+zs.length<=9223372036854775807):
 kE prog E nt ops ⟨d,.call {callee:=.builtin .append,args:= #[s,x],argTypes:= #[t,tx]},ty,pos,af,gd⟩ T H [g] ⟨.own g es (G++zs).length .row,[(g,.own e es ((G++zs).map f))]⟩:=by
 subst i;exact akS o p j u F I U a
def SS{tx:TypeId}{bytes:Nat}{q:Int}{f:BitVec 8->AV}{z:BitVec 8}{G:List (BitVec 8)}(R:prog.underlying tx=some (.int kn))(o:lK nt d=true)(p:kM.ti t=some (.sl e (es+1) bytes ea))(j:kv T s=some (.own g (es+1) n .row))(u:H g=some (.own e (es+1) (G.map f)))
 (F:kv T x=some (.v (.int k q))) (l:xG e=some (f z)) (r:0<=q) (i:n=G.length) (U:(n+q.toNat)*bytes<=140737488355328) (a:n+q.toNat<=4611686018427387904):
 kE prog E nt ops ⟨d,.call {callee:=.builtin .append,args:= #[s,x],argTypes:= #[t,tx]},ty,pos,af,gd⟩ T H [g] ⟨.own g (es+1) (G++List.replicate q.toNat z).length .row,[(g,.own e (es+1) ((G++List.replicate q.toNat z).map f))]⟩:=by
 have:=PE (E:=E) (ops:=ops) (H:=H) (ty:=ty) (pos:=pos) (af:=af) (gd:=gd) (len':=(G++List.replicate q.toNat z).length) (m:=q.toNat) o p l j u jU R (F.trans (by rw[GF r])) (by simp[i]) U a;rwa[oq,xj]
def Yt{bytes:Nat}{n:Int}{l:Nat}{f:BitVec 8->AV}{G:List (BitVec 8)}(o:lK nt d=true)(p:kM.ti t=some (.sl e es bytes ea))(j:kv T x=some (.own g es len .row))(u:H g=some (.own e es (G.map f)))(Y:kv T lo=some (.v (.int k n)))(B:Bs n=some l)(i:len=G.length)(a:l<len):
 kE prog E nt ops ⟨d,.slice t x (some lo) none none,ty,pos,af,gd⟩ T H [g] ⟨.own g es len (.part l (len- l)),[]⟩:=by
 have:=uI B;subst this;exact Ak o p j u jU (sk Y) zL a (kK _)
def SU{bytes:Nat}{n m:Int}{l:Nat}{f:BitVec 8->AV}{G:List (BitVec 8)}(o:lK nt d=true)(p:kM.ti t=some (.sl e es bytes ea))(j:kv T x=some (.own g es len .row))(u:H g=some (.own e es (G.map f)))(Y:kv T lo=some (.v (.int k n)))(B:Bs n=some l)(C:kv T hi=some (.v (.int k' m)))(U:Bs m=some h)(i:len=G.length)(a:l<h)(b:h<=len):
 kE prog E nt ops ⟨d,.slice t x (some lo) (some hi) none,ty,pos,af,gd⟩ T H [g] ⟨.own g es len (.part l (h- l)),[]⟩:=by
 have:=uI B;subst this;have:=uI U;subst this;exact Ak o p j u jU (sk Y) (sk C) a b
def zA(G:List α)(off:Nat)(J:List α):List α:=G.take off++(J++G.drop (off+J.length))
def Lc(G:List α)(off:Nat)(J:List α)(h:off+J.length<=G.length):(zA G off J).length=G.length:=by unfold zA;simp;omega
def Yu{tx:TypeId}{bytes:Nat}{l:Nat}{f:BitVec 8->AV}{tok:Option Nat}{G J:List (BitVec 8)}(n:lK nt d=true)(o:kM.ti t=some (.sl e es bytes ea))(j:kv T x=some (.own g es len (.part off l)))(F:kv T y=some (.sl tok es (J.map f)))
 (u:H g=some (.own e es (G.map f))) (i:len=G.length) (N:off+J.length<=len) (p:J.length<=l) (k:0<len):
 kE prog E nt ops ⟨d,.call {callee:=.builtin .copy,args:= #[x,y],argTypes:= #[t,tx]},ty,pos,af,gd⟩ T H [g] ⟨.v (.int .i64 (J.length:Nat)),[(g,.own e es ((zA G off J).map f))]⟩:=by
 have:=IB (E:=E) (ops:=ops) (H:=H) (ty:=ty) (pos:=pos) (af:=af) (gd:=gd) (tx:=tx) n o j F Aa u jU k jT jF;rw[kX]at this;unfold zA;rwa[oq,oq,vP,DF]
def aeq{bytes:Nat}{l:Nat}{f:BitVec 8->AV}{z:BitVec 8}{G:List (BitVec 8)}(o:kM.ti t=some (.sl e (es+1) bytes ea))(j:kv T x=some (.own g (es+1) len (.part off l)))(u:H g=some (.own e (es+1) (G.map f)))(d:xG e=some (f z))(i:len=G.length)(k:0<l)(N:off+l<=len):
 kE prog E nt ops ⟨none,.call {callee:=.builtin .clear,args:= #[x],argTypes:= #[t]},ty,pos,af,gd⟩ T H [g] ⟨.mz [],[(g,.own e (es+1) ((zA G off (List.replicate l z)).map f))]⟩:=by
 have:=PF (E:=E) (nt:=nt) (ops:=ops) (H:=H) (ty:=ty) (pos:=pos) (af:=af) (gd:=gd) o d j u jU k N;unfold zA;rwa[oq,oq,vP,DF,xj,pj]
def anK:lN 0#8= .v (.int .u8 0):=by unfold lN;rw[DR]
def anJ:lN 1#8= .v (.int .u8 1):=by unfold lN;rw[rB];rfl
def anI:lN 2#8= .v (.int .u8 2):=by unfold lN;rw[rB];rfl
def aer{bytes:Nat}{l:List (Nat×Operand)}{f:BitVec 8->AV}{z:BitVec 8}(G:List (BitVec 8))(n:lK nt (some g)=true)(o:kM.ti t=some (.sl e (es+1) bytes ea))(d:xG e=some (f z))(y:pL T l=some vs)(U:um vs (List.replicate (len+1) (f z))=some (G.map f))(u:H g=none)
 (W:∀H',BL H' (G.map f) (G.map f)) (p:(G.map f).all (λx=>Nat.beq (lE x) (es+1))=true) (V:G.length=len+1) (B:Nat.ble ((len+1)*(es+1)) 16777216=true):
 kE prog E nt ops ⟨some g,.buildSlice t (len+1) l.toArray,ty,pos,af,gd⟩ T H [] ⟨.own g (es+1) G.length .row,[(g,.own e (es+1) (G.map f))]⟩:=by
 rw[V];exact V6 n o d y U u W p (by simpa using V) B
def SV{m:Nat}{y:AV}{n:Int}{f:BitVec 8->AV}{G:List (BitVec 8)}(o:lK nt d=true)(q:kM.ti t=some (.arr tn (len+1) 1 ea e))(j:kv T x=some (.ptr g off p))(u:H g=some (.froz y))(X:sU p y=some (.arr m 1 (G.map f)))(U:tj p y=off)
 (C:kv T hi=some (.v (.int k n))) (B:0<=n/\n<=(len:Int)+1) (l:G.length=len+1) (i:len<9223372036854775807):
 kE prog E nt ops ⟨d,.slice t x none (some hi) none,ty,pos,af,gd⟩ T H [g] ⟨.sl none 1 ((G.take n.toNat).map f),[]⟩:=by
 have:=SP kM (E:=E) (ops:=ops) (H:=H) (ty:=ty) (pos:=pos) (af:=af) (gd:=gd) (hi:=some hi) (h:=n.toNat) o q j u X U (aiV _ C kh) kh (by simpa using l) i;rwa[<-vP]at this
end
section
variable {l:List Oper}{T:List (Nat×AV)}{H:List (Nat×Bx)}{d:Nat}
def BJ(i A:List Nat){v:AV}{f:List (Nat×Bx)}(F:kE P E nt ops ⟨some d,op,ty,pos,af,gd⟩ (St.t ⟨T,H⟩) (St.h ⟨T,H⟩) rh ⟨v,f⟩)(a:rh=i)(b:f.map (·.1)=A)(e:kN ops ⟨some d,op,ty,pos,af,gd⟩ (St.t ⟨T,H⟩)=some true)
 (h:lM P E nt ops l ⟨(d,v)::T,f++H⟩ (rs++[⟨i,A⟩]) K):lM P E nt ops (⟨some d,op,ty,pos,af,gd⟩::l) ⟨T,H⟩ rs K:=by
 subst a b;exact Wc F e h
end
section
theorem NH{σ:Nat->Nat}{H:Hp}:∀{l:List (Nat×Bx)},(∀p∈l,H (σ p.1)=some (ur σ p.2))->nA H (Cg σ l)=H
 | [],_=>rfl
 |p::l,h=>by
  have y:=NH (σ:=σ) (H:=H) (l:=l) (λq c=>h q (nV _ c))
  show l9 (nA H (Cg σ l)) (σ p.1) (ur σ p.2)=H
  rw[y];exact rC (h p oO)
theorem ad7{l:List Operand}{y:AV}(σ:Nat→Nat)(u:Ii P f J H1 y H1)(hyd:mO y=true)(o:lK nt d=true)(A:P.funcs[f]?=some fn)(i:fn.body.isSome=true)(hnm:(fn.name== "runtime.NumGoroutine")=false)
 (hxf:kv T x=some (.fn (.func f) [] caps)) (m:l.map (kv T)=G.map some) (N:G.all lS=true) (S:Jf σ H1 (G++caps) J)
 (D:pA σ H H1 H1) (hfr:pS σ H H1 H1) (U:Jj σ H1 H1=true) (hi:uH (H1.map λp=>σ p.1)=true):
 kE P E nt ops ⟨d,.call {callee:=.value x,args:=l.toArray,argTypes:=ats},ty,pos,af,gd⟩ T H ((H1.map λp=>σ p.1)) ⟨y,[]⟩:=by
 intro T' H' t hrh hwr B a w r K Q hK;have hag:∀p∈H1,H' (σ p.1)=H (σ p.1):=λp X=>hrh _ (sM.2 ⟨p,X,rfl⟩)
 have hn':pA σ H' H1 H1:=by
  have:∀l:List (Nat×Bx),(∀p∈l,H' (σ p.1)=H (σ p.1))->pA σ H H1 l->pA σ H' H1 l:=by
   intro l
   induction l with
   |nil=>exact λ_ _=>trivial
   |cons p l Y=>
    obtain⟨c,bx⟩:=p;intro b ⟨g,n,C⟩;exact⟨(b (c,bx) oO).trans g,n,Y (λp X=>b p (nV _ X)) C⟩
  exact this H1 hag D
 have hfr':pS σ H' H1 H1:=by
  have:∀l:List (Nat×Bx),(∀p∈l,H' (σ p.1)=H (σ p.1))->pS σ H H1 l->pS σ H' H1 l:=by
   intro l
   induction l with
   |nil=>exact λ_ _=>trivial
   |cons p l Y=>
    obtain⟨c,bx⟩:=p;intro b ⟨g,n⟩;refine⟨?_,Y (λp X=>b p (nV _ X)) n⟩;cases k:kV c H1 with
    |some b1=>rw[k]at g;exact g
    |none=>rw[k]at g;exact(b (c,bx) oO).trans g
  exact this H1 hag hfr
 have he0:nA H' (Cg σ H1)=H':=NH (λp X=>(hn'.all p X).1);obtain⟨ey,ny⟩:=zw σ y hyd;have hxs:=rP r l G (rn m (λy F=>mv t iq)) (λz M=>l6 (mq.1 N z M));have hfv:=ml ki (r.eval ((mv t (x:=x) iV).trans hxf)) O;simp only[Rd]at hfv;obtain⟨c1,c2,R,I,e3⟩:=hfv;simp only[oe]at I;subst I;injection R with R;obtain⟨j,k2⟩:=S.Yi (ud hxs e3);have g:=EH r.mem u (λ_=>trivial) j k2 hn' hfr' U hi (by rw[ny];rfl);unfold Oper.wp
 have L:(execOp a.eval ⟨d,.call {callee:=.value x,args:=l.toArray,argTypes:=ats},ty,pos,af,gd⟩).run P w= .ok (.enter f (l.map a.eval++c2).toArray) w:=by
  have hb':fn.body≠none:=fu;have hn':fn.name≠ "runtime.NumGoroutine" :=fO;have ha:(l.map a.eval++c2).toArray=(l.toArray.map a.eval)++c2.toArray:=fv;rw[ha];simp[execOp,resolve,Deferred.ofValue,R,invoke,callFunc,A,hn',hb']
 rw[L];refine rM g ?_;rintro e w' ⟨v,B',rfl,n,C,Z⟩;rw[he0]at n C Z;rw[ey]at C;refine hK B' _ w' ((n.rel r.nt r.df λs z q=>?_).put o C);obtain⟨v0,W,V⟩:=r.tmp s z q;exact⟨v0,W,Z _ _ V⟩
end
section
def FC{l:List Operand}{y:AV}(s:List (Nat×Nat))(u:Uy f J H1 y H1)(c:mO y=true)(n:lK nt d=true)
 (q:kv T x=some (.fn (.func f) [] caps)) (j:td T l=some G) (N:G.all lS=true) (e:Jf (sg s) H1 (G++caps) J)
 (B:pA (sg s) H H1 H1) (m:pS (sg s) H H1 H1) (U:Jj (sg s) H1 H1=true) (hi:uH (H1.map λp=>sg s p.1)=true):
 kE prog E nt ops ⟨d,.call {callee:=.value x,args:=l.toArray,argTypes:=ats},ty,pos,af,gd⟩ T H ((H1.map λp=>sg s p.1)) ⟨y,[]⟩:=by
 obtain⟨fn,a,b,k,A⟩:=u;exact ad7 (sg s) A c n a b k q (o6 j) N e B m U hi
end
section
variable {l:List Oper}{T:List (Nat×AV)}{H:List (Nat×Bx)}{d:Nat}
def WvN(i:List Nat){v:AV}(F:kE P E nt ops ⟨some d,op,ty,pos,af,gd⟩ (St.t ⟨T,H⟩) (St.h ⟨T,H⟩) rh ⟨v,[]⟩)(a:rh=i)(e:kN ops ⟨some d,op,ty,pos,af,gd⟩ (St.t ⟨T,H⟩)=some true)
 (h:lM P E nt ops l ⟨(d,v)::T,H⟩ (rs++[⟨i,[]⟩]) K):lM P E nt ops (⟨some d,op,ty,pos,af,gd⟩::l) ⟨T,H⟩ rs K:=by
 subst a;exact Wv F e h
end
section
def Nb(h:xq S.H H2/\OR P S H2 rv J):(Exit.ret= .normal∨Exit.ret= .ret)/\xq S.H H2/\OR P S H2 rv J:=⟨.inr O,h⟩
def anf{t:Nat}{x:AV}(j:S.t t=some x)(B:lS x=true)(c:(mR x).all (λg=>(kV g H2).isSome)=true):Ur P S H2 (.tmp t) x:=⟨x,j,l6 B,.inl ⟨O,c⟩⟩
def ajJ{t:Nat}{tok:Option Nat}(j:S.t t=some (.sl tok n G)):Ur P S H2 (.tmp t) (.sl none n G):=⟨_,j,l6 O,.inr Wk.tok⟩
def akQ{S:St}{a t:Nat}{x:AV}(N:S.t a=some (.ptr g 0 []))(u:S.h g=some (.var x))(o:kM.sa t=some (na x,lE x))(c:(mR x).all (λg=>(kV g H2).isSome)=true):Ur prog S H2 (.cell a t) x:=⟨g,x,N,u,kM.u5 o,.inl ⟨O,c⟩⟩
end
structure xD where
 client:Int
 index:Int
 done:Bool
 ans:wG
def xD.beq(a b:xD):Bool:=a.client==b.client&&a.index==b.index&&a.done==b.done&&a.ans.beq b.ans
def xD.beq_iff{a b:xD}:a.beq b=true↔a=b:=by
 cases a;cases b;simp[xD.beq,xk,wG.beq_iff]
instance :DecidableEq xD:=λa b=>decidable_of_iff (a.beq b=true) xD.beq_iff
@[irreducible] def xD.arr(s:xD):Array Value:=zK (zK (zK (Cw (.int .i64 s.client)) (Cw (.int .i64 s.index))) (Cw (.bool s.done))) (s.ans.arr)
def xD.mj(s:xD):s.arr=zK (zK (zK (Cw (.int .i64 s.client)) (Cw (.int .i64 s.index))) (Cw (.bool s.done))) (s.ans.arr):=by unfold xD.arr;rfl
def xD.mh(s:xD):s.arr.size=22:=by rw[xD.mj];simp[qe,qd,wG.mh]
def xD.zero:xD:={client:=0,index:=0,done:=false,ans:=wG.zero}
def xD.mM:xD.zero.arr= #[.int .i64 0,.int .i64 0,.bool false,.int .i64 0,.bool false,.int .i64 0,.int .u8 0,.int .u8 0,.int .u8 0,.int .u8 0,.int .u8 0,.int .u8 0,.int .u8 0,.int .u8 0,.int .u8 0,.int .u8 0,.int .u8 0,.int .u8 0,.int .u8 0,.int .u8 0,.int .u8 0,.int .u8 0]:=by rw[xD.mj];simp[q5,sZ,xD.zero,vy,qM,wG.mM]
def xD.info:(prog.info? 51).map (λi=>(i.zero,i.size))=some (some (.agg xD.zero.arr),22):=by rw[xD.mM];kernel_rfl
attribute [go_sem] xD.mh
def xD.av(a:xD):AV:=.agg 22 [kq a.client,kq a.index,kA a.done,a.ans.av]
section
def xD.rd{m:xD}{c:List Value}:Rd U w m.av B H c↔c=m.arr.toList:=by refine Cc iN ((nm (λc=>qV O) λc=>nm (λc=>qV O) λc=>nm (λc=>qV O) λc=>nm (λc=>wG.rd) λc=>yz).trans ?_);rw[xD.mj];simp[x7,zJ]
end
def BM:lB prog 51 xD.zero.av:=lR xD.info λU w=>xD.rd.2 O
section
attribute [local irreducible] kE lM AW mU lL mG mC lj lT ly kN
def aml(v:Int)(y: -9223372036854775808<=v/\v<=9223372036854775807):mG prog 104 [kq v] (IJ v).av:=by
 refine kR func104 O ntmps104 O ki [_] O λE S=>?_;obtain⟨k,w⟩:∃k:Nat,v%1099511627776=(k:Int):=⟨(v%1099511627776).toNat,by omega⟩;have Z:k<1099511627776:=eY;have F:IJ v=vX (BT k):=by unfold IJ;rw[w];rfl
 rw[F];have c1:=GX v 1099511627776 kh kh y;rw[w]at c1;have c2:=abT (BT k) (by rw[xx];omega);have W:=kD DC (c1);have z:=kD func56 (c2);refine wS ?_;refine Wri 13 ((k%17:Nat):Int) O kh ?_;refine wS ?_;refine Wb (PR (f:=lN) (x0:=0#8) (n:=k%17) O O O O O O kh kh) hP ?_;refine wS ?_;refine kU (λj:Nat=>⟨[(2,.ptr 2 0 []),(3,kq k),(4,kq (k%17:Nat)),(5,.seg 14 0 1 [] (k%17) (k%17)),(6,kq j)],[(2,.var Vl.zero.av),(14,.var (.arr (k%17*1) 1 ((MV k j).map lN)))]⟩) (λj=>j<=k%17) (λj=>k%17- j) 0 (kO _) (by rw[aaq];(refine lL.sub ⟨?_,?_,?_⟩<;>repeat' (first|exact True.intro|rfl|apply And.intro))) (λj i=>?_);by_cases c:j<k%17
 .have o:=ac5 k j c;have g:=ac6 k j i
  have T:(j:Int)*((k:Int)/4352)<=17*252645136:=by have a:(j:Int)<=17:=eY;have d:(k:Int)/4352<=252645136:=eY;have l:0<=(k:Int)/4352:=eY;exact Int.mul_le_mul a d l kh
  have p:0<=(j:Int)*((k:Int)/4352):=Int.mul_nonneg kh kh;generalize m:(j:Int)*((k:Int)/4352)=M at T p;refine wS ?_;refine Ws (ano (f:=lN) (b:=XS k j) O (by unfold XS;rw[m];rfl) O kh O O (λ_=>rfl) O O) hP ?_;refine wS ?_;refine⟨j+1,by omega,by omega,?_⟩
  (refine lL.sub ⟨?_,?_,?_⟩<;>repeat' (first|exact True.intro|rfl|apply And.intro))
  all_goals (rw[o];rfl)
 .obtain rfl:j=k%17:=by omega
  rw[ac7];have g:=xx k;refine lU (lL.froz S 14 O) ?_;refine lU (lL.seg 5 14 O O O O jY) ?_;refine lU (lL.as 5 (.sl none 1 ((BT k).map lN)) (by rw[<-g,<-kX (f:=lN),nQ];rfl)) ?_;refine wS ?_;exact oY ⟨gu,trivial⟩
def Re(l:List Int)(x:Int)(g:l.length<=1000000000000000000):mG prog 150 [lJ l,kq x] (kq (lF l x)):=by
 refine kR J8 O ntmps150 O ki [_] O λE S=>?_;refine wO ?_;refine kU (λj:Nat=>⟨[(0,lJ l),(1,kq x),(7,kq l.length),(8,kq j)],[]⟩) (λj=>j<=l.length/\lF l x=n9 x j (l.drop j)) (λj=>l.length- j) 0 ⟨kO _,rfl⟩ ed (λj i=>?_);obtain⟨i,y⟩:=i;by_cases Z:j<l.length
 .by_cases L:x=l[j]
  .rw[y,IL l x j Z L.symm];exact dU
  .refine wO ?_;refine⟨j+1,⟨Z,by rw[y,FT l x j Z (λh=>L h.symm)]⟩,by omega,?_⟩;exact ed
 .rw[y,IM l x j kh];exact dU
def Kr(l:List Int)(x:Int)(g:l.length<=1000000000000000000):mG prog 195 [lJ l,kq x] (kq (lF l x)):=by
 refine kR Dx O ntmps195 O ki [_] O λE S=>?_;have c:=kD J8 (Re l x g);exact dU
def Xn(k:List Int)(cs:List kH):mG prog 332 [lJ k,rp cs] (kA (sY lx k cs)):=by
 refine kR func332 O ntmps332 O ki [_] O λE S=>?_;by_cases c1:k.length<2
 .rw[WG k cs lx kh];exact dU
 by_cases c2:4<k.length
 .rw[WG k cs lx kh];exact dU
 by_cases c3:cs.length+1=k.length
 .refine wO ?_;refine kU (λj:Nat=>⟨[(0,lJ k),(1,rp cs),(25,lJ k),(26,kq k.length),(27,kq j)],[]⟩) (λj=>j<=k.length/\oF k 0 k=oF k j (k.drop j)) (λj=>k.length- j) 0 ⟨kO _,rfl⟩ ed (λj i=>?_);obtain⟨i,y⟩:=i;by_cases Z:j<k.length
  .have s:=kD Dx (Kr k k[j] kh);by_cases P:k[j]<1
   .rw[P7 k cs lx j Z y kh];exact dU
   by_cases a:256<=k[j]
   .rw[P7 k cs lx j Z y kh];exact dU
   by_cases R:lF k k[j]=(j:Int)
   .refine wO ?_;refine⟨j+1,⟨Z,air k j Z y P a R⟩,by omega,?_⟩;exact ed
   .rw[P7 k cs lx j Z y kh];exact dU
  .rw[P8 k k j kh]at y;rw[alI k cs lx kh kh c3 y];refine wO ?_;refine kU (λj:Nat=>⟨[(1,rp cs),(46,rp cs),(47,kq cs.length),(48,kq j)],[]⟩) (λj=>j<=cs.length/\nu lx none cs=nu lx (zO cs j) (cs.drop j)) (λj=>cs.length- j) 0 ⟨kO _,rfl⟩ ed (λj i=>?_);obtain⟨i,y⟩:=i;by_cases Z:j<cs.length
   .have K:=kD A6 (ES cs[j]);cases n:cs[j].ok with
    |false=>
     have u:(!cs[j].ok)=true:=by rw[n];rfl
     rw[adG lx cs j Z y n];exact dU
    |true=>
     have u:(!cs[j].ok)=false:=by rw[n];rfl
     cases j with
     |zero=>
      refine wO ?_;refine⟨1,⟨Z,adE lx cs Z y n⟩,by omega,?_⟩;exact ed
     |succ m=>
      have T:m<cs.length:=eY;have l:=kD A5 (zQ cs[m] cs[m+1]);by_cases c:0<=lx cs[m] cs[m+1]
      .rw[adF lx cs m Z y c];exact dU
      .refine wO ?_;refine⟨m+2,⟨Z,adD lx cs m Z y n c⟩,by omega,?_⟩;exact ed
   .rw[Sn lx cs _ j kh]at y;rw[y];exact dU
 .rw[WG k cs lx kh];exact dU
def agf(l:List lq)(k:kH)(i:Nat)(h:i<l.length):mG prog 154 [kq i,.ref (nk l),.ref k.av] (kA (decide (0<=lx l[i].key k))):=by
 refine kR func154 O ntmps154 O ki [_] O λE S=>?_;have c1:=kD A5 (zQ l[i].key k);refine wF ?_;exact oY ⟨gr,trivial⟩
def agd(l:List lq)(k:kH)(h:uv l)(g:l.length<=1000000000):mG prog 153 [kq l.length,.fn (.func 154) [] [.ref (nk l),.ref k.av]] (kq (nN k l:Nat)):=by
 refine kR func153 O ntmps153 O ki [_] O λE S=>?_;have o:=AF k l;have N:(!true)=false:=rfl;have m:(!false)=true:=rfl;refine wF ?_;refine kU (λj:Nat×Nat=>⟨[(1,.fn (.func 154) [] [.ref (nk l),.ref k.av]),(5,kq j.1),(6,kq j.2)],[]⟩) (λj=>j.1<=nN k l/\nN k l<=j.2/\j.2<=l.length) (λj=>j.2- j.1) (0,l.length) ⟨kO _,o,kK _⟩ ed (λj i=>?_);obtain⟨lo,hi⟩:=j;obtain⟨b,z,n⟩:=i;dsimp only at b z n⊢;by_cases c:lo<hi
 .have T:(lo+hi)/2<l.length:=by omega
  have R:=L7 (k:=k) h _ T;have x:=agf l k _ T;by_cases q:0<=lx l[(lo+hi)/2].key k
  .have F:=q;rw[qy,adv]at F;rw[kW q]at x;have c1:=kD func154 x jC jC;refine wF ?_;exact bS
  .have F:=q;rw[qy,adv]at F;rw[la q]at x;have c1:=kD func154 x jC jC;refine wF ?_;refine⟨((lo+hi)/2+1,hi),⟨by dsimp only;omega,z,n⟩,by dsimp only;omega,?_⟩;exact ed
 .obtain rfl:lo=nN k l:=by omega
  refine wF ?_;exact oY ⟨gr,trivial⟩
def vC(l:List lq)(k:kH)(h:uv l)(g:l.length<=1000000000):mG prog 98 [nk l,k.av] (.mz [kq (nN k l:Nat),kA (OG k l)]):=by
 refine kR yO O ntmps98 O ki [_,_] O λE S=>?_;have o:=AF k l;have c1:=kD func153 (agd l k h g)
 repeat refine Ip ?_
 iterate 4 refine wFs ?_
 refine Jg _ ?_;refine oz ?_;refine lU (lL.froz S 2 O) ?_;refine lU (lL.froz S 3 O) ?_;refine lU (lL.ref 2 2 O O O) ?_;refine lU (lL.ref 3 3 O O O) ?_;by_cases e:nN k l<l.length
 .rw[zM e];exact dO
 .rw[Db e];exact dO
def W6(l ms:List lq)(j:Nat)(h:j<ms.length):ya l (ms.take (j+1))=Ef (ya l (ms.take j)) ms[j]:=by
 unfold ya;rw[<-vM h,GD];rfl
def an3(G:List (BitVec 8))(A H:Nat)(a:1<=H)(c:H<=8)(j:G.length<=1000000000000)(P:A<=1000000000000):mG prog 288 [tp G,kq (A:Nat),kq (H:Nat)] (.mz [qU (vg G A H),kA (decide (A+H<=G.length))]):=by
 by_cases h:A+H<=G.length
 .exact abV G A H a c h
 .rw[aeN h,la h];have x:=amq (H:Nat);rw[kW ⟨by omega,by omega⟩]at x;have k:qU 0#64= .v (.int .u64 0):=by unfold qU;rw[qM]
  rw[k];refine kR Ki O ntmps288 O ki [_,_] O λE S=>?_;have N:(!true)=false:=rfl;have i:(!false)=true:=rfl;have K:=kD Kj (x);have v:¬(A:Int)<0:=eY;have l:(G.length:Int)-(H:Int)<(A:Int):=eY;exact dN
end
