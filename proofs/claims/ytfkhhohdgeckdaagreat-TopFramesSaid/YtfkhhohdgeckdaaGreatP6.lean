/- Part of the proof, without conditions. -/
import Derived.Test.YtfkhhohdgeckdaaGreatP4
namespace Go.Proofs.YtfkhhohdgeckdaaGreat
open Go RowKit Proofs.Tryz
set_option linter.all false
set_option maxRecDepth 100000
set_option maxHeartbeats 16000000
def oU(w:Int×Bool):AV:=.agg 2 [kq w.1,kA w.2]
structure CW where
 task:Int
 oj:Int
 claim:Bool
def Bw(w:CW):AV:=.agg 3 [kq w.task,kq w.oj,kA w.claim]
structure nT where
 rd:List Int
 wr:Int
 qu:List (Int×Bool)
def tI(i:Nat)(A Q:Option (Nat×Nat))(ca cq:Nat)(s:nT):AV:=.agg 4 [kq 0,.raw (11,i) [] (sv 1 A (s.rd.map kq).length ca),kq s.wr,.raw (12,i) [] (sv 2 Q (s.qu.map oU).length cq)]
structure sx(X:kY)(i b:Nat)(s:nT):Prop where
 ex:∃A ca Q cq,X (10,i)=some (.var b (tI i A Q ca cq s))/\X (11,i)=some (.my 3 1 A ca (s.rd.map kq))/\X (12,i)=some (.my 226 2 Q cq (s.qu.map oU))
 rl:s.rd.length<=100000
 ql:s.qu.length<=100000
def nT.wq(s:nT)(t:Int):Int:=lF (s.qu.map (·.1)) t
def nT.has(s:nT)(t:Int):Bool:=decide (s.wr=t)||decide (0<=lF s.rd t)
def nT.SK(s:nT)(w:Bool):Bool:=decide (s.wr= -1)&&(!w||decide (s.rd.length=0))
def nT.may(s:nT)(t:Int):Bool:=decide (0<=t)&&decide (s.wr≠t)&& !decide (0<=lF s.rd t)&&decide (s.wq t<0)
def qZ(l:List Value):(Value.agg l.toArray).cells.toList=l:=by simp[Value.cells]
def acp:AV:=.agg 2 [kq 0,kA false]
def Z8:lB prog 226 acp:=lR (v:=.agg ([.int .i64 0]++([.bool false]++[]):List Value).toArray) (n:=2) j6 λU w=>by
 rw[qZ];simp only[acp,pb,mF,kq,kA,Rd,qQ,ov];exact ee
def U1:AV:=.agg 3 [kq 0,kq 0,kA false]
def US:lB prog 268 U1:=lR (v:=.agg ([.int .i64 0]++([.int .i64 0]++([.bool false]++[])):List Value).toArray) (n:=3) j6 λU w=>by
 rw[qZ];simp only[U1,pb,mF,kq,kA,Rd,qQ,ov];exact ee
def aki:AV:=.agg 11 [kq 0,kq 0,kq 0,kq 0,kA false,kA false,pb false mF mF mF mF]
def acm:lB prog 219 aki:=lR (v:=.agg ([.int .i64 0]++([.int .i64 0]++([.int .i64 0]++([.int .i64 0]++([.bool false]++([.bool false]++([.bool false,.slice none 0 0,.slice none 0 0,.slice none 0 0,.slice none 0 0]++[])))))):List Value).toArray) (n:=11) j6 λU w=>by
 rw[qZ];simp only[aki,pb,mF,kq,kA,Rd,qQ,ov];exact⟨O,[_],_,rfl,⟨O,rfl⟩,[_],_,rfl,⟨O,rfl⟩,[_],_,rfl,⟨O,rfl⟩,[_],_,rfl,⟨O,rfl⟩,[_],_,rfl,⟨O,rfl⟩,[_],_,rfl,⟨O,rfl⟩,[_,_,_,_,_],_,rfl,ee,rfl⟩
def UX:AV:=.agg 4 [kq 0,mF,kq 0,mF]
def UN:lB prog 223 UX:=lR (v:=.agg ([.int .i64 0]++([.slice none 0 0]++([.int .i64 0]++([.slice none 0 0]++[]))):List Value).toArray) (n:=4) j6 λU w=>by
 rw[qZ];simp only[UX,pb,mF,kq,kA,Rd,qQ,ov];exact ee
def acr:AV:=.agg 9 [kq 0,kA false,kq 0,kq 0,kq 0,kA false,kA false,kA false,kq 0]
def aaa:lB prog 249 acr:=lR (v:=.agg ([.int .i64 0]++([.bool false]++([.int .i64 0]++([.int .i64 0]++([.int .i64 0]++([.bool false]++([.bool false]++([.bool false]++([.int .i64 0]++[])))))))):List Value).toArray) (n:=9) j6 λU w=>by
 rw[qZ];simp only[acr,pb,mF,kq,kA,Rd,qQ,ov];exact ee
def UT:AV:=.agg 34 [kq 0,lq.zero.av,kq 0,kA false,.v (.pointer none),kq 0]
def UK:lB prog 231 UT:=lR (v:=.agg ([.int .i64 0]++(lq.zero.arr.toList++([.int .i64 0]++([.bool false]++([.pointer none]++([.int .i64 0]++[]))))):List Value).toArray) (n:=34) (by rw[lq.mM];kernel_rfl) λU w=>by
 rw[qZ];simp only[UT,pb,mF,kq,kA,Rd,qQ,ov];exact⟨by simp[kH.mM,Vl.mM,lq.mM],[_],_,rfl,⟨rfl,rfl⟩,_,_,rfl,lq.rd.2 rfl,[_],_,rfl,⟨rfl,rfl⟩,[_],_,rfl,⟨rfl,rfl⟩,[_],_,rfl,⟨rfl,rfl⟩,[_],_,rfl,⟨rfl,rfl⟩,rfl⟩
def acq:AV:=.agg 63 [kq 0,kH.zero.av,kq 0,kq 0,kq 0,kA false,kA false,lq.zero.av,kA false,Vl.zero.av,kA false]
def Z9:lB prog 228 acq:=lR (v:=.agg ([.int .i64 0]++(kH.zero.arr.toList++([.int .i64 0]++([.int .i64 0]++([.int .i64 0]++([.bool false]++([.bool false]++(lq.zero.arr.toList++([.bool false]++(Vl.zero.arr.toList++([.bool false]++[])))))))))):List Value).toArray) (n:=63) (by rw[kH.mM,lq.mM,Vl.mM];kernel_rfl) λU w=>by
 rw[qZ];simp only[acq,pb,mF,kq,kA,Rd,qQ,ov];exact⟨by simp[kH.mM,Vl.mM,lq.mM],[_],_,rfl,⟨rfl,rfl⟩,_,_,rfl,kH.rd.2 rfl,[_],_,rfl,⟨rfl,rfl⟩,[_],_,rfl,⟨rfl,rfl⟩,[_],_,rfl,⟨rfl,rfl⟩,[_],_,rfl,⟨rfl,rfl⟩,[_],_,rfl,⟨rfl,rfl⟩,_,_,rfl,lq.rd.2 rfl,[_],_,rfl,⟨rfl,rfl⟩,_,_,rfl,Vl.rd.2 rfl,[_],_,rfl,⟨rfl,rfl⟩,rfl⟩
def KA:AV:=.agg 7 [kq 0,kq 0,kA false,kA false,.v (.pointer none),kq 0,kq 0]
def O4:lB prog 169 KA:=lR (v:=.agg ([.int .i64 0]++([.int .i64 0]++([.bool false]++([.bool false]++([.pointer none]++([.int .i64 0]++([.int .i64 0]++[])))))):List Value).toArray) (n:=7) j6 λU w=>by
 rw[qZ];simp only[KA,pb,mF,kq,kA,Rd,qQ,ov];exact ee
def O5:AV:=.agg 4 [mF,kq 0,.v (.pointer none),.v (.pointer none)]
def RA:lB prog 143 O5:=lR (v:=.agg ([.slice none 0 0]++([.int .i64 0]++([.pointer none]++([.pointer none]++[]))):List Value).toArray) (n:=4) j6 λU w=>by
 rw[qZ];simp only[O5,pb,mF,kq,kA,Rd,qQ,ov];exact ee
def akj:AV:=.agg 1 [.v (.pointer none)]
def Rz:lB prog 100 akj:=lR (v:=.agg ([.pointer none]++[]:List Value).toArray) (n:=1) j6 λU w=>by
 rw[qZ];simp only[akj,pb,mF,kq,kA,Rd,qQ,ov];exact⟨O,[_],_,rfl,⟨O,rfl⟩,rfl⟩
def UU:AV:=.agg 26 [kq 0,.arr 8 1 [kq 0,kq 0,kq 0,kq 0,kq 0,kq 0,kq 0,kq 0],.arr 8 1 [kq 0,kq 0,kq 0,kq 0,kq 0,kq 0,kq 0,kq 0],.arr 8 1 [kq 0,kq 0,kq 0,kq 0,kq 0,kq 0,kq 0,kq 0],kq 0]
def UL:lB prog 161 UU:=lR (v:=.agg ([.int .i64 0]++([.int .i64 0,.int .i64 0,.int .i64 0,.int .i64 0,.int .i64 0,.int .i64 0,.int .i64 0,.int .i64 0]++([.int .i64 0,.int .i64 0,.int .i64 0,.int .i64 0,.int .i64 0,.int .i64 0,.int .i64 0,.int .i64 0]++([.int .i64 0,.int .i64 0,.int .i64 0,.int .i64 0,.int .i64 0,.int .i64 0,.int .i64 0,.int .i64 0]++([.int .i64 0]++[])))):List Value).toArray) (n:=26) j6 λU w=>by
 rw[qZ];simp only[UU,pb,mF,kq,kA,Rd,qQ,ov];exact⟨O,[_],_,rfl,⟨O,rfl⟩,[_,_,_,_,_,_,_,_],_,rfl,⟨O,[_],_,rfl,rfl,⟨O,rfl⟩,[_],_,rfl,rfl,⟨O,rfl⟩,[_],_,rfl,rfl,⟨O,rfl⟩,[_],_,rfl,rfl,⟨O,rfl⟩,[_],_,rfl,rfl,⟨O,rfl⟩,[_],_,rfl,rfl,⟨O,rfl⟩,[_],_,rfl,rfl,⟨O,rfl⟩,[_],_,rfl,rfl,⟨O,rfl⟩,rfl⟩,[_,_,_,_,_,_,_,_],_,rfl,⟨O,[_],_,rfl,rfl,⟨O,rfl⟩,[_],_,rfl,rfl,⟨O,rfl⟩,[_],_,rfl,rfl,⟨O,rfl⟩,[_],_,rfl,rfl,⟨O,rfl⟩,[_],_,rfl,rfl,⟨O,rfl⟩,[_],_,rfl,rfl,⟨O,rfl⟩,[_],_,rfl,rfl,⟨O,rfl⟩,[_],_,rfl,rfl,⟨O,rfl⟩,rfl⟩,[_,_,_,_,_,_,_,_],_,rfl,⟨O,[_],_,rfl,rfl,⟨O,rfl⟩,[_],_,rfl,rfl,⟨O,rfl⟩,[_],_,rfl,rfl,⟨O,rfl⟩,[_],_,rfl,rfl,⟨O,rfl⟩,[_],_,rfl,rfl,⟨O,rfl⟩,[_],_,rfl,rfl,⟨O,rfl⟩,[_],_,rfl,rfl,⟨O,rfl⟩,[_],_,rfl,rfl,⟨O,rfl⟩,rfl⟩,[_],_,rfl,⟨O,rfl⟩,rfl⟩
def U0:AV:=.agg 5 [mF,.v (.map none),.v (.map none),mF,kq 0]
def UR:lB prog 217 U0:=lR (v:=.agg ([.slice none 0 0]++([.map none]++([.map none]++([.slice none 0 0]++([.int .i64 0]++[])))):List Value).toArray) (n:=5) j6 λU w=>by
 rw[qZ];simp only[U0,pb,mF,kq,kA,Rd,qQ,ov];exact ee
def acs:AV:=.agg 4 [.v (.pointer none),.v (.pointer none),mF,.v (.map none)]
def aab:lB prog 153 acs:=lR (v:=.agg ([.pointer none]++([.pointer none]++([.slice none 0 0]++([.map none]++[]))):List Value).toArray) (n:=4) j6 λU w=>by
 rw[qZ];simp only[acs,pb,mF,kq,kA,Rd,qQ,ov];exact ee
def UW:AV:=.agg 2 [mF,mF]
def Kx:lB prog 276 UW:=lR (v:=.agg ([.slice none 0 0]++([.slice none 0 0]++[]):List Value).toArray) (n:=2) j6 λU w=>by
 rw[qZ];simp only[UW,pb,mF,kq,kA,Rd,qQ,ov];exact ee
def UY:AV:=.agg 7 [.v (.pointer none),.v (.pointer none),mF,mF,mF,qU 0#64,kq 0]
def UP:lB prog 93 UY:=lR (v:=.agg ([.pointer none]++([.pointer none]++([.slice none 0 0]++([.slice none 0 0]++([.slice none 0 0]++([.int .u64 0]++([.int .i64 0]++[])))))):List Value).toArray) (n:=7) j6 λU w=>by
 rw[qZ];simp only[UY,pb,mF,kq,kA,qU,Rd,qQ,ov];exact⟨O,[_],_,rfl,⟨O,rfl⟩,[_],_,rfl,⟨O,rfl⟩,[_],_,rfl,⟨O,rfl⟩,[_],_,rfl,⟨O,rfl⟩,[_],_,rfl,⟨O,rfl⟩,[_],_,rfl,⟨O,by rw[qM]⟩,[_],_,rfl,⟨O,rfl⟩,rfl⟩
def UZ:AV:=.agg 13 [kq 0,kq 0,kq 0,kA false,kA false,pb false mF mF mF mF,mF,kq 0,mF]
def UQ:lB prog 85 UZ:=lR (v:=.agg ([.int .i64 0]++([.int .i64 0]++([.int .i64 0]++([.bool false]++([.bool false]++([.bool false,.slice none 0 0,.slice none 0 0,.slice none 0 0,.slice none 0 0]++([.slice none 0 0]++([.int .i64 0]++([.slice none 0 0]++[])))))))):List Value).toArray) (n:=13) j6 λU w=>by
 rw[qZ];simp only[UZ,pb,mF,kq,kA,Rd,qQ,ov];exact⟨O,[_],_,rfl,⟨O,rfl⟩,[_],_,rfl,⟨O,rfl⟩,[_],_,rfl,⟨O,rfl⟩,[_],_,rfl,⟨O,rfl⟩,[_],_,rfl,⟨O,rfl⟩,[_,_,_,_,_],_,rfl,ee,[_],_,rfl,⟨O,rfl⟩,[_],_,rfl,⟨O,rfl⟩,[_],_,rfl,⟨O,rfl⟩,rfl⟩
def RB(t:TypeId):Option AV:=
 bif Nat.beq t 226 then some acp else
 bif Nat.beq t 268 then some U1 else
 bif Nat.beq t 219 then some aki else
 bif Nat.beq t 223 then some UX else
 bif Nat.beq t 249 then some acr else
 bif Nat.beq t 231 then some UT else
 bif Nat.beq t 228 then some acq else
 bif Nat.beq t 169 then some KA else
 bif Nat.beq t 143 then some O5 else
 bif Nat.beq t 100 then some akj else
 bif Nat.beq t 161 then some UU else
 bif Nat.beq t 217 then some U0 else
 bif Nat.beq t 153 then some acs else
 bif Nat.beq t 276 then some UW else
 bif Nat.beq t 93 then some UY else
 bif Nat.beq t 85 then some UZ else
 none
variable {t:TypeId}{z:AV}
def Ky(h:RB t=some z):lB prog t z:=by
 unfold RB at h;refine n4 Z8 (λh=>?_) h;refine n4 US (λh=>?_) h;refine n4 acm (λh=>?_) h;refine n4 UN (λh=>?_) h;refine n4 aaa (λh=>?_) h;refine n4 UK (λh=>?_) h;refine n4 Z9 (λh=>?_) h;refine n4 O4 (λh=>?_) h;refine n4 RA (λh=>?_) h;refine n4 Rz (λh=>?_) h;refine n4 UL (λh=>?_) h;refine n4 UR (λh=>?_) h;refine n4 aab (λh=>?_) h;refine n4 Kx (λh=>?_) h;refine n4 UP (λh=>?_) h;refine n4 UQ (λh=>?_) h;cases h
variable {E:su}{nt:Nat}{ops:Array Oper}{T:Nat->Option AV}{H:Hp}{d:Option Nat}{ty:TypeId}{pos:String}{af:Array Edge}{gd:Option (Nat×Bool)}
variable {n:Nat}{vs:List (Nat×AV)}{zs out out':List AV}
variable {g:Nat}
variable {es len:Nat}{ea:Bool}{J:List AV}
section
def XE{t:Nat}{fs:List (Nat×Nat×Bool)}{l:List (Nat×Operand)}(e:RB t=some (.agg n zs))(o:lK nt d=true)(p:kM.ti t=some (.st n fs))(y:pL T l=some vs)(U:um vs zs=some out)(z:EF out=some out')(X:tF 0 zs fs=true):
 kE prog E nt ops ⟨d,.build t l.toArray,ty,pos,af,gd⟩ T H [] ⟨.agg n out',[]⟩:=sI (Ky e) O o p y U z X
def O7{e:TypeId}(d:RB e=some z)(n:lK nt (some g)=true)(t:H g=none):kE prog E nt ops ⟨some g,.alloc e,ty,pos,af,gd⟩ T H [] ⟨.ptr g 0 [],[(g,.var z)]⟩:=oR (Ky d) n t
def O6{e:TypeId}{bytes:Nat}{l:List (Nat×Operand)}(o:kM.ti t=some (.sl e (es+1) bytes ea))(d:RB e=some z)(v:lE z=es+1)(n:lK nt (some g)=true)(y:Fj T (es+1) 0 l=some out)(u:H g=none)
 (U:out.length=len+1) (B:Nat.ble ((len+1)*(es+1)) 16777216=true) (f:tA out=some J):
 kE prog E nt ops ⟨some g,.buildSlice t (len+1) l.toArray,ty,pos,af,gd⟩ T H [] ⟨.sl (some g) (es+1) J,[(g,.tail e (es+1) (len+1))]⟩:=qo (Ky d) v n o y u U B f
end
variable {B:nE}{a:Act}{w:World}
section
theorem ag1(r:mg E nt B T H a w){ty:TypeId}{pos:String}{af:Array Edge}{gd:Option (Nat×Bool)}{x y:Operand}{t:TypeId}{l:nz}{p:List Nat}{b off o:Nat}{X:kY}{xb xb':XB}{u u' v old:AV}{c':List Value}(h:a.eval x= .pointer (some ⟨b,off,none⟩))(hc1:Rd (kI E B H) w v B H c')(hc2:a.eval y=m9 v c')(D:mO v=true)(Z:H 4999=some (.ext (Sg X)))(I:X l=some xb)(f:vc xb=some (b,o,u))(Y:sU p u=some old)(U:o+tj p u=off)
 (k:xM v p u=some u') (hu':Ek xb p u'=some xb') (s:kM.sa t=some (na v,lE v)) (hs':lE v=lE old):
 (execOp a.eval ⟨none,.store t x y,ty,pos,af,gd⟩).run prog w= .ok .skip (mw w b off c'.toArray)/\mg E nt B T (l9 H 4999 (.ext (Sg (X.put l xb')))) a (mw w b off c'.toArray):=by
 have P:=r.El Z I;obtain⟨cur,e,c,g,k2,k3,M⟩:=KD P f;obtain⟨c1,c2,c3,rfl,N,K,W⟩:=wz p M Y;have j:c'.length=c2.length:=by rw[nJ hc1,nJ K,hs']
 have hfit:off+c'.length<=cur.size:=by simp at k2;omega
 have hst:=wc (kM.u5 s) (off:=off) (v:=a.eval y) (c:=c') iX g (nJ hc1) i1 (EX v hc1);have hput:=mB (off:=off) (cs:=c'.toArray) g;have hsp:(lY cur off c'.toArray).size=cur.size:=oL _ _ _ jx;have hy2:=W v u' c' k (pQ v D hc1) j
 have hcell:∀q,q<(c1++c'++c3).length->(lY cur off c'.toArray)[o+q]?=(c1++c'++c3)[q]? :=λq m=>by
  rw[mn jx];have C:=k3 q (by simp at m⊢;omega);by_cases d:off<=o+q/\o+q<off+c'.toArray.size
  .rw[kx d];obtain⟨d,h2⟩:=d;rw[pF (by simp at h2⊢;omega),o7 kh];simp only[AZ]
   congr 1;omega
  .rw[ku d,C];exact aX
 have hat:xb.at=some b/\xb'.at=some b:=by
  cases xb with
  |var b' y'=>
   simp only[vc,Ek,mr,pq]at f hu';obtain⟨rfl,_⟩:=f;subst hu';exact eB
  |my e n A cap G=>
   cases A with
   |none=>cases f
   |some A=>
    obtain⟨b',o'⟩:=A;simp only[vc,mr,pq]at f;obtain⟨rfl,_⟩:=f;cases p with
    |nil=>cases u'<;>simp[Ek]at hu'
    |cons i p=>
    cases u'<;>simp only[Ek,reduceCtorEq,mr]at hu';subst hu';exact eB
  |ob b' o'=>cases f
 have L:(execOp a.eval ⟨none,.store t x y,ty,pos,af,gd⟩).run prog w= .ok .skip (mw w b off c'.toArray):=by simp[execOp,h,Instr.storeAt,Instr.sureAddr,hst]
 refine⟨L,r.U2 Z I hat.1 hat.2 oZ (.inl ⟨cur,_,e,(0,0),g,hput,hsp⟩) λevo=>?_⟩;have hy3:=n6 evo (λ_ _ _ h=>h) u' (qt.nj _ _) hy2;cases xb with
 |var b' y'=>
  simp only[vc,Ek,mr,pq]at f hu';obtain⟨rfl,rfl,rfl⟩:=f;subst hu';obtain⟨cs,t0,R,m2⟩:=P;rw[g]at R;injection R with R;injection R with R m3 _;subst R m3
  have hn:=nJ m2;have hn4:=nJ M;refine⟨c1++c'++c3,e,?_,hy3⟩;rw[hput]
  congr 2
  apply qB;intro q;by_cases m:q<(c1++c'++c3).length
  .have:=hcell q m;rw[oa]at this;rw[this];simp
  .rw[ru (by rw[hsp];simp at hn m hn4⊢;omega),ru (by simp at m⊢;omega)]
 |my e' n A cap G=>
  cases A with
  |none=>cases f
  |some A=>
   obtain⟨b',o'⟩:=A;simp only[vc,mr,pq]at f;obtain⟨rfl,rfl,rfl⟩:=f;obtain⟨m0,R,m2,cur0,S,m3,m4,m5,m6⟩:=P;rw[g]at m3;injection m3 with m3;injection m3 with m3 m7 _;subst m3 m7
   cases p with
   |nil=>cases u'<;>simp[Ek]at hu'
   |cons i p=>
   cases u'<;>simp only[Ek,reduceCtorEq,mr]at hu';rename_i m' n' J;subst hu'
   have hn':n'=n/\m'=G.length*n:=by
    simp only[xM]at k;split at k
    .simp only[s9]at k;obtain⟨z,_,F⟩:=k;injection F with N K W;exact⟨K.symm,N.symm⟩
    .cases k
   obtain⟨rfl,rfl⟩:=hn';simp only[Rd]at hy3
   have V:J.length=G.length:=by
    have d:=lG hy3.2;have h2:=hy3.1;rw[d]at h2;exact Q1 m0 h2
   refine⟨m0,by omega,m2,_,c1++c'++c3,hput,by rw[hsp];exact m4,λq m=>hcell q ?_,hy3.2⟩;rw[lG hy3.2];exact m
 |ob b' o'=>cases f
end
variable {x y:Operand}{l:nz}
variable {f:FuncId}{ats:Array TypeId}{G:List AV}{X:kY}{M:kY->Value->Prop}
variable {s:Operand}{cap:Nat}{p:List Nat}{A:Option (Nat×Nat)}{src:AV}
variable {l':nz}{p':List Nat}{b o':Nat}
variable {ix:Operand}{tn off:Nat}{k:IntKind}
section
def StH(M M':kY->(Nat->Value)->Prop)(l W:nz)(p:List Nat)(b off g:Nat):Prop:=∀X y,M X y-> ∃xb xb' o u I old,X l=some xb/\vc xb=some (b,o,u)/\sU p u=some old/\o+tj p u=off/\xM (.raw W [] (y g)) p u=some I/\Ek xb p I=some xb'/\lE old=1/\M' (X.put l xb') y
def PK(W:nz){p:List Nat}{b off g:Nat}{M M':kY->(Nat->Value)->Prop}(k:kv T x=some (.raw l p (.pointer (some ⟨b,off,none⟩))))(F:kv T y=some (.hv g))(z:H 4999=some (.ext M))(q:kM.sa t=some (false,1))(P:StH M M' l W p b off g):
 kE prog E nt ops ⟨none,.store t x y,ty,pos,af,gd⟩ T H [4999] ⟨.mz [],[(4999,.ext M')]⟩:=by
 intro T' H' s D n B a w r K Q G;have Y:=(D 4999 ki).trans z;have h:=r.pe ((mv s js).trans k);have hv2:=r.eval ((mv s (x:=y) js).trans F);rw[kJ ki]at hv2;obtain⟨c',R,hc2⟩:=hv2;simp only[Rd]at R;obtain⟨_,A,rfl⟩:=R;obtain⟨_,L,X,c,d,m⟩:=r.nB Y;obtain⟨xb,xb',o,u,Z,old,N,m2,C,S,U,m6,m7,m8⟩:=P X B.hv c;have I:=r.DS (M':=Sg X) Y ⟨X,rfl,d,m⟩;obtain⟨f,k2⟩:=ag1 I (ty:=ty) (pos:=pos) (af:=af) (gd:=gd) (y:=y) (t:=t) (v:=.raw W [] (B.hv g)) (c':= [B.hv g]) h (by simp[Rd,A]) hc2 rfl (kB _ _ _) N m2 C S U m6 q m7.symm;obtain⟨_,_,J,i,V,n3⟩:=k2.nB (kB _ _ _);subst i;have k3:=k2.DS (M':=M') (kB _ _ _) ⟨_,m8,V,n3⟩;unfold Oper.wp;rw[f]
 have e:∀M1 M2:kY->(Nat->Value)->Prop,l9 (l9 (l9 H' 4999 (.ext M1)) 4999 (.ext M2)) 4999 (.ext M')=nA H' [(4999,.ext M')]:=λM1 M2=>by
  funext j;simp only[nA,l9];by_cases c1:j=4999
  .simp[c1]
  .simp[c1]
 rw[e]at k3;exact G B _ _ k3
def pt{k:Nat}{l:List Operand}{y:AV}(g:H 4999=some (.ext (Sg X)))(j:td T l=some G)(e:tA G=some J)(N:G.all lS=true)(t:H k=none)(u:BB f J X y M)(F:O8 y=true)(n:lK nt (some k)=true):
 kE prog E nt ops ⟨some k,.call {callee:=.value (.func f),args:=l.toArray,argTypes:=ats},ty,pos,af,gd⟩ T H [4999] ⟨Hf k y,[(4999,.ext (λC z=>M C (z k))),(k,.hid)]⟩:=by
 obtain⟨fn,a,b,m,A⟩:=u;exact SL (caps:= []) k g t A F n a b m O (o6 j) N λH=>by rw[oT];exact pU _ _ e
def C1{k:Nat}{tx e:TypeId}{bytes i:Nat}(o:kM.ti t=some (.sl e es bytes ea))(j:kv T s=some (.raw l p (sv es A i cap)))(F:kv T x=some src)(f:H 4999=some (.ext (Sg X)))(g:X l=some (.my e es A cap G))(u:H k=none)(hi:i<=G.length)
 (I:Nt X tx es src J) (U:(i+J.length)*bytes<=140737488355328) (a:i+J.length<=9223372036854775807) (n:lK nt (some k)=true):
 kE prog E nt ops ⟨some k,.call {callee:=.builtin .append,args:= #[s,x],argTypes:= #[t,tx]},ty,pos,af,gd⟩ T H [4999]
  ⟨.hv k,[(4999,.ext (λC y=>∃R L,C=X.put l (.my e es R L (G.take i++J))/\y k=sv es R (i+J.length) L/\(i+J.length<=cap->R=A/\L=cap))),(k,.hid)]⟩:=
 V8 k o j F f g u hi I U a n
def ahJ{e:TypeId}{j:TypeInfo}(c:prog.underlying t=some (.pointer e))(L:prog.info? e=some j)(i:j.size≠0)(b o o':Nat)(w:World):(Op.equal t (.pointer (some ⟨b,o,none⟩)) (.pointer (some ⟨b,o',none⟩))).run prog w= .ok (decide (o=o')) w:=by
 have:∀d:Nat,(Op.equalIn (d+1) t (.pointer (some ⟨b,o,none⟩)) (.pointer (some ⟨b,o',none⟩))).run prog w= .ok (decide (o=o')) w:=λd=>by
  simp[Op.equalIn,lu c,sizeOf,typeInfo,L,i,sameAddr];by_cases h:o=o'
  .subst h;simp
  .simp[h]
 exact this 9999
def ak6{tx e:TypeId}{j:TypeInfo}{o:Nat}(g:prog.underlying t=some (.pointer e))(L:prog.info? e=some j)(i:j.size≠0)(k:kv T x=some (.raw l p (.pointer (some ⟨b,o,none⟩))))(F:kv T y=some (.raw l' p' (.pointer (some ⟨b,o',none⟩))))(n:lK nt d=true):
 kE prog E nt ops ⟨d,.binOp .eql t x y tx,ty,pos,af,gd⟩ T H [] ⟨kA (decide (o=o')),[]⟩:=
 lO n λB T' H' a w r s D=>by have c:=r.pe ((s x js).trans k);have f:=r.pe ((s y js).trans F);exact⟨.bool (decide (o=o')),by simp[execOp,c,f,eqGuard,binOp,ahJ g L i],by rw[kA,nM];exact⟨O,rfl⟩⟩
def K3{e:TypeId}(b:prog.underlying t=some (.pointer e))(A:Option Addr)(w:World):(Op.equal t (.pointer A) (.pointer none)).run prog w= .ok A.isNone w:=by
 have:∀d:Nat,(Op.equalIn (d+1) t (.pointer A) (.pointer none)).run prog w= .ok A.isNone w:=λd=>by
  cases A<;>simp[Op.equalIn,lu b]
 exact this 9999
def sF{tx e:TypeId}{A:Option Addr}(f:prog.underlying t=some (.pointer e))(j:kv T x=some (.raw l p (.pointer A)))(F:kv T y=some (.v (.pointer none)))(n:lK nt d=true):
 kE prog E nt ops ⟨d,.binOp .eql t x y tx,ty,pos,af,gd⟩ T H [] ⟨kA A.isNone,[]⟩:=
 lO n λB T' H' a w r s D=>by have b:=r.pe ((s x js).trans j);have c:=r.od ((s y js).trans F);exact⟨.bool A.isNone,by simp[execOp,b,c,eqGuard,binOp,K3 f],by rw[kA,nM];exact⟨O,rfl⟩⟩
def sE{tx e:TypeId}{A:Option Addr}(f:prog.underlying t=some (.pointer e))(j:kv T x=some (.raw l p (.pointer A)))(F:kv T y=some (.v (.pointer none)))(n:lK nt d=true):
 kE prog E nt ops ⟨d,.binOp .neq t x y tx,ty,pos,af,gd⟩ T H [] ⟨kA A.isSome,[]⟩:=
 lO n λB T' H' a w r s D=>by have b:=r.pe ((s x js).trans j);have c:=r.od ((s y js).trans F);exact⟨.bool A.isSome,by cases A<;>simp[execOp,b,c,eqGuard,binOp,K3 f],by rw[kA,nM];exact⟨O,rfl⟩⟩
def t7{tx e:TypeId}(f:prog.underlying t=some (.pointer e))(j:kv T x=some (.v (.pointer none)))(F:kv T y=some (.v (.pointer none)))(n:lK nt d=true):
 kE prog E nt ops ⟨d,.binOp .neq t x y tx,ty,pos,af,gd⟩ T H [] ⟨kA false,[]⟩:=
 lO n λB T' H' a w r s D=>by have b:=r.od ((s x js).trans j);have c:=r.od ((s y js).trans F);exact⟨.bool false,by simp[execOp,b,c,eqGuard,binOp,K3 f],by rw[kA,nM];exact⟨O,rfl⟩⟩
def Cj{e:TypeId}{i:Nat}{n:Int}(q:kM.ti t=some (.arr tn len es ea e))(m:kv T x=some (.raw l p (.pointer (some ⟨b,off,none⟩))))(hi:kv T ix=some (.v (.int k n)))(C:Bs n=some i)(g:i<len)(o:lK nt d=true):
 kE prog E nt ops ⟨d,.indexAddr t x ix,ty,pos,af,gd⟩ T H [] ⟨.raw l (p++[i]) (.pointer (some ⟨b,off+i*es,none⟩)),[]⟩:=
 lO o λB T' H' a w r s D=>by have h:=r.pe ((s x js).trans m);have j:=r.od ((s ix js).trans hi);have P:=uI C;subst P;obtain⟨_,hu,L⟩:=kM.ok t _ q;have f:=lC L w;have F:(i:Int)<(len:Int):=eY;exact⟨.pointer (some ⟨b,off+i*es,none⟩),by simp[execOp,h,j,Instr.indexAt,lu hu,asIntOf,f,g,F,ss,Instr.sureAddr],Bn rfl⟩
end
def SJ(y:Nat->Value):AV->AV
 | .hv g=>.raw (0,0) [] (y g)
 |x=>x
def ad5(y:Nat->Value):List (Nat×AV)->List (Nat×AV)
 | []=> []
 |p::l=>(p.1,SJ y p.2)::ad5 y l
theorem Tg(y:Nat->Value)(k:Nat):∀l:List (Nat×AV),kV k (ad5 y l)=(kV k l).map (SJ y)
 | []=>rfl
 |p::l=>by
  simp only[ad5,kV];cases Nat.beq p.1 k
  .exact Tg y k l
  .rfl
abbrev PC(y:Nat->Value)(X:kY)(S:St):St:=⟨ad5 y S.T,(4999,.ext (Sg X))::S.H⟩
variable {S:St}
def mg.SK{M:kY->(Nat->Value)->Prop}(r:mg E nt B S.t S.h a w)(t:kV 4999 S.H=some (.ext M)):∃X,M X B.hv/\mg E nt B (PC B.hv X S).t (PC B.hv X S).h a w:=by
 obtain⟨_,K,X,b,c,k⟩:=r.nB (H:=S.h) t;have I:=r.DS (M':=Sg X) t ⟨X,rfl,c,k⟩;have e:(PC B.hv X S).h=l9 S.h 4999 (.ext (Sg X)):=kZ _ _ _;refine⟨X,b,?_⟩;rw[e];refine⟨I.nt,I.df,λs x j=>?_,I.box,I.x3,I.inj,I.left,I.qa,I.fx⟩;have o:kV s (ad5 B.hv S.T)=some x:=j;rw[Tg]at o;obtain⟨y,F,rfl⟩:=s9.1 o;obtain⟨v,m,l⟩:=I.tmp s y F;refine⟨v,m,?_⟩;cases y with
 |hv g=>
  rw[kJ ki]at l;obtain⟨n,U,R⟩:=l;simp only[Rd]at U;obtain⟨_,z,rfl⟩:=U;exact qI.2 ⟨z,R⟩
 |_=>exact l
def agB(P:Program)(M:kY->Value->Prop)(rv:List ResultVar)(J:List AV)(e:Exit)(S:St):Prop:=(e= .normal∨e= .ret)/\ ∃C,kV 4999 S.H=some (.ext C)/\ ∀X y,C X y-> ∃v,M X v/\Ej P (PC y X S) v rv J
variable {P:Program}{fn:Func}{args:List AV}{r:AV}{rv:List ResultVar}
def Xs{c:Code}(z:P.funcs[f]?=some fn)(d:fn.body=some c)(N:fn.ntmps=nt)(g:fn.results=rv.toArray)(D:args.length<=nt)(J:List AV)(F:Ai J=r)
 (h:∀E,(∀b,¬E.E3 b)->AW P E nt c ⟨rY 0 args,HX X⟩ (agB P M rv J)):mZ P f args X r M:=
 nW z d N g D J F λE S B a w H=>vz (h E S B a w H) λe a w ⟨B',S',h1,h2,M0,h3,h4⟩=>by
  obtain⟨C,R,k⟩:=h1.SK h3;obtain⟨v,y,A⟩:=h4 C B'.hv R;exact⟨B',PC B'.hv C S',k,h2,C,v,rfl,y,A⟩
def kz{c:Code}(z:P.funcs[f]?=some fn)(d:fn.body=some c)(N:fn.ntmps=nt)(g:fn.results=rv.toArray)(B:args.length<=nt)(J:List AV)(F:Ai J=r)
 (h:∀E,(∀b,¬E.E3 b)->(!true)=false->(!false)=true->AW P E nt c ⟨rY 0 args,HX X⟩ (agB P M rv J)):mZ P f args X r M:=
 Xs z d N g B J F λE S=>h E S O O
variable {C:kY}{v:Value}
def uq{e:Exit}(L:e= .normal∨e= .ret)(f:kV 4999 S.H=some (.ext (Sg C)))(N:M C v)(H:∀y,Ej P (PC y C S) v rv J):agB P M rv J e S:=⟨L,_,f,λX y h=>⟨v,by rw[show X=C from h];exact N,by rw[show X=C from h];exact H y⟩⟩
def ns{e:Exit}(f:kV 4999 S.H=some (.ext (Sg C)))(N:M C undef)(H:∀y,Ej P (PC y C S) undef rv J)(L:e= .normal∨e= .ret:=by first|exact .inl O|exact .inr O):agB P M rv J e S:=uq L f N H
def Kv{e:Exit}{C:kY->(Nat->Value)->Prop}(L:e= .normal∨e= .ret)(f:kV 4999 S.H=some (.ext C))(h:∀X y,C X y-> ∃v,M X v/\Ej P (PC y X S) v rv J):agB P M rv J e S:=⟨L,C,f,h⟩
variable {R:Prop}
def wHs{Q:Prop}(k:R)(h:zT R->Q:=by intro kHid;((first|refine Ip ?_|(first|(apply Wv;(focus (first|exact oB O O|exact Lh O O|exact HH O O O O|exact Ob O O gF O O O O O|exact Li O O O|exact PO O O O|exact PM O O O O|exact Lj O O O O iF O|exact Jt O O O O j5 j7 O|exact Ju O O O j5 gE j7 O|exact qx O O O O j5|exact Cj O O O O iP O|exact sF qG O O O|exact sE qG O O O|exact t7 qG O O O|exact sF qg O O O|exact sE qg O O O|exact t7 qg O O O|exact sF qF O O O|exact sE qF O O O|exact t7 qF O O O|exact sF qE O O O|exact sE qE O O O|exact t7 qE O O O|exact sF qD O O O|exact sE qD O O O|exact t7 qD O O O|exact vW O O O O iP|exact tl O O O|exact vV O O O|exact rW O O O kh|exact uh O O O kh|exact sG O O O kh|exact vf O O O kh|exact wQ O O O|exact t5 O O O O O|exact vb O O O O O O O|exact XE O O O O O O O|exact Am O O O|exact w9 O O O O O O j5));(focus exact ig))|(apply Wc;(focus (exact C1 O O O O gF O (kK _) (KY (uz kM O)) iO iO O));(focus exact ig))|(apply Wc;(focus (exact pt O O O O O jh j7 O));(focus exact ig))|(apply Wb;(focus (first|exact y6 O O O|exact xY O O O O O iu iO iO|exact xW O O O O O iu iO iO|exact xX O O O O O iu iO iO|exact zB O O O O|exact tQ O O O|exact O7 O O O|exact Jv O O O O j5 j7 O|exact xH O O O O O O O O O|exact O6 O O O O O O O O O));(focus exact ig))|(apply Ws;(focus (first|exact ID O O O O O gF O O O O O O j7|exact nX kM (d:=none) O O O O O O O O O O));(focus exact ig))|(refine sN gS O ?_)|refine Mx O O iK ?_|refine My O O iK ?_|(refine Mz O O jh ?_)|(refine tc _ j5 ?_))));exact kHid.out):Q:=h ⟨k⟩
def wH{Q:Prop}(k:R)(h:zT R->Q:=by intro kHid;(repeat refine wHs ?_);exact kHid.out):Q:=h ⟨k⟩
def bsr(l:List Int)(x:Int):Nat->Nat->Nat->Nat
 |0,i,_=>i
 |f+1,i,h=>if i<h then(if l.getD ((i+h)/2) 0<x then bsr l x f ((i+h)/2+1) h else bsr l x f i ((i+h)/2))else i
def Nk(l:List Int)(x:Int):Nat:=bsr l x l.length 0 l.length
theorem W3(l:List Int)(x:Int):∀f i h,i<=h->bsr l x f i h<=h
 |0,i,h,e=>e
 |f+1,i,h,e=>by
  unfold bsr;split
  .split
   .exact W3 l x f _ _ kh
   .exact oG (W3 l x f _ _ kh) kh
  .exact e
def W4(l:List Int)(x:Int):Nk l x<=l.length:=W3 l x _ _ _ (kO _)
def ajX{l:List Int}{i:Nat}(h:i<l.length):l.getD i 0=l[i]:=by simp[List.getD,h]
def AS(P:Program)(E:su)(nt:Nat)(ops:Array Oper)(l:List Oper)(S:St)(Q:Exit->St->Prop):Prop:=
 ∀i,ops.toList.drop i=l-> ∀B a w,mg E nt B S.t S.h a w->wpOps P ops (λe W w'=>∃B' S',mg E nt B' S'.t S'.h W w'/\Q e S') (List.range' i l.length) a w
variable {Q:Exit->St->Prop}
variable {S':St}
variable {rh:List Nat}
section
variable {l:List Oper}
def agQ{id:Nat}{l:List Oper}(h:AS P E nt l.toArray l S Q):AW P E nt (.region id l.toArray false) S Q:=λB a w r=>by
 refine wp_region ?_;have:=h 0 ki B a w r;rw[Me];simpa using this
def an8(S:St)(h:Q .normal S):AS P E nt ops [] S Q:=λi hi B a w r=>⟨B,S,r,h⟩
def l7(h:lL E nt S S')(k:AS P E nt ops l S' Q):AS P E nt ops l S Q:=λi hi B a w r=>by
 obtain⟨B',m⟩:=h B a w r;exact k i hi B' a w m
def agR{o:Oper}{i:Nat}(g:ops.toList.drop i=o::l):ops[i]?=some o/\ops.toList.drop (i+1)=l:=by
 have hi:i<ops.size:=by exact dm
 rw[ts jz]at g;injection g with a b;exact⟨by rw[<-a];simp,b⟩
def Z2{o:Oper}{e:Eff}(F:kE P E nt ops o S.t S.h rh e)(f:kN ops o S.t=some true)(h:AS P E nt ops l (S.app o.dst e) Q):AS P E nt ops (o::l) S Q:=λi hi B a w r=>by
 obtain⟨b,c⟩:=agR hi;rw[sc,H8];simp only[wpOps,b];rw[kx (rf r f)];refine .inl (F S.t S.h (λ_ _=>rfl) (λ_ _=>rfl) (λ_ _=>rfl) B a w r _ _ λB' W w' k=>?_);rw[<-St.T2,<-St.T3]at k;exact h (i+1) c B' W w' k
def amF{o:Oper}(e:kN ops o S.t=some false)(n:lK nt o.dst=true)(h:AS P E nt ops l (S.app o.dst ⟨.mz [],[]⟩) Q):AS P E nt ops (o::l) S Q:=λi hi B a w r=>by
 obtain⟨b,c⟩:=agR hi;rw[sc,H8];simp only[wpOps,b];rw[ku (by rw[rf r e];simp)];have k:=r.undef n;have R:=St.T2 S o.dst ⟨.mz [],[]⟩;have d:=St.T3 S o.dst ⟨.mz [],[]⟩;simp only[nA]at d;rw[<-R,<-d]at k;exact h (i+1) c B _ w k
end
variable {op:Op}
variable {wr:List (Nat×Bx)}
section
variable {l:List Oper}{T:List (Nat×AV)}{H:List (Nat×Bx)}{d:Nat}
def Vv{v:AV}(F:kE P E nt ops ⟨some d,op,ty,pos,af,gd⟩ (St.t ⟨T,H⟩) (St.h ⟨T,H⟩) rh ⟨v,[]⟩)(e:kN ops ⟨some d,op,ty,pos,af,gd⟩ (St.t ⟨T,H⟩)=some true)
 (h:AS P E nt ops l ⟨(d,v)::T,H⟩ Q):AS P E nt ops (⟨some d,op,ty,pos,af,gd⟩::l) ⟨T,H⟩ Q:=Z2 F e h
def Vb{v:AV}{b:Bx}(F:kE P E nt ops ⟨some d,op,ty,pos,af,gd⟩ (St.t ⟨T,H⟩) (St.h ⟨T,H⟩) rh ⟨v,[(g,b)]⟩)(e:kN ops ⟨some d,op,ty,pos,af,gd⟩ (St.t ⟨T,H⟩)=some true)
 (h:AS P E nt ops l ⟨(d,v)::T,(g,b)::H⟩ Q):AS P E nt ops (⟨some d,op,ty,pos,af,gd⟩::l) ⟨T,H⟩ Q:=Z2 F e h
def Vs{v:AV}{b:Bx}(F:kE P E nt ops ⟨none,op,ty,pos,af,gd⟩ (St.t ⟨T,H⟩) (St.h ⟨T,H⟩) rh ⟨v,[(g,b)]⟩)(e:kN ops ⟨none,op,ty,pos,af,gd⟩ (St.t ⟨T,H⟩)=some true)
 (h:AS P E nt ops l ⟨T,(g,b)::H⟩ Q):AS P E nt ops (⟨none,op,ty,pos,af,gd⟩::l) ⟨T,H⟩ Q:=Z2 F e h
def Vc{v:AV}(F:kE P E nt ops ⟨some d,op,ty,pos,af,gd⟩ (St.t ⟨T,H⟩) (St.h ⟨T,H⟩) rh ⟨v,wr⟩)(e:kN ops ⟨some d,op,ty,pos,af,gd⟩ (St.t ⟨T,H⟩)=some true)
 (h:AS P E nt ops l ⟨(d,v)::T,wr++H⟩ Q):AS P E nt ops (⟨some d,op,ty,pos,af,gd⟩::l) ⟨T,H⟩ Q:=Z2 F e h
def aj9(e:kN ops ⟨some d,op,ty,pos,af,gd⟩ (St.t ⟨T,H⟩)=some false)(n:lK nt (some d)=true)
 (h:AS P E nt ops l ⟨(d,.mz [])::T,H⟩ Q):AS P E nt ops (⟨some d,op,ty,pos,af,gd⟩::l) ⟨T,H⟩ Q:=amF e n h
def Vas(s:Nat)(y:AV)(o:kV s T=some y)(h:AS P E nt ops l ⟨(s,y)::T,H⟩ Q):AS P E nt ops l ⟨T,H⟩ Q:=l7 (lL.as s y o) h
def agu(s:Nat)(b:Bool){c:Bool}(o:kV s T=some (.v (.bool c)))(u:c=b)(h:AS P E nt ops l ⟨(s,.v (.bool b))::T,H⟩ Q):AS P E nt ops l ⟨T,H⟩ Q:=by
 subst u;exact Vas s _ o h
end
variable {j:Nat}
section
variable {l:List Oper}{T:List (Nat×AV)}{H:List (Nat×Bx)}
def Vgt{s:Nat}{b:Bool}{p:Prop}[Decidable p](i:((ops[j]?).bind (·.dst))=some s)(o:kV s T=some (.v (.bool (decide p))))(X:p)(h:AS P E nt ops (⟨d,op,ty,pos,af,some (j,b)⟩::l) ⟨(s,.v (.bool true))::T,H⟩ Q):AS P E nt ops (⟨d,op,ty,pos,af,some (j,b)⟩::l) ⟨T,H⟩ Q:=agu s true o (kW X) h
def Vgf{s:Nat}{b:Bool}{p:Prop}[Decidable p](i:((ops[j]?).bind (·.dst))=some s)(o:kV s T=some (.v (.bool (decide p))))(X:¬p)(h:AS P E nt ops (⟨d,op,ty,pos,af,some (j,b)⟩::l) ⟨(s,.v (.bool false))::T,H⟩ Q):AS P E nt ops (⟨d,op,ty,pos,af,some (j,b)⟩::l) ⟨T,H⟩ Q:=agu s false o (la X) h
def Vgb{s:Nat}{b c e:Bool}(i:((ops[j]?).bind (·.dst))=some s)(o:kV s T=some (.v (.bool c)))(X:c=e)(h:AS P E nt ops (⟨d,op,ty,pos,af,some (j,b)⟩::l) ⟨(s,.v (.bool e))::T,H⟩ Q):AS P E nt ops (⟨d,op,ty,pos,af,some (j,b)⟩::l) ⟨T,H⟩ Q:=agu s e o X h
end
def KB(v:Value):AV->AV
 | .hv _=>.raw (0,0) [] v
 |x=>x
def KC(v:Value):AV->AV
 | .mz J=>.mz (J.map (KB v))
 |x=>KB v x
variable {U:u0}
section
def RD{y:AV}(F:RF y=true){c:List Value}(h:Rd U w (zi g y) B H c):Rd U w (KB (B.hv g) y) B H c/\m9 (zi g y) c=m9 (KB (B.hv g) y) c:=by
 cases y with
 |hv n=>
  simp only[zi,KB,Rd]at h⊢;obtain⟨i,a,rfl⟩:=h;exact⟨⟨a,rfl⟩,rfl⟩
 |_=>exact⟨h,rfl⟩
theorem Nw{g:Nat}:∀(J:List AV),J.all RF=true-> ∀{vs:List Value},oe U w (J.map (zi g)) B H vs->oe U w (J.map (KB (B.hv g))) B H vs
 | [],_,vs,h=>ff
 |y::J,F,vs,h=>by
  simp only[List.all_cons,l5]at F;simp only[oe,nc]at h⊢;obtain⟨c,V,rfl,a,b⟩:=h;obtain⟨e,k2⟩:=RD F.1 a;exact⟨c,V,by rw[k2],e,Nw J F.2 b⟩
def acv{y:AV}(F:O8 y=true){v:Value}(h:qJ U w B H (Hf g y) v):qJ U w B H (KC (B.hv g) y) v:=by
 rcases Ec y with⟨J,rfl⟩|hn
 .simp only[Hf,KC]at h⊢;rw[mW]at h⊢;obtain⟨vs,a,b⟩:=h;exact⟨vs,a,Nw J F b⟩
 .have P:Hf g y=zi g y:=by cases y<;>first|rfl|exact absurd O (hn _)
  have d:RF y=true:=fP;have R:KC (B.hv g) y=KB (B.hv g) y:=by cases y<;>first|rfl|exact absurd O (hn _)
  have N:∀G,zi g y≠ .mz G:=λG h=>by cases y<;>first|(cases h;done)|exact absurd O (hn _)
  rw[P,kJ N]at h;obtain⟨c,a,b⟩:=h;obtain⟨e,k2⟩:=RD d a;rw[R,kJ (oV e)];exact⟨c,e,by rw[b,k2]⟩
def mg.anj(r:mg E nt B T H a w){M:kY->(Nat->Value)->Prop}{s g:Nat}{y:AV}(t:H 4999=some (.ext M))(F:O8 y=true)(o:T s=some (Hf g y)):∃X,M X B.hv/\mg E nt B (l9 T s (KC (B.hv g) y)) (l9 H 4999 (.ext (Sg X))) a w:=by
 obtain⟨_,K,X,b,c,k⟩:=r.nB t;have I:=r.DS (M':=Sg X) t ⟨X,rfl,c,k⟩;refine⟨X,b,I.nt,I.df,λi x j=>?_,I.box,I.x3,I.inj,I.left,I.qa,I.fx⟩;by_cases h:i=s
 .subst h;rw[kB]at j;injection j with j;subst j
  obtain⟨v,m,l⟩:=I.tmp i _ o;exact⟨v,m,acv F l⟩
 .rw[kF _ _ h]at j;exact I.tmp i x j
end
variable {ι:Type}
section
variable {l:List Oper}{c:Code}{T:List (Nat×AV)}{H:List (Nat×Bx)}
def MN{M:kY->(Nat->Value)->Prop}(s g:Nat){y:AV}(F:O8 y=true)(t:kV 4999 H=some (.ext M))(o:kV s T=some (Hf g y))(k:∀X z,M X z->AS P E nt ops l ⟨(s,KC (z g) y)::T,(4999,.ext (Sg X))::H⟩ Q):AS P E nt ops l ⟨T,H⟩ Q:=λi hi B a w r=>by obtain⟨X,N,m⟩:=r.anj (H:=St.h ⟨T,H⟩) t F o;refine k X B.hv N i hi B a w ?_;have e:St.h ⟨(s,KC (B.hv g) y)::T,(4999,.ext (Sg X))::H⟩=l9 (St.h ⟨T,H⟩) 4999 (.ext (Sg X)):=kZ _ _ _;have j:St.t ⟨(s,KC (B.hv g) y)::T,(4999,.ext (Sg X))::H⟩=l9 (St.t ⟨T,H⟩) s (KC (B.hv g) y):=kZ _ _ _;rw[e,j];exact m
def lL.Cs(s:Nat)(b:nz)(L:List Nat){l0:nz}{p:List Nat}{v:Value}(o:kV s T=some (.raw l0 p v)):lL E nt ⟨T,H⟩ ⟨(s,.raw b L v)::T,H⟩:=λB a w r=>by
 refine⟨B,r.nt,r.df,λg x j=>?_,r.box,r.x3,r.inj,r.left,r.qa,r.fx⟩;have l:St.t ⟨(s,.raw b L v)::T,H⟩=l9 (St.t ⟨T,H⟩) s (.raw b L v):=kZ _ _ _;rw[l]at j;by_cases h:g=s
 .subst h;rw[kB]at j;injection j with j;subst j
  obtain⟨u,m,k⟩:=r.tmp g _ o;exact⟨u,m,qI.2 (qI.1 k)⟩
 .rw[kF _ _ h]at j;exact r.tmp g x j
def lL.HD(s:Nat)(b:nz){v:Value}(o:kV s T=some (.v v)):lL E nt ⟨T,H⟩ ⟨(s,.raw b [] v)::T,H⟩:=λB a w r=>by
 refine⟨B,r.nt,r.df,λg x j=>?_,r.box,r.x3,r.inj,r.left,r.qa,r.fx⟩;have l:St.t ⟨(s,.raw b [] v)::T,H⟩=l9 (St.t ⟨T,H⟩) s (.raw b [] v):=kZ _ _ _;rw[l]at j;by_cases h:g=s
 .subst h;rw[kB]at j;injection j with j;subst j
  obtain⟨u,m,k⟩:=r.tmp g _ o;obtain⟨U,R⟩:=nM.1 k;exact⟨u,m,qI.2 ⟨HE U,R⟩⟩
 .rw[kF _ _ h]at j;exact r.tmp g x j
def Bi{x y:Code}(I:ι->St)(J:ι->Prop)(h:AW P E nt x S (mC (λS'=>∃j,J j/\lL E nt S' (I j)) Q))(k:∀j,J j->AW P E nt y (I j) Q):AW P E nt (.seq x y) S Q:=
 acb (λS'=>∃j,J j/\lL E nt S' (I j)) h λS' ⟨j,hj,g⟩=>lU g (k j hj)
end
variable {ol:List Oper}
variable {α:Type}
section
variable {T:List (Nat×AV)}{H:List (Nat×Bx)}{k:Nat}
def tC(f:Nat->Option α)(k:Nat)(a b:α):l9 (l9 f k a) k b=l9 f k b:=by
 funext j;simp only[l9];split<;>rfl
def X5{k:Nat}{a b:AV}{H':List (Nat×Bx)}:St.t ⟨(k,b)::T,H⟩=St.t ⟨(k,b)::(k,a)::T,H'⟩:=by
 show(λj=>kV j ((k,b)::T))=(λj=>kV j ((k,b)::(k,a)::T))
 rw[kZ,kZ,kZ,tC]
def adj{k:Nat}{a b c:AV}{H':List (Nat×Bx)}:St.t ⟨(k,c)::T,H⟩=St.t ⟨(k,c)::(k,b)::(k,a)::T,H'⟩:=by
 show(λj=>kV j ((k,c)::T))=(λj=>kV j ((k,c)::(k,b)::(k,a)::T))
 rw[kZ,kZ,kZ,kZ,tC,tC]
def Qa{a b:Bx}{T':List (Nat×AV)}:St.h ⟨T,(g,b)::H⟩=St.h ⟨T',(g,b)::(g,a)::H⟩:=by
 show(λj=>kV j ((g,b)::H))=(λj=>kV j ((g,b)::(g,a)::H))
 rw[kZ,kZ,kZ,tC]
def vD{l:List Operand}{y:AV}(g:kV 4999 H=some (.ext (Sg X)))(m:td (St.t ⟨T,H⟩) l=some G)(e:tA G=some J)(N:G.all lS=true)(t:kV k H=none)(u:BB f J X y M)(F:O8 y=true)(n:lK nt (some k)=true)
 (W:kN ops ⟨some k,.call {callee:=.value (.func f),args:=l.toArray,argTypes:=ats},ty,pos,af,gd⟩ (St.t ⟨T,H⟩)=some true)
 (h:∀C v,M C v->AS prog E nt ops ol ⟨(k,KC v y)::T,(4999,.ext (Sg C))::(k,.hid)::H⟩ Q):
 AS prog E nt ops (⟨some k,.call {callee:=.value (.func f),args:=l.toArray,argTypes:=ats},ty,pos,af,gd⟩::ol) ⟨T,H⟩ Q:=
 Vc (pt g m e N t u F n) W (MN k k F O gQ λC z P=>l7 (lL.same X5 Qa) (h C (z k) P))
def ZK{tx e:TypeId}{bytes i:Nat}(o:kM.ti t=some (.sl e es bytes ea))(m:kv (St.t ⟨T,H⟩) s=some (.raw l p (sv es A i cap)))(F:kv (St.t ⟨T,H⟩) x=some src)(f:kV 4999 H=some (.ext (Sg X)))(g:X l=some (.my e es A cap G))(u:kV k H=none)(hi:i<=G.length)
 (I:Nt X tx es src J) (U:(i+J.length)*bytes<=140737488355328) (b:i+J.length<=9223372036854775807) (n:lK nt (some k)=true)
 (W:kN ops ⟨some k,.call {callee:=.builtin .append,args:= #[s,x],argTypes:= #[t,tx]},ty,pos,af,gd⟩ (St.t ⟨T,H⟩)=some true)
 (h:∀R L,(i+J.length<=cap->R=A/\L=cap)->AS prog E nt ops ol ⟨(k,.raw l [] (sv es R (i+J.length) L))::T,(4999,.ext (Sg (X.put l (.my e es R L (G.take i++J)))))::(k,.hid)::H⟩ Q):
 AS prog E nt ops (⟨some k,.call {callee:=.builtin .append,args:= #[s,x],argTypes:= #[t,tx]},ty,pos,af,gd⟩::ol) ⟨T,H⟩ Q:=by
 refine Vc (C1 o m F f g u hi I U b n) W (MN k k (y:=.hv 4998) O O (by show kV k ((k,_)::T)=_;rw[show kV k ((k,AV.hv k)::T)=l9 (λj=>kV j T) k (.hv k) k from congrFun (kZ _ _ _) k,kB];rfl) λC z M=>?_);obtain⟨R,L,rfl,P,a⟩:=M;rw[show KC (z k) (.hv 4998)= .raw (0,0) [] (z k)from rfl,P];refine l7 (lL.Cs k l [] (l0:=(0,0)) (p:= []) (v:=sv es R (i+J.length) L) ?_) ?_
 .rw[show kV k ((k,AV.raw (0,0) [] (sv es R (i+J.length) L))::(k,AV.hv k)::T)=l9 (λj=>kV j ((k,AV.hv k)::T)) k (.raw (0,0) [] (sv es R (i+J.length) L)) k from congrFun (kZ _ _ _) k,kB]
 .exact l7 (lL.same adj Qa) (h R L a)
end
structure oW where
 k:Int
 v:Value
 born:Nat
def oW.e(x:oW):MapEntry:={key:=.int .i64 x.k,val:=x.v,born:=x.born}
abbrev ua(es:List oW)(c:Nat):Obj:=.map (es.map oW.e).toArray c
def nY(k:Int):List oW->Option Value
 | []=>none
 |e::es=>if k=e.k then some e.v else nY k es
def u7(c:Nat)(k:Int)(v:Value):List oW->List oW
 | []=> [⟨k,v,c⟩]
 |e::es=>if k=e.k then⟨k,v,e.born⟩::es else e::u7 c k v es
def Cp(c:Nat)(k:Int)(es:List oW):Nat:=if(nY k es).isSome then c else c+1
def y9(k:Int):List oW->List oW
 | []=> []
 |e::es=>if k=e.k then es else e::y9 k es
def Bt(k:Int):List oW->Nat->Option (Nat×Value)
 | [],_=>none
 |e::es,i=>if k=e.k then some (i,e.v)else Bt k es (i+1)
theorem OB(k:Int):∀(es:List oW) (i:Nat),Instr.findNow (.int .i64) (.int .i64 k) (es.map oW.e) i=some (Bt k es i)
 | [],_=>rfl
 |e::es,i=>by
  simp only[nc,Instr.findNow,Bt,oW.e,Instr.sameNow,oQ];by_cases h:k=e.k
  .simp[h]
  .have:(k==e.k)=false:=by simpa using h
   simp only[this,ku h];exact OB k es (i+1)
theorem EB{k:Int}:∀{es:List oW} {i:Nat},Bt k es i=none->nY k es=none/\ ∀c v,u7 c k v es=es++[⟨k,v,c⟩]
 | [],_,_=>⟨O,λ_ _=>rfl⟩
 |e::es,i,h=>by
  simp only[Bt]at h;split at h
  .cases h
  .rename_i w;obtain⟨a,b⟩:=EB h;exact⟨by simp[nY,w,a],λc v=>by simp[u7,w,b c v]⟩
theorem Au{k:Int}:∀{es:List oW} {i j:Nat} {x:Value},Bt k es i=some (j,x)->i<=j/\nY k es=some x/\(∃e,es[j- i]?=some e/\e.k=k)/\(∀c v,u7 c k v es=es.modify (j- i) λe=>⟨k,v,e.born⟩)/\y9 k es=es.eraseIdx (j- i)
 | [],_,_,_,h=>fk
 |e::es,i,j,x,h=>by
  simp only[Bt]at h;split at h
  .rename_i w;injection h with h;injection h with a b;subst a b;refine⟨kK _,by simp[nY,w],⟨e,by simp,w.symm⟩,λc v=>by simp[u7,w],by simp[y9,w]⟩
  .rename_i w;obtain⟨a,b,⟨e',m,V⟩,A,D⟩:=Au h;have l:j- i=(j-(i+1))+1:=eY;refine⟨by omega,by simp[nY,w,b],⟨e',by rw[l];simpa using m,V⟩,λc v=>?_,?_⟩
   .rw[l];simp[u7,w,A c v]
   .rw[l];simp[y9,w,D]
theorem FH(c:Nat)(k j:Int)(v:Value):∀es:List oW,nY j (u7 c k v es)=if j=k then some v else nY j es
 | []=>by simp only[u7,nY]
 |e::es=>by
  simp only[u7];by_cases h:k=e.k
  .subst h;simp only[oQ,nY];split<;>rfl
  .rw[ku h];simp only[nY,FH c k j v es];by_cases a:j=e.k
   .subst a;simp[pv h]
   .simp[a]
theorem On{k:Int}:∀{es:List oW},k∉es.map (·.k)->nY k es=none
 | [],_=>rfl
 |e::es,h=>by
  simp only[nc,mf,not_or]at h;simp only[nY,ku h.1,On h.2]
theorem FJ(k j:Int):∀es:List oW,(es.map (·.k)).Nodup->nY j (y9 k es)=if j=k then none else nY j es
 | [],_=>by simp[y9,nY]
 |e::es,h=>by
  simp only[nc,Gy]at h;simp only[y9];by_cases a:k=e.k
  .subst a;simp only[oQ,nY];by_cases b:j=e.k
   .subst b;simp[On h.1]
   .simp[b]
  .rw[ku a];simp only[nY,FJ k j es h.2];by_cases b:j=e.k
   .subst b;simp[pv a]
   .simp[b]
theorem Td{k:Int}{v:Value}:∀{es:List oW},nY k es=some v-> ∃e∈es,e.k=k/\e.v=v
 | [],h=>fk
 |e::es,h=>by
  simp only[nY]at h;split at h
  .rename_i w;injection h with h;exact⟨e,by simp,w.symm,h⟩
  .obtain⟨e',a,b⟩:=Td h;exact⟨e',by simp[a],b⟩
def PY{es:List oW}(h:(es.map (·.k)).Nodup):∀{e:oW},e∈es->nY e.k es=some e.v:=by
 induction es with
 |nil=>intro e he;cases he
 |cons a es y=>
  intro e he;simp only[nc,Gy]at h;simp only[nY];rcases mf.1 he with rfl|he
  .simp
  .have w:e.k≠a.k:=λw=>h.1 (by rw[<-w];exact Gx (f:=(·.k)) he);rw[ku w];exact y h.2 he
theorem Ol(c:Nat)(k:Int)(v:Value):∀es:List oW,(u7 c k v es).map (·.k)=if(nY k es).isSome then es.map (·.k)else es.map (·.k)++[k]
 | []=>rfl
 |e::es=>by
  simp only[u7,nY];by_cases h:k=e.k
  .subst h;simp
  .simp only[ku h,nc,Ol c k v es];split<;>simp
theorem Om(c:Nat)(k:Int)(v:Value):∀es:List oW,(u7 c k v es).map (·.born)=if(nY k es).isSome then es.map (·.born)else es.map (·.born)++[c]
 | []=>rfl
 |e::es=>by
  simp only[u7,nY];by_cases h:k=e.k
  .subst h;simp
  .simp only[ku h,nc,Om c k v es];split<;>simp
theorem FK(k:Int):∀es:List oW,(y9 k es).Sublist es
 | []=>List.Sublist.slnil
 |e::es=>by
  simp only[y9];split
  .exact List.sublist_cons_self _ _
  .exact(FK k es).cons_cons _
structure Xx(es:List oW)(c:Nat):Prop where
 keys:(es.map (·.k)).Nodup
 born:(es.map (·.born)).Nodup
 old:∀e∈es,e.born<c
def Xx.nil:Xx [] 0:=⟨QH,QH,λ_ h=>by cases h⟩
def Xx.put{es:List oW}{c:Nat}(h:Xx es c)(k:Int)(v:Value):Xx (u7 c k v es) (Cp c k es):=by
 have w:=Ol c k v es;have hb:=Om c k v es;unfold Cp;cases t:nY k es with
 |some x=>
  rw[t]at w hb;simp only[Option.isSome_some,oQ]at w hb⊢;refine⟨by rw[w];exact h.keys,by rw[hb];exact h.born,λe L=>?_⟩;have:e.born∈es.map (·.born):=by rw[<-hb];exact Gx L
  obtain⟨e',d,f⟩:=sM.1 this;rw[<-f];exact h.old e' d
 |none=>
  rw[t]at w hb;simp only[Option.isSome_none,tu,rL]at w hb⊢;refine⟨?_,?_,λe L=>?_⟩
  .rw[w,J4];refine⟨h.keys,by simp,λa N b hb e=>?_⟩;simp only[s7]at hb;subst hb e;obtain⟨x,d,f⟩:=sM.1 N;have:=PY h.keys d;rw[show x.k=a from f,t]at this;cases this
  .rw[hb,J4];refine⟨h.born,by simp,λa N b hb e=>?_⟩;simp only[s7]at hb;subst hb e;obtain⟨x,d,f⟩:=sM.1 N;have:=h.old x d;have f:x.born=a:=f;omega
  .have:e.born∈es.map (·.born)++[c]:=by rw[<-hb];exact Gx L
   rcases rJ.1 this with this|this
   .obtain⟨e',d,f⟩:=sM.1 this;have:=h.old e' d;have f:e'.born=e.born:=f;omega
   .simp at this;omega
def Xx.del{es:List oW}{c:Nat}(h:Xx es c)(k:Int):Xx (y9 k es) c:=
 ⟨h.keys.sublist ((FK k es).map _),h.born.sublist ((FK k es).map _),λe L=>h.old e ((FK k es).mem L)⟩
variable {kt et:TypeId}
section
variable {r c:Nat}{es:List oW}{k:Int}
def Fm(d:w.heap[r]?=some (ua es c)):(getObj r).run P w= .ok (ua es c) w:=by simp[getObj,Sem.run,d]
def Et(x:P.underlying kt=some (.int .i64))(b:Bool):(Instr.checkKey b 10000 kt (.int .i64 k)).run P w= .ok () w:=by
 have:∀n,(Instr.checkKey b (n+1) kt (.int .i64 k)).run P w= .ok () w:=λn=>by
  unfold Instr.checkKey;simp[lu x]
 exact this 9999
def Hy(x:P.underlying kt=some (.int .i64)):(Instr.findKey kt (.int .i64 k) (es.map oW.e)).run P w= .ok (Bt k es 0) w:=by simp[Instr.findKey,lu x,OB]
theorem NV(s:P.underlying t=some (.map kt et))(y:P.underlying kt=some (.int .i64)){z:Value}(e:(zeroValue et).run P w= .ok z w)(d:w.heap[r]?=some (ua es c))(o:Bool):
 (Instr.lookup t (.map (some r)) (.int .i64 k) o).run P w= .ok (if o then .tuple #[(nY k es).getD z,.bool (nY k es).isSome]else(nY k es).getD z) w:=by
 have A:=Hy (P:=P) (w:=w) (k:=k) (es:=es) y;unfold Instr.lookup;simp only[Sem.run_bind,lu s,Result.andThen_ok,Fm d,Sem.run_pure,Et y,A];cases T:Bt k es 0 with
 |none=>simp[e,(EB T).1]
 |some p=>
  obtain⟨j,x⟩:=p;simp[(Au T).2.1]
def Fk{o:Obj}(d:w.heap[r]?=some (ua es c)):(setObj r o).run P w= .ok () {w with heap:=w.heap.setIfInBounds r o}:=by simp[setObj,Sem.run,d]
theorem Sh(s:P.underlying t=some (.map kt et))(z:P.underlying kt=some (.int .i64))(d:w.heap[r]?=some (ua es c))(v:Value):
 (Instr.mapUpdate t (.map (some r)) (.int .i64 k) v).run P w= .ok () {w with heap:=w.heap.setIfInBounds r (ua (u7 c k v es) (Cp c k es))}:=by
 have A:=Hy (P:=P) (w:=w) (k:=k) (es:=es) z;unfold Instr.mapUpdate;simp only[Sem.run_bind,lu s,Result.andThen_ok,Fm d,Et z,A];cases T:Bt k es 0 with
 |none=>
  obtain⟨a,b⟩:=EB T;simp only[Fk d];rw[b c v];simp[ua,Cp,a,oW.e]
 |some p=>
  obtain⟨j,x⟩:=p;obtain⟨_,a,⟨e,b,l⟩,B,_⟩:=Au T;rw[J3]at b;have D:=B c v;rw[J3]at D;have R:(((es.map oW.e).toArray[j]?).map (·.key)).getD (.int .i64 k)= .int .i64 k:=by simp[b,oW.e,l]
  have f:(Instr.keyThatStays (.int .i64 k) (.int .i64 k)).run P w= .ok (.int .i64 k) w:=by simp[Instr.keyThatStays,Instr.sameBits]
  simp only[R,Sem.run_bind,f,Result.andThen_ok,Fk d];rw[D]
  congr 3
  simp only[Cp,a,Option.isSome_some,oQ,ua]
  congr 1
  apply qB;intro q;simp only[List.modify_toArray,AZ,Gw,oI];cases es[q]? with
  |none=>simp
  |some y=>by_cases g:j=q<;>simp[g,oW.e]
theorem adA{rt:TypeId}(s:P.underlying t=some (.map kt et))(y:P.underlying kt=some (.int .i64))(d:w.heap[r]?=some (ua es c)):
 (Builtin.delete_ #[t,kt] rt #[.map (some r),.int .i64 k]).run P w= .ok (.tuple #[]) {w with heap:=w.heap.setIfInBounds r (ua (y9 k es) c)}:=by
 have z:=Hy (P:=P) (w:=w) (k:=k) (es:=es) y;unfold Builtin.delete_;simp only[AZ,List.getElem?_cons_zero,List.getElem?_cons_succ,Sem.run_bind,lu s,Result.andThen_ok,Fm d,Et y,z];cases T:Bt k es 0 with
 |none=>
  have:y9 k es=es:=by
   clear z d;generalize 0=i at T
   induction es generalizing i with
   |nil=>rfl
   |cons e es A=>
    simp only[Bt]at T;split at T
    .cases T
    .rename_i hn;simp[y9,hn,A (i+1) T]
  rw[this];simp[Fk d,ua]
 |some p=>
  obtain⟨j,x⟩:=p;obtain⟨_,_,⟨e,b,_⟩,_,D⟩:=Au T;rw[J3]at b D;have l:j<es.length:=(mS.1 b).1;simp only[Sem.run_bind,Fk d,Result.andThen_ok,Sem.run_pure];rw[D];simp only[ua];rw[Array.eraseIdxIfInBounds,dif_pos (by simpa using l)];simp[ChangeMaps.map_eraseIdx]
end
def MO{l:List Oper}{o:Oper}(f:kN ops o S.t=some true)
 (h:∀B a w,mg E nt B S.t S.h a w-> ∃v w' B' S',(execOp a.eval o).run P w= .ok (.value v) w'/\mg E nt B' S'.t S'.h (a.put o.dst v) w'/\AS P E nt ops l S' Q):AS P E nt ops (o::l) S Q:=λi hi B a w r=>by
 obtain⟨b,c⟩:=agR hi;rw[sc,H8];simp only[wpOps,b];rw[kx (rf r f)];obtain⟨v,w',B',S',e,k2,k3⟩:=h B a w r;refine .inl ?_;unfold Oper.wp;rw[e];exact k3 (i+1) c B' _ w' k2
def aod(y:AV)(v:Value):Prop:=y= .v v∨ ∃l p,y= .raw l p v
def mg.anC(r:mg E nt B T H a w){x:Operand}{y:AV}{v:Value}(h:kv T x=some y)(F:aod y v):a.eval x=v:=by
 rcases F with rfl|⟨l,p,rfl⟩
 .exact r.od h
 .exact r.pe h
def Vk{r:Nat}{o:Obj}:uX w {w with heap:=w.heap.setIfInBounds r o} r:=⟨O,rfl,rfl,by simp,λk x=>by simp[CL,pv x]⟩
def adP{y:AV}(h:(sB v=true/\y= .v v)∨(v.oneCell'=true/\ ∃l p,y= .raw l p v)):Rd U w y B H [v]/\m9 y [v]=v:=by
 rcases h with⟨a,rfl⟩|⟨a,l,p,rfl⟩
 .exact⟨by simp[Rd,a],rfl⟩
 .exact⟨by simp[Rd,a],rfl⟩
def akP{b:Bool}:Rd U w (kA b) B H [.bool b]:=by simp[kA,Rd,sB]
def rdI{n:Int}:Rd U w (kq n) B H [.int .i64 n]:=by simp[kq,Rd,sB]
def rdR(h:v.oneCell'=true):Rd U w (.raw l p v) B H [v]:=by simp[Rd,h]
variable {kk vv:Operand}
variable {li:nz}
section
variable {r c:Nat}{es:List oW}{k:Int}{z:Value}{y:AV}
def aeE(b:prog.underlying t=some (.map kt et))(A:prog.underlying kt=some (.int .i64))(e:∀w,(zeroValue et).run prog w= .ok z w)(j:kv T x=some (.raw l p (.map (some r))))(hi:kv T ix=some (.v (.int .i64 k)))(f:H 4999=some (.ext (Sg X)))(g:X l=some (.ob r (ua es c)))
 (F:(sB ((nY k es).getD z)=true/\y= .v ((nY k es).getD z))∨(((nY k es).getD z).oneCell'=true/\ ∃l p,y= .raw l p ((nY k es).getD z))) (n:lK nt d=true):
 kE prog E nt ops ⟨d,.lookup t x ix false,ty,pos,af,gd⟩ T H [4999] ⟨y,[]⟩:=
 lO n λB T' H' a w r s D=>by have h:=r.pe ((s x js).trans j);have i:=r.od ((s ix js).trans hi);have hb:=r.El ((D 4999 ki).trans f) g;refine⟨(nY k es).getD z,by simp[execOp,h,i,NV b A (e w) hb],?_⟩;obtain⟨o,m⟩:=adP (U:=kI E B H') (w:=w) (B:=B) (H:=H') F;rw[kJ (oV o)];exact⟨_,o,m.symm⟩
def aeD(b:prog.underlying t=some (.map kt et))(A:prog.underlying kt=some (.int .i64))(e:∀w,(zeroValue et).run prog w= .ok z w)(j:kv T x=some (.raw l p (.map (some r))))(hi:kv T ix=some (.v (.int .i64 k)))(f:H 4999=some (.ext (Sg X)))(g:X l=some (.ob r (ua es c)))
 (F:(sB ((nY k es).getD z)=true/\y= .v ((nY k es).getD z))∨(((nY k es).getD z).oneCell'=true/\ ∃l p,y= .raw l p ((nY k es).getD z))) (n:lK nt d=true):
 kE prog E nt ops ⟨d,.lookup t x ix true,ty,pos,af,gd⟩ T H [4999] ⟨.mz [y,kA (nY k es).isSome],[]⟩:=
 lO n λB T' H' a w r s D=>by have h:=r.pe ((s x js).trans j);have i:=r.od ((s ix js).trans hi);have hb:=r.El ((D 4999 ki).trans f) g;refine⟨.tuple #[(nY k es).getD z,.bool (nY k es).isSome],by simp[execOp,h,i,NV b A (e w) hb],?_⟩;obtain⟨o,m⟩:=adP (U:=kI E B H') (w:=w) (B:=B) (H:=H') F;rw[mW];refine⟨[(nY k es).getD z,.bool (nY k es).isSome],rfl,?_⟩;simp only[oe];exact⟨[(nY k es).getD z],[.bool (nY k es).isSome],by rw[m],o,[.bool (nY k es).isSome],[],rfl,akP,rfl⟩
def aeC(m:nz)(U:nY k es=some v)(A:v.oneCell'=true)(b:prog.underlying t=some (.map kt et))(y:prog.underlying kt=some (.int .i64))(e:∀w,(zeroValue et).run prog w= .ok z w)(j:kv T x=some (.raw l p (.map (some r))))(hi:kv T ix=some (.v (.int .i64 k)))(f:H 4999=some (.ext (Sg X)))(g:X l=some (.ob r (ua es c)))(n:lK nt d=true):
 kE prog E nt ops ⟨d,.lookup t x ix false,ty,pos,af,gd⟩ T H [4999] ⟨.raw m [] v,[]⟩:=aeE b y e j hi f g (.inr (by simp[U,A])) n
def V9(b:prog.underlying t=some (.map kt et))(y:prog.underlying kt=some (.int .i64))(e:∀w,(zeroValue et).run prog w= .ok z w)(j:kv T x=some (.raw l p (.map (some r))))(hi:kv T ix=some (.v (.int .i64 k)))(f:H 4999=some (.ext (Sg X)))(g:X l=some (.ob r (ua es c)))(U:nY k es=none)(A:sB z=true)(n:lK nt d=true):
 kE prog E nt ops ⟨d,.lookup t x ix false,ty,pos,af,gd⟩ T H [4999] ⟨.v z,[]⟩:=aeE b y e j hi f g (.inl (by simp[U,A])) n
def Yy(b:prog.underlying t=some (.map kt et))(A:prog.underlying kt=some (.int .i64))(e:∀w,(zeroValue et).run prog w= .ok z w)(j:kv T x=some (.raw l p (.map (some r))))(hi:kv T ix=some (.v (.int .i64 k)))(f:H 4999=some (.ext (Sg X)))(g:X l=some (.ob r (ua es c)))(U:nY k es=some v)(B:sB v=true)(n:lK nt d=true):
 kE prog E nt ops ⟨d,.lookup t x ix true,ty,pos,af,gd⟩ T H [4999] ⟨.mz [.v v,kA true],[]⟩:=by
 have:=aeD (E:=E) (ops:=ops) (ty:=ty) (pos:=pos) (af:=af) (gd:=gd) (y:=.v v) b A e j hi f g (.inl (by simp[U,B])) n;rwa[U]at this
def Yz(b:prog.underlying t=some (.map kt et))(A:prog.underlying kt=some (.int .i64))(e:∀w,(zeroValue et).run prog w= .ok z w)(j:kv T x=some (.raw l p (.map (some r))))(hi:kv T ix=some (.v (.int .i64 k)))(f:H 4999=some (.ext (Sg X)))(g:X l=some (.ob r (ua es c)))(U:nY k es=none)(B:sB z=true)(n:lK nt d=true):
 kE prog E nt ops ⟨d,.lookup t x ix true,ty,pos,af,gd⟩ T H [4999] ⟨.mz [.v z,kA false],[]⟩:=by
 have:=aeD (E:=E) (ops:=ops) (ty:=ty) (pos:=pos) (af:=af) (gd:=gd) (y:=.v z) b A e j hi f g (.inl (by simp[U,B])) n;rwa[U]at this
def mg.aik(k:mg E nt B T H a w){o o':Obj}(f:H 4999=some (.ext (Sg X)))(g:X l=some (.ob r o))(C:Jx o=true):mg E nt B T (l9 H 4999 (.ext (Sg (X.put l (.ob r o'))))) a {w with heap:=w.heap.setIfInBounds r o'}:=by
 have hb:w.heap[r]?=some o:=k.El f g;have Z:r<w.heap.size:=(yf.1 hb).1;have e:(w.heap.setIfInBounds r o')[r]?=some o':=by simp[CL,Z]
 exact k.U2 f g O O Vk (.inr ⟨o,o',hb,C,e⟩) λ_=>e
def aeB{m:Operand}{y:AV}(b:prog.underlying t=some (.map kt et))(x:prog.underlying kt=some (.int .i64))(j:kv T m=some (.raw l p (.map (some r))))(hi:kv T kk=some (.v (.int .i64 k)))(z:kv T vv=some y)(F:aod y v)(f:H 4999=some (.ext (Sg X)))(g:X l=some (.ob r (ua es c))):
 kE prog E nt ops ⟨none,.mapUpdate t m kk vv,ty,pos,af,gd⟩ T H [4999] ⟨.mz [],[(4999,.ext (Sg (X.put l (.ob r (ua (u7 c k v es) (Cp c k es))))))]⟩:=by
 intro T' H' s D e B a w n K Q G;have q:=(D 4999 ki).trans f;have h:=n.pe ((mv s js).trans j);have i:=n.od ((mv s js).trans hi);have W:=n.anC ((mv s js).trans z) F;have hb:w.heap[r]?=some (ua es c):=n.El q g
 have I:(execOp a.eval ⟨none,.mapUpdate t m kk vv,ty,pos,af,gd⟩).run prog w= .ok .skip {w with heap:=w.heap.setIfInBounds r (ua (u7 c k v es) (Cp c k es))}:=by simp[execOp,h,i,W,Sh b x hb v,Sem.run_bind]
 unfold Oper.wp;rw[I];exact G B _ _ (n.aik q g O)
def Ll{m:Operand}(b:prog.underlying t=some (.map kt et))(x:prog.underlying kt=some (.int .i64))(j:kv T m=some (.raw l p (.map (some r))))(hi:kv T kk=some (.v (.int .i64 k)))(f:H 4999=some (.ext (Sg X)))(g:X l=some (.ob r (ua es c)))(n:lK nt d=true):
 kE prog E nt ops ⟨d,.call {callee:=.builtin .delete,args:= #[m,kk],argTypes:= #[t,kt]},ty,pos,af,gd⟩ T H [4999] ⟨.mz [],[(4999,.ext (Sg (X.put l (.ob r (ua (y9 k es) c)))))]⟩:=
 oC n λB T' H' a w o s D e=>by
  have q:=(D 4999 ki).trans f;have h:=o.pe ((s m iV).trans j);have i:=o.od ((s kk iV).trans hi);have hb:w.heap[r]?=some (ua es c):=o.El q g;refine⟨.tuple #[],{w with heap:=w.heap.setIfInBounds r (ua (y9 k es) c)},B,?_,o.aik q g O,?_⟩
  .have:=adA (rt:=ty) (k:=k) b x hb;simp[execOp,resolve,invoke,builtin,h,i,this]
  .rw[mW];exact⟨[],rfl,by simp[oe]⟩
def PS{o:Operand}{m:Nat}{seen:Array Nat}{e:oW}(j:kv T o=some (.raw l' p (.pointer (some ⟨b,0,none⟩))))(f:H 4999=some (.ext (Sg X)))(g:X l=some (.ob r (ua es c)))(hi:X li=some (.ob b (.mapIter (some r) m (seen.push e.born) c)))(L:e∈es)(C:(es.map (·.born)).Nodup)(y:e.v.oneCell'=true)(n:lK nt d=true):
 kE prog E nt ops ⟨d,.entry o,ty,pos,af,gd⟩ T H [4999] ⟨.mz [kq e.k,.raw (0,0) [] e.v],[]⟩:=
 lO n λB T' H' a w k s D=>by have q:=(D 4999 ki).trans f;have h:=k.pe ((s o js).trans j);have hb:w.heap[r]?=some (ua es c):=k.El q g;have i:w.heap[b]?=some (.mapIter (some r) m (seen.push e.born) c):=k.El q hi;have:=run_entry_at (P:=prog) w b r m seen (es.map oW.e).toArray c e.e i hb (by simpa using List.mem_map_of_mem L) (by simpa[QK,Function.comp_def,oW.e]using C);refine⟨.tuple #[.int .i64 e.k,e.v],by simp[execOp,h,this,oW.e],?_⟩;rw[mW];refine⟨[.int .i64 e.k,e.v],rfl,?_⟩;simp only[oe];exact⟨[.int .i64 e.k],[e.v],rfl,rdI,[e.v],[],rfl,rdR y,rfl⟩
end
section
variable {T:List (Nat×AV)}{H:List (Nat×Bx)}{d:Nat}{r c:Nat}{es:List oW}
def YY{o:Obj}(q:nz)(f:kV 4999 H=some (.ext (Sg X)))(n:lK nt (some d)=true)(y:v.oneCell'=true)(k:mg E nt B (St.t ⟨T,H⟩) (St.h ⟨T,H⟩) a w):
 ∃B',mg E nt B' (St.t ⟨(d,.raw q [] v)::T,(4999,.ext (Sg (X.put q (.ob w.heap.size o))))::H⟩) (St.h ⟨(d,.raw q [] v)::T,(4999,.ext (Sg (X.put q (.ob w.heap.size o))))::H⟩) (a.put (some d) v) (w.alloc o):=by
 have I:=k.U3 (l:=q) (xb':=.ob w.heap.size o) (w':=w.alloc o) f O ((pr.refl w).alloc o) (by show w.heap.size<(w.heap.push o).size;simp) λU _=>o8 w o;have p:=I.put (d:=some d) n (x:=.raw q [] v) (v:=v) (qI.2 ⟨y,rfl⟩);refine⟨B.Rs q w.heap.size,?_⟩;have P:St.t ⟨(d,.raw q [] v)::T,(4999,.ext (Sg (X.put q (.ob w.heap.size o))))::H⟩=zl (St.t ⟨T,H⟩) (some d) (.raw q [] v):=kZ _ _ _;have b:St.h ⟨(d,.raw q [] v)::T,(4999,.ext (Sg (X.put q (.ob w.heap.size o))))::H⟩=l9 (St.h ⟨T,H⟩) 4999 (.ext (Sg (X.put q (.ob w.heap.size o)))):=kZ _ _ _;rw[P,b];exact p
def Rl(q:nz)(f:kV 4999 H=some (.ext (Sg X)))(n:lK nt (some d)=true)(e:kN ops ⟨some d,.makeMap t none,ty,pos,af,gd⟩ (St.t ⟨T,H⟩)=some true)
 (h:∀b,AS prog E nt ops ol ⟨(d,.raw q [] (.map (some b)))::T,(4999,.ext (Sg (X.put q (.ob b (ua [] 0)))))::H⟩ Q):AS prog E nt ops (⟨some d,.makeMap t none,ty,pos,af,gd⟩::ol) ⟨T,H⟩ Q:=
 MO e λB a w k=>by obtain⟨B',p⟩:=YY (o:=ua [] 0) (v:=.map (some w.heap.size)) q f n O k;exact⟨.map (some w.heap.size),w.alloc (.map #[] 0),B',_,by simp[execOp,run_makeMap],p,h _⟩
def ajh(s:nz)(e:prog.underlying t=some (.map kt et))(j:kv (St.t ⟨T,H⟩) x=some (.raw l p (.map (some r))))(i:kV 4999 H=some (.ext (Sg X)))(g:X l=some (.ob r (ua es c)))(n:lK nt (some d)=true)(f:kN ops ⟨some d,.range t x,ty,pos,af,gd⟩ (St.t ⟨T,H⟩)=some true)
 (h:∀b,AS prog E nt ops ol ⟨(d,.raw s [] (.pointer (some ⟨b,0,none⟩)))::T,(4999,.ext (Sg (X.put s (.ob b (.mapIter (some r) c #[] c)))))::H⟩ Q):AS prog E nt ops (⟨some d,.range t x,ty,pos,af,gd⟩::ol) ⟨T,H⟩ Q:=
 MO f λB a w k=>by obtain⟨B',q⟩:=YY (o:=.mapIter (some r) c #[] c) (v:=.pointer (some ⟨w.heap.size,0,none⟩)) s i n O k;have U:=k.pe j;have hb:w.heap[r]?=some (ua es c):=k.El (H:=St.h ⟨T,H⟩) i g;exact⟨.pointer (some ⟨w.heap.size,0,none⟩),w.alloc (.mapIter (some r) c #[] c),B',_,by simp[execOp,U,Instr.range,lu e,Fm hb],q,h _⟩
def ams{seen:Array Nat}(j:kv (St.t ⟨T,H⟩) x=some (.raw l' p (.pointer (some ⟨b,0,none⟩))))(t:kV 4999 H=some (.ext (Sg X)))(i:X l=some (.ob r (ua es c)))(hi:X li=some (.ob b (.mapIter (some r) c seen c)))(G:∀e∈es,e.born<c)(A:∀e∈es,e.v.oneCell'=true)(n:lK nt (some d)=true)(s:kN ops ⟨some d,.next x false,ty,pos,af,gd⟩ (St.t ⟨T,H⟩)=some true)
 (u:(∀e∈es,e.born∈seen)->AS prog E nt ops ol ⟨(d,.mz [kA false])::T,H⟩ Q)
 (f:∀e∈es,e.born∉seen->AS prog E nt ops ol ⟨(d,.mz [kA true,kq e.k,.raw (0,0) [] e.v])::T,(4999,.ext (Sg (X.put li (.ob b (.mapIter (some r) c (seen.push e.born) c)))))::H⟩ Q):AS prog E nt ops (⟨some d,.next x false,ty,pos,af,gd⟩::ol) ⟨T,H⟩ Q:=
 MO s λB a w v=>by
  have U:=v.pe j;have hb:w.heap[r]?=some (ua es c):=v.El (H:=St.h ⟨T,H⟩) t i;have D:w.heap[b]?=some (.mapIter (some r) c seen c):=v.El (H:=St.h ⟨T,H⟩) t hi;have R:∀y,St.t ⟨(d,y)::T,H⟩=zl (St.t ⟨T,H⟩) (some d) y:=λy=>kZ _ _ _
  rcases run_next_at (P:=prog) w ty b r c c seen (es.map oW.e).toArray c D hb (by
   intro y F;simp only[sM]at F;obtain⟨z,q,rfl⟩:=F;exact G z q) (kK _)with⟨g,k2⟩|⟨e,L,J,g,k2⟩
  .refine⟨.tuple #[.bool false],w,B,⟨(d,.mz [kA false])::T,H⟩,by simp[execOp,U,k2],?_,u λe L=>?_⟩
   .rw[R];refine v.put (d:=some d) n ?_;rw[mW];refine⟨[.bool false],rfl,?_⟩;simp only[oe];exact⟨[.bool false],[],rfl,akP,rfl⟩
   .have:=Zu g;have k:∀a:oW,a∈es->a.e.born∈seen:=by simpa[leftOf]using this
    exact k e L
  .have K:∃z∈es,z.e=e/\z.born∉seen:=by
    simp only[leftOf,Array.toList_filter,tr,sM]at L;obtain⟨⟨z,q,rfl⟩,o⟩:=L;exact⟨z,q,rfl,by simpa[oW.e]using o⟩
   obtain⟨z,q,rfl,o⟩:=K
   have I:mg E nt B (St.t ⟨T,H⟩) (St.h ⟨T,H⟩) a J:=by
    rcases g with rfl|rfl
    .exact v
    .exact v.drew
   have C:=I.aik (o':=.mapIter (some r) c (seen.push z.born) c) t hi O;refine⟨.tuple #[.bool true,.int .i64 z.k,z.v],{J with heap:=J.heap.setIfInBounds b (.mapIter (some r) c (seen.push z.born) c)},B,⟨(d,.mz [kA true,kq z.k,.raw (0,0) [] z.v])::T,(4999,.ext (Sg (X.put li (.ob b (.mapIter (some r) c (seen.push z.born) c)))))::H⟩,by simp[execOp,U,k2,oW.e,ChangeMaps.setBlock],?_,f z q o⟩;have m:St.h ⟨(d,.mz [kA true,kq z.k,.raw (0,0) [] z.v])::T,(4999,.ext (Sg (X.put li (.ob b (.mapIter (some r) c (seen.push z.born) c)))))::H⟩=l9 (St.h ⟨T,H⟩) 4999 (.ext (Sg (X.put li (.ob b (.mapIter (some r) c (seen.push z.born) c))))):=kZ _ _ _;have S:St.t ⟨(d,.mz [kA true,kq z.k,.raw (0,0) [] z.v])::T,(4999,.ext (Sg (X.put li (.ob b (.mapIter (some r) c (seen.push z.born) c)))))::H⟩=zl (St.t ⟨T,H⟩) (some d) (.mz [kA true,kq z.k,.raw (0,0) [] z.v]):=kZ _ _ _;rw[m,S];refine C.put (d:=some d) n ?_;rw[mW];refine⟨[.bool true,.int .i64 z.k,z.v],rfl,?_⟩;simp only[oe];exact⟨[.bool true],[.int .i64 z.k,z.v],rfl,akP,[.int .i64 z.k],[z.v],rfl,rdI,[z.v],[],rfl,rdR (A z q),rfl⟩
end
variable {y' old:AV}
section
variable {e:TypeId}{o i:Nat}{y:AV}
def Vp(L:G[i]?=some y){z:AV}(X:sU p y=some z):sU (i::p) (.arr (G.length*n) n G)=some z:=by simp[sU,L,X]
def aek(L:G[i]?=some y):tj (i::p) (.arr (G.length*n) n G)=i*n+tj p y:=by simp[tj,L]
def V7(j:kv T x=some (.raw l (i::p) (.pointer (some ⟨b,off,none⟩))))(u:H 4999=some (.ext (Sg X)))(f:X l=some (.my e n (some (b,o)) cap G))(L:G[i]?=some y)(Y:sU p y=some z)(U:o*n+i*n+tj p y=off)(r:kM.sa t=some (na z,lE z))(q:lK nt d=true):
 kE prog E nt ops ⟨d,.load t x,ty,pos,af,gd⟩ T H [4999] ⟨z,[]⟩:=
 Ob j u f O (Vp L Y) ji r q
def aev{v:AV}{q:Operand}(j:kv T x=some (.raw l (i::p) (.pointer (some ⟨b,off,none⟩))))(F:kv T q=some v)(z:mO v=true)(N:lS v=true)(u:H 4999=some (.ext (Sg X)))(f:X l=some (.my e n (some (b,o)) cap G))(L:G[i]?=some y)(Y:sU p y=some old)(U:o*n+i*n+tj p y=off)(c:xM v p y=some y')(r:kM.sa t=some (na v,lE v))(A:lE v=lE old):
 kE prog E nt ops ⟨none,.store t x q,ty,pos,af,gd⟩ T H [4999] ⟨.mz [],[(4999,.ext (Sg (X.put l (.my e n (some (b,o)) cap (G.set i y')))))]⟩:=
 ID j F z N u f O (Vp L Y) ji (u':=.arr (G.length*n) n (G.set i y')) (by simp[xM,L,z,c]) rfl r A
end
def OZ(X:kY)(l lo:nz)(b:Nat)(e:TypeId)(n:Nat)(J:List AV)(u:Option (Nat×Nat)->Nat->AV):kY->(Nat->Value)->Prop:=λC _=>∃R L,C=(X.put l (.my e n R L J)).put lo (.var b (u R L))
def SW{e:TypeId}{lo:nz}{i:Nat}{w:AV}(u:Option (Nat×Nat)->Nat->AV)(j:kv T x=some (.raw lo p (.pointer (some ⟨b,off,none⟩))))(F:kv T y=some (.hv g))
 (v:H 4999=some (.ext (λC z=>∃R L,C=X.put l (.my e n R L (G.take i++J))/\z g=sv n R (i+J.length) L/\(i+J.length<=cap->R=A/\L=cap)))) (o:kM.sa t=some (false,1)) (Z:X lo=some (.var b w)) (k:lo≠l) (Y:sU p w=some old) (U:0+tj p w=off) (c:∀R L,xM (.raw l [] (sv n R (i+J.length) L)) p w=some (u R L)) (d:lE old=1):
 kE prog E nt ops ⟨none,.store t x y,ty,pos,af,gd⟩ T H [4999] ⟨.mz [],[(4999,.ext (OZ X l lo b e n (G.take i++J) u))]⟩:=
 PK (M':=OZ X l lo b e n (G.take i++J) u) l j F v o λC z h=>by
  obtain⟨R,L,rfl,P,_⟩:=h;exact⟨_,_,_,_,_,_,(ky _ _ k).trans Z,rfl,Y,U,by rw[P];exact c R L,rfl,d,R,L,rfl⟩
section
variable {tx e:TypeId}{A:Addr}
def we(b:prog.underlying t=some (.pointer e))(j:kv T x=some (.raw l p (.pointer (some A))))(F:kv T y=some (.v (.pointer none)))(n:lK nt d=true):kE prog E nt ops ⟨d,.binOp .eql t x y tx,ty,pos,af,gd⟩ T H [] ⟨kA false,[]⟩:=sF b j F n
def yX(b:prog.underlying t=some (.pointer e))(j:kv T x=some (.raw l p (.pointer (some A))))(F:kv T y=some (.v (.pointer none)))(n:lK nt d=true):kE prog E nt ops ⟨d,.binOp .neq t x y tx,ty,pos,af,gd⟩ T H [] ⟨kA true,[]⟩:=sE b j F n
def yZ(b:prog.underlying t=some (.pointer e))(j:kv T x=some (.raw l p (.pointer none)))(F:kv T y=some (.v (.pointer none)))(n:lK nt d=true):kE prog E nt ops ⟨d,.binOp .eql t x y tx,ty,pos,af,gd⟩ T H [] ⟨kA true,[]⟩:=sF b j F n
def yY(b:prog.underlying t=some (.pointer e))(j:kv T x=some (.raw l p (.pointer none)))(F:kv T y=some (.v (.pointer none)))(n:lK nt d=true):kE prog E nt ops ⟨d,.binOp .neq t x y tx,ty,pos,af,gd⟩ T H [] ⟨kA false,[]⟩:=sE b j F n
end
def Pu{G:List α}{i:Nat}{y z:α}(h:G[i]?=some z):(G.set i y)[i]?=some y:=by have hi:i<G.length:=(mS.1 h).1;rw[vQ hi]
def Hd:∀w,(zeroValue 3).run prog w= .ok (.int .i64 0) w:=λw=>by kernel_rfl
def Jl:∀w,(zeroValue 22).run prog w= .ok (.slice none 0 0) w:=λw=>by kernel_rfl
def tT{Q:Prop}(k:R)(h:zT R->Q:=by intro kHid;((first|(first|refine an8 _ ?_|refine Jg _ ?_|refine Ij ?_|refine agQ ?_|refine MM zD ?_|refine CQ ?_|refine oz ?_|refine x9 ?_|refine CA ?_|refine Fc ?_|refine Cz ?_|refine BZ ?_|refine Ff ?_|refine CC O ?_|refine G7 ?_|refine MJ ?_|refine G4 ?_|refine agM O ?_|with_reducible refine afK ?_|with_reducible refine afL ?_|with_reducible refine LY jd ?_|with_reducible refine TN jd ?_|refine And.intro hf ?_)|(first|((first|apply Vv|apply Wv);(focus (first|exact oB O O|exact Lh O O|exact V9 tY mc Hd O O O gF jh j7 O|exact Yy tY mc Hd O O O gF jh j7 O|exact Yz tY mc Hd O O O gF jh j7 O|exact PS O O gF gF j5 j5 j5 O|exact HH O O O O|exact Ob O O gF O O O O O|exact V7 O O gF gL O O O O|exact Li O O O|exact PO O O O|exact PM O O O O|exact Lj O O O O iF O|exact Jt O O O O j5 j7 O|exact Ju O O O j5 gE j7 O|exact qx O O O O j5|exact Cj O O O O iP O|exact we qG O O O|exact yZ qG O O O|exact sF qG O O O|exact yX qG O O O|exact yY qG O O O|exact sE qG O O O|exact t7 qG O O O|exact we qg O O O|exact yZ qg O O O|exact sF qg O O O|exact yX qg O O O|exact yY qg O O O|exact sE qg O O O|exact t7 qg O O O|exact we qF O O O|exact yZ qF O O O|exact sF qF O O O|exact yX qF O O O|exact yY qF O O O|exact sE qF O O O|exact t7 qF O O O|exact we qE O O O|exact yZ qE O O O|exact sF qE O O O|exact yX qE O O O|exact yY qE O O O|exact sE qE O O O|exact t7 qE O O O|exact we qD O O O|exact yZ qD O O O|exact sF qD O O O|exact yX qD O O O|exact yY qD O O O|exact sE qD O O O|exact t7 qD O O O|exact vW O O O O iP|exact tl O O O|exact vV O O O|exact rW O O O kh|exact uh O O O kh|exact sG O O O kh|exact vf O O O kh|exact wQ O O O|exact t5 O O O O O|exact vb O O O O O O O|exact XE O O O O O O O|exact Am O O O|exact w9 O O O O O O j5));(focus exact ig))|(apply Wc;(focus (first|(exact C1 O O O O gF O (kK _) (KY (uz kM O)) iO iO O)|(exact pt O O O O O jh j7 O)));(focus exact ig))|(apply Wb;(focus (exact Jv O O O O j5 j7 O));(focus exact ig))|((first|apply Vb|apply Wb);(focus (first|exact Ll tY mc O O O gF O|exact y6 O O O|exact xY O O O O O iu iO iO|exact xW O O O O O iu iO iO|exact xX O O O O O iu iO iO|exact zB O O O O|exact tQ O O O|exact O7 O O O|exact xH O O O O O O O O O|exact O6 O O O O O O O O O));(focus exact ig))|(apply Ws;(focus (exact SW _ O O O O gF gW O O (λ_ _=>rfl) O));(focus exact ig))|((first|apply Vs|apply Ws);(focus (first|exact Ll tY mc O O O gF O|exact aeB tY mc O O O it O gF|exact ID O O O O O gF O O O O O O j7|exact aev O O O O O gF gL O O O O j7|exact nX kM (d:=none) O O O O O O O O O O));(focus exact ig))|(refine aj9 gS O ?_)|refine Vgt O O iK ?_|refine Vgf O O iK ?_|(refine Vgb O O jh ?_)|(refine tc _ j5 ?_)|(refine Vskipn gS ?_)|(refine ZK O O O O gF O (kK _) (KY (uz kM O)) iO iO O h8 λA2 cap2 hA2=>?_)|refine vD O O O O O iv j7 O h8 ?_|(refine sN gS O ?_)|refine Mx O O iK ?_|refine My O O iK ?_|(refine Mz O O jh ?_))));exact kHid.out):Q:=h ⟨k⟩
def wV{Q:Prop}(k:R)(h:zT R->Q:=by intro kHid;(repeat refine tT ?_);exact kHid.out):Q:=h ⟨k⟩
def Wk.raw:Wk H (.v v) (.raw l p v):=λU w B c h=>by
 simp only[Rd]at h⊢;obtain⟨a,rfl⟩:=h;exact⟨⟨HE a,rfl⟩,rfl⟩
def ane{y:AV}(n:mO y=true){c:List Value}(h:Rd U w y B0 H0 c):Rd U w y B H c:=pQ y n h
def nE.fxd(B:nE)(l:nz):nE:=⟨B.oj,λj=>if j=l then none else B.fx j,B.hv⟩
def kY.del(X:kY)(l:nz):kY:=λj=>if j=l then none else X j
def zI(X:kY)(l:nz):X.del l l=none:=by simp[kY.del]
def uP(X:kY){l j:nz}(h:j≠l):X.del l j=X j:=by simp[kY.del,h]
def Y3(X:kY)(l:nz)(xb:XB)(h:X l=none):(X.put l xb).del l=X:=by
 funext j;simp only[kY.del,kY.put];split
 .rename_i e;rw[e,h]
 .rfl
variable {B':nE}{w':World}
section
variable {H':Hp}
def mg.XG(r:mg E nt B T H a w){X C:kY}{l:nz}(u:H 4999=some (.ext (Sg X)))(f:∀j,j≠l->C j=X j)(q:(C l).bind XB.at=none)(m:∀(U:u0) xb,C l=some xb->yp U w xb):mg E nt (B.fxd l) T (l9 H 4999 (.ext (Sg C))) a w:=by
 obtain⟨_,K,s,rfl,z,v⟩:=r.nB u
 have G:∀{j:Nat} {bx:Bx},H j=some bx->Ap bx=true->j≠4999:=λc d e=>by
  rw[e,u]at c;injection c with c;subst c;cases d
 have Y:∀j b,(B.fxd l).fx j=some b->B.fx j=some b:=λj b h=>by
  simp only[nE.fxd]at h;split at h
  .cases h
  .exact h
 have I:∀b o,b<w.heap.size->kI E (B.fxd l) (l9 H 4999 (.ext (Sg C))) b o->kI E B H b o:=by
  rintro b o Z (h|⟨j,h⟩|⟨j,c,d⟩)
  .exact .inl h
  .exact .inr (.inl ⟨j,Y j b h⟩)
  .refine .inr (.inr ⟨j,c,?_⟩);by_cases i:j=4999
   .subst i;rw[kB]at d;exact d.elim
   .rwa[kF _ _ i]at d
 have F:∀j,nR (l9 H 4999 (.ext (Sg C)) j)=true->nR (H j)=true:=λj h=>by
  by_cases i:j=4999
  .subst i;rw[kB]at h;cases h
  .rwa[kF _ _ i]at h
 have V:qt w w B (B.fxd l) H (l9 H 4999 (.ext (Sg C))):=by
  refine⟨λ_ _ _ h=>h,λj h=>?_,λt n len A cap h=>?_,sC (nK.refl (λ_ _=>False) w) λg' e' R J h=>?_,λj h=>?_⟩
  .have i:j≠4999:=λe=>by rw[e,u]at h;cases h
   rw[kF _ _ i];exact h
  .obtain⟨e,k,c,d⟩:=h;exact⟨e,k,by rw[kF _ _ (G c O)];exact c,d⟩
  .exact⟨(kF _ _ (G h O)).trans h,rfl⟩
  .exact⟨(kF _ _ (G h O)).trans h,rfl⟩
 have S:Fx E (B.fxd l) (l9 H 4999 (.ext (Sg C))) w:=by refine⟨λj b h=>?_,λj b h=>r.fx.lt j b (Y j b h),λj y b h x=>r.fx.inj j y b (Y j b h) (Y y b x),λj b g h c d=>r.fx.out j b g (Y j b h) (F g c) d⟩;exact r.fx.mine j b (Y j b h)
 refine r.Lo (nK.refl _ w) I V r.left (λj bx h=>?_) (λj h=>?_) (λj y b' c d p D=>r.inj j y b' (F j c) (F y d) p D) S
 .by_cases i:j=4999
  .subst i;rw[kB]at h;injection h with h;subst h
   refine .inl ⟨⟨O,K⟩,C,rfl,λj=>?_,λj M i=>?_⟩
   .simp only[nE.fxd];by_cases L:j=l
    .subst L;rw[kx O];exact q
    .rw[f j L,ku L];exact z j
   .by_cases L:j=l
    .subst L;exact m _ _ i
    .rw[f j L]at i;exact(v j M i).go (λ_ _=>rfl) (nK.refl _ w) I
  .rw[kF _ _ i]at h;exact dB
 .by_cases i:j=4999
  .subst i;rw[kB]at h;cases h
  .rw[kF _ _ i]at h;exact⟨h,r.x3 j h⟩
end
section
variable {T:List (Nat×AV)}{H:List (Nat×Bx)}
def lL.MR(l:nz)(e:TypeId)(n:Nat)(f:kV 4999 H=some (.ext (Sg X)))(D:0<n):lL E nt ⟨T,H⟩ ⟨T,(4999,.ext (Sg (X.put l (.my e n none 0 []))))::H⟩:=λB a w r=>by
 have h:=r.XG (H:=St.h ⟨T,H⟩) (C:=X.put l (.my e n none 0 [])) (l:=l) f (λj i=>ky _ _ i) jv λU xb h=>by
  rw[kC]at h;injection h with h;subst h
  exact⟨D,kK _,kO _,rfl⟩
 have P:St.h ⟨T,(4999,.ext (Sg (X.put l (.my e n none 0 []))))::H⟩=l9 (St.h ⟨T,H⟩) 4999 (.ext (Sg (X.put l (.my e n none 0 [])))):=kZ _ _ _;exact⟨_,by rw[P];exact h⟩
def lL.amT(l:nz)(f:kV 4999 H=some (.ext (Sg X))):lL E nt ⟨T,H⟩ ⟨T,(4999,.ext (Sg (X.del l)))::H⟩:=λB a w r=>by
 have h:=r.XG (H:=St.h ⟨T,H⟩) (C:=X.del l) (l:=l) f (λj i=>uP _ i) (by rw[zI];rfl) λU xb h=>by
  rw[zI]at h;cases h
 have P:St.h ⟨T,(4999,.ext (Sg (X.del l)))::H⟩=l9 (St.h ⟨T,H⟩) 4999 (.ext (Sg (X.del l))):=kZ _ _ _;exact⟨_,by rw[P];exact h⟩
def lL.wk(s:Nat){x:AV}(y:AV)(o:kV s T=some x)(C:lS x=true)(F:mO y=true)(f:∀H,Wk H x y):lL E nt ⟨T,H⟩ ⟨(s,y)::T,H⟩:=λB a w r=>by
 refine⟨B,r.nt,r.df,λg z j=>?_,r.box,r.x3,r.inj,r.left,r.qa,r.fx⟩;have l:St.t ⟨(s,y)::T,H⟩=l9 (St.t ⟨T,H⟩) s y:=kZ _ _ _;rw[l]at j;by_cases h:g=s
 .subst h;rw[kB]at j;injection j with j;subst j
  obtain⟨u,m,k⟩:=r.tmp g _ o;rw[kJ (l6 C)]at k;obtain⟨c,U,R⟩:=k;obtain⟨e,k2⟩:=f _ _ _ _ _ U;refine⟨u,m,?_⟩;rw[kJ (oV e)];exact⟨c,ane F e,R.trans k2⟩
 .rw[kF _ _ h]at j;exact r.tmp g z j
end
section
variable {T:List (Nat×AV)}{H:List (Nat×Bx)}{d:Nat}
def ajA{e:TypeId}(f:kV 4999 H=some (.ext (Sg X)))(g:X l=some (.my e n A cap G))(k:G.length<=cap->cap<=maxLen->(A=none->G= []/\cap=0)->AS prog E nt ops ol ⟨T,H⟩ Q):AS prog E nt ops ol ⟨T,H⟩ Q:=λi hi B a w r=>by obtain⟨j,b,c,m⟩:=r.El (H:=St.h ⟨T,H⟩) f g;refine k b c (λe=>?_) i hi B a w r;subst e;have:cap=0:=m;exact⟨pE kh,this⟩
def BC{e:TypeId}(l:nz)(y:AV)(o:kV 4999 H=some (.ext (Sg X)))(j:kv (St.t ⟨T,H⟩) x=some z)(N:lS z=true)(n:lK nt (some d)=true)
 (W:kN ops ⟨some d,.box e x,ty,pos,af,gd⟩ (St.t ⟨T,H⟩)=some true) (m:∀H,Wk H z y)
 (h:∀b,AS prog E nt ops ol ⟨(d,lQ l b)::T,(4999,.ext (Sg (X.put l (.var b y))))::H⟩ Q):AS prog E nt ops (⟨some d,.box e x,ty,pos,af,gd⟩::ol) ⟨T,H⟩ Q:=
 MO W λB a w p=>by
  have A:=p.eval j;rw[kJ (l6 N)]at A;obtain⟨c,f,g⟩:=A;obtain⟨i,k2⟩:=m _ _ _ _ _ f
  have I:=p.U3 (l:=l) (xb':=.var w.heap.size y) (w':=w.alloc (.cells c.toArray e)) o O ((pr.refl w).alloc _) iz λU q=>
   ⟨c,e,o8 w _,n6 (nK.oD ((pr.refl w).alloc _)) q y (qt.nj _ _) i⟩
  have r:=I.put (d:=some d) n (x:=lQ l w.heap.size) (v:=.pointer (some ⟨w.heap.size,0,none⟩)) (qI.2 ⟨O,rfl⟩);refine⟨.pointer (some ⟨w.heap.size,0,none⟩),w.alloc (.cells c.toArray e),B.Rs l w.heap.size,⟨(d,lQ l w.heap.size)::T,(4999,.ext (Sg (X.put l (.var w.heap.size y))))::H⟩,?_,?_,h _⟩
  .simp[execOp,Instr.box,newVar,newRow,g,vo f]
  .have P:St.t ⟨(d,lQ l w.heap.size)::T,(4999,.ext (Sg (X.put l (.var w.heap.size y))))::H⟩=zl (St.t ⟨T,H⟩) (some d) (lQ l w.heap.size):=kZ _ _ _;have k:St.h ⟨(d,lQ l w.heap.size)::T,(4999,.ext (Sg (X.put l (.var w.heap.size y))))::H⟩=l9 (St.h ⟨T,H⟩) 4999 (.ext (Sg (X.put l (.var w.heap.size y)))):=kZ _ _ _;rw[P,k];exact r
end
def Jc(l:List Bool):AV:=.sl none 1 (l.map kA)
variable {t':TypeId}
section
def HG{e:TypeId}{bytes:Nat}{tok:Option Nat}(p:kM.ti t=some (.sl e es bytes ea))(o:lK nt d=true)(j:kv T x=some (.sl tok n G))(F:kv T y=some (.v (.slice none 0 0)))(i:0<G.length):kE prog E nt ops ⟨d,.binOp .eql t x y t',ty,pos,af,gd⟩ T H [] ⟨kA false,[]⟩:=
 lO o λB T' H' a w r s D=>by exact aC
end
def DQ(f:FuncId):Prop:=∀(A:Option Addr) (cap:Nat) (w:World),cap<=maxLen->Calls prog f #[.slice A 0 cap] w (λe w'=>∃R L,e= .returned (.slice R 0 L)/\L<=maxLen/\pr w w')
def LU{m:Nat}(h:DQ f):mG prog f [.sl none m []] (.sl none m []):=by
 intro U w vs H;simp only[oe]at H;obtain⟨c,V,rfl,a,rfl⟩:=H;simp only[Rd]at a;obtain⟨A,cap,rfl,_,k,_,_⟩:=a;refine(h A cap w k).mono ?_;rintro e w' ⟨R,L,rfl,g,k2⟩;refine⟨_,rfl,?_,k2⟩;rw[kJ ki];refine⟨[.slice R 0 L],?_,rfl⟩;simp only[Rd];exact⟨R,L,rfl,kO _,g,λh=>absurd h ki,λt s=>by cases s⟩
def LR:DQ 96:=λA cap w u=>by have q:=λ(w:World) A n c n' c'=>AU w 22 _ A n c n' c' underlying22;cases A<;>(go_enter AT,J2;go_wp2;go_ret;exact⟨_,0,rfl,kO _,gP⟩)
def LS:DQ 159:=λA cap w u=>by have q:=λ(w:World) A n c n' c'=>AU w 40 _ A n c n' c' underlying40;cases A<;>(go_enter func159,ntmps159;go_wp2;go_ret;exact⟨_,0,rfl,kO _,gP⟩)
def LQ:DQ 160:=λA cap w u=>by have q:=λ(w:World) A n c n' c'=>AU w 79 _ A n c n' c' underlying79;cases A<;>(go_enter func160,ntmps160;go_wp2;go_ret;exact⟨_,0,rfl,kO _,gP⟩)
def LP:DQ 161:=λA cap w u=>by have q:=λ(w:World) A n c n' c'=>AU w 80 _ A n c n' c' underlying80;cases A<;>(go_enter func161,ntmps161;go_wp2;go_ret;exact⟨_,0,rfl,kO _,gP⟩)
def yj(I:Hp->Prop)(P:Program)(E:su)(nt:Nat)(ops:Array Oper)(o:Oper)(T:Nat->Option AV)(H:Hp)(d:List Nat)(e:Eff):Prop:=
 ∀T' H',I H'->(∀s∈o.looksAt ops,T' s=T s)->(∀g∈d,H' g=H g)->(∀p∈e.wr,H' p.1=H p.1)->an9 P E nt o T' H' e
def ZQ(I:Hp->Prop)(e:List (Nat×Bx)):Prop:=∀H,I H->I (nA H e)
def Ru(I:Hp->Prop)(P:Program)(E:su)(nt:Nat)(ops:Array Oper):List Oper->St->List MQ->(St->List MQ->Prop)->Prop
 | [],S,rs,K=>K S rs
 |o::l,y,rs,K=>∃S,y.same S/\
  ((kN ops o S.t=some true/\ ∃rh e,ZQ I e.wr/\yj I P E nt ops o S.t S.h rh e/\Ru I P E nt ops l (S.app o.dst e) (rs++[⟨rh,e.wr.map (·.1)⟩]) K)∨
  (kN ops o S.t=some false/\lK nt o.dst=true/\Ru I P E nt ops l (S.app o.dst ⟨.mz [],[]⟩) (rs++[⟨[],[]⟩]) K))
def ZT(I:Hp->Prop)(P:Program)(E:su)(nt:Nat)(ops:Array Oper)(o:Oper)(x:tP)(s:Sp):Prop:=
 kN ops o s.1=some x.want/\(x.want=true->yj I P E nt ops o s.1 s.2 x.rh x.e)/\(x.want=false->lK nt o.dst=true/\x.e=⟨.mz [],[]⟩)/\ZQ I x.e.wr
theorem anB{I:Hp->Prop}{o:Nat->Oper}{x:Nat->tP}{s:Sp}{n:Nat}(l:I s.2)(h:∀j,j<n->ZQ I (x j).e.wr)(L:Nat->Bool):∀k,k<=n->I (fs o x L s k).2
 |0,_=>l
 |k+1,w=>by
  have y:=anB (o:=o) l h L k kh;simp only[fs];split
  .exact h k kh _ y
  .exact y
theorem agP{P:Program}{E:su}{nt:Nat}{ops:Array Oper}{I:Hp->Prop}{K:St->List MQ->Prop}:∀(l:List Oper) (S:St) (rs:List MQ),Ru I P E nt ops l S rs K->
 ∃x:List tP,x.length=l.length/\(∃S',K S' (rs++x.map tP.HC)/\(S'.t,S'.h)=fs (λi=>l.getD i default) (λi=>x.getD i default) tO (S.t,S.h) l.length)/\
  ∀i,i<l.length->ZT I P E nt ops (l.getD i default) (x.getD i default) (fs (λi=>l.getD i default) (λi=>x.getD i default) tO (S.t,S.h) i)
 | [],S,rs,h=>⟨[],rfl,⟨S,by simp only[Ru]at h;simpa using h,rfl⟩,λi hi=>absurd hi ki⟩
 |o::l,S,rs,h=>by
  obtain⟨z,⟨c,d⟩,h⟩:=h;rw[<-c,<-d];clear c d
  have oY:∀(y:tP),ZT I P E nt ops o y (z.t,z.h)->Ru I P E nt ops l (z.app o.dst y.e) (rs++[y.HC]) K-> ∃x:List tP,x.length=(o::l).length/\(∃S',K S' (rs++x.map tP.HC)/\(S'.t,S'.h)=fs (λi=>(o::l).getD i default) (λi=>x.getD i default) tO (z.t,z.h) (o::l).length)/\
   ∀i,i<(o::l).length->ZT I P E nt ops ((o::l).getD i default) (x.getD i default) (fs (λi=>(o::l).getD i default) (λi=>x.getD i default) tO (z.t,z.h) i):=by
   intro y F H;obtain⟨x,a,⟨S',b,k⟩,A⟩:=agP l _ _ H;exact aS
  rcases h with⟨f,rh,e,u,G,H⟩|⟨f,n,H⟩
  .exact oY ⟨true,rh,e⟩ ⟨f,λ_=>G,(λh=>by cases h),u⟩ H
  .exact oY ⟨false,[],⟨.mz [],[]⟩⟩ ⟨f,(λh=>absurd h ki),(λ_=>⟨n,rfl⟩),λ_ h=>h⟩ H
variable {I:Hp->Prop}
section
variable {Q:Exit->Act->World->Prop}{x:Nat->tP}{s:Sp}{A:List Nat}
structure akc(I:Hp->Prop)(P:Program)(E:su)(nt:Nat)(ops:Array Oper)(x:Nat->tP)(s:Sp)(A:List Nat):Prop where
 Cu:∀i,i<ops.size->ZT I P E nt ops (nv ops i) (x i) (fs (nv ops) x tO s i)
 pre:∀j,j<ops.size-> ∀p∈Bo (nv ops j),p<j
 anc:T4 ops.toList A=true
 free:∀j,j<ops.size-> ∀i,i<j->(A.getD j 0).testBit i=true∨xp ops (nv ops i) (x i) (nv ops j) (x j)
theorem RU(T:I s.2)(R:akc I P E nt ops x s A)(Y:∀B a w,mg E nt B (fs (nv ops) x tO s ops.size).1 (fs (nv ops) x tO s ops.size).2 a w->Q .normal a w):
 ∀(fuel:Nat) (l:Array Bool) (B:nE) (a:Act) (w:World),l.size=ops.size->ajs ops (lI l)->(List.range ops.size).countP (λi=> !lI l i)<=fuel->
  mg E nt B (fs (nv ops) x (lI l) s ops.size).1 (fs (nv ops) x (lI l) s ops.size).2 a w->wpAny P .any ops Q fuel l a w:=by
 have done:∀(l:Array Bool) (B:nE) (a:Act) (w:World),l.size=ops.size->Region.ready .any ops l= []->mg E nt B (fs (nv ops) x (lI l) s ops.size).1 (fs (nv ops) x (lI l) s ops.size).2 a w->Q .normal a w:=by
  intro l B a w y H r;have e:fs (nv ops) x (lI l) s ops.size=fs (nv ops) x tO s ops.size:=F0 λj n=>Mk y R.pre H j n;rw[e]at r;exact Y B a w r
 intro fuel
 induction fuel with
 |zero=>
  exact aK
 |succ fuel F=>
  intro l B a w y v C r;refine⟨λH=>done l B a w y H r,λi hi=>?_⟩;rw[C6 y]at hi;obtain⟨S,m,X⟩:=hi;have U:ops[i]?=some (nv ops i):=by simp[nv,S]
  have lo:∀j,j<i->lI l j=false->xp ops (nv ops j) (x j) (nv ops i) (x i):=by
   intro j n N;rcases R.free i S j n with h|h
   .have:=Qw R.anc (L:=lI l) (λj n=>v j jG) i (by simpa using S) j n h X;rw[this]at N;cases N
   .exact h
  have V:∀j,i<j->j<ops.size->lI l j=true->xp ops (nv ops i) (x i) (nv ops j) (x j):=by
   intro j n hjn N;rcases R.free j hjn i n with h|h
   .have:=Qw R.anc (L:=lI l) (λj n=>v j jG) j (by simpa using hjn) i n h (v j hjn N);rw[this]at m;cases m
   .exact h
  have em:min ops.size i=i:=eY
  have at_:∀d∈(nv ops i).looksAt ops,(fs (nv ops) x (lI l) s ops.size).1 d=(fs (nv ops) x tO s i).1 d:=by
   intro d hdm;have:=alF (o:=nv ops) (x:=x) (s:=s) (d:=d) m ops.size (λj b c u e=>(lo j b u).t12 d e hdm) (λj b c u e=>(V j b c u).t21 d e hdm);rwa[em]at this
  have ah:∀g,(g∈(x i).rh∨ ∃p∈(x i).e.wr,p.1=g)->(fs (nv ops) x (lI l) s ops.size).2 g=(fs (nv ops) x tO s i).2 g:=by
   intro g z
   have:=alG (o:=nv ops) (x:=x) (s:=s) (g:=g) m ops.size
    (λj b c u p X e=>by
     rcases z with z|⟨q,f,rfl⟩
     .exact(lo j b u).h12 p X (e▸z)
     .exact(lo j b u).hh p X q f e)
    (λj b c u p X e=>by
     rcases z with z|⟨q,f,rfl⟩
     .exact(V j b c u).h21 p X (e▸z)
     .exact(V j b c u).hh q f p X e.symm)
   rwa[em]at this
  obtain⟨K,J,M,_⟩:=R.Cu i S;have hIn:I (fs (nv ops) x (lI l) s ops.size).2:=anB T (λj n=>(R.Cu j n).2.2.2) _ _ (kK _)
  have hadd:fs (nv ops) x (lI (l.setIfInBounds i true)) s ops.size=H5 (fs (nv ops) x (lI l) s ops.size) (nv ops i) (x i):=by rw[<-WA m ops.size S V,vr kh]
  have hdown:ajs ops (lI (l.setIfInBounds i true)):=by
   intro j n N p hpm;rw[vr kh]at N⊢;simp only[DY]at N⊢;split
   .rfl
   .by_cases h:j=i
    .subst h;exact X p hpm
    .rw[ku h]at N;exact v j n N p hpm
  have hcount:(List.range ops.size).countP (λk=> !lI (l.setIfInBounds i true) k)<=fuel:=by
   rw[vr kh];have:=WR m ops.size S;omega
  unfold wpOp;simp only[U];have D:kN ops (nv ops i) (fs (nv ops) x (lI l) s ops.size).1=some (x i).want:=(D0 at_).trans K;split
  .rename_i Z;rw[rf r D]at Z;refine .inl (J Z _ _ hIn at_ (λg z=>ah g (.inl z)) (λp X=>ah p.1 (.inr ⟨p,X,rfl⟩)) B a w r _ _ λB' W w' G=>?_);refine F _ B' W w' jH hdown hcount ?_;rw[hadd];exact G
  .rename_i Z;rw[rf r D]at Z;obtain⟨b,c⟩:=M (by simpa using Z);refine F _ B _ w jH hdown hcount ?_;rw[hadd,H5,c];exact r.undef b
theorem KK(v:I S.h){K:St->List MQ->Prop}(H:∀S' rs,K S' rs->ly ops rs=true/\ ∀B a w,mg E nt B S'.t S'.h a w->Q .normal a w)(h:Ru I P E nt ops ops.toList S [] K){B:nE}{a:Act}{w:World}(r:mg E nt B S.t S.h a w):
 wpAny P .any ops Q ops.size (Array.replicate ops.size false) a w:=by
 obtain⟨G,b,⟨S',c,o⟩,A⟩:=agP _ _ _ h;obtain⟨F,J⟩:=H _ _ c;rw[EM]at F;unfold ly at F;simp only[l5,nO]at F;obtain⟨⟨⟨e,k2⟩,k3⟩,q⟩:=F;have g:ops.toList.length=ops.size:=e1;rw[g]at b o A k2 q
 let x:Nat->tP:=λi=>G.getD i default
 have n:∀i,i<ops.size->(G.map tP.HC).getD i ⟨[],[]⟩=(x i).HC:=by
  intro i hi;have:i<G.length:=eY;simp[x,nI,this]
 have pl:akc I P E nt ops x (S.t,S.h) (YK ops.toList []):=by exact aG
 have f:fs (nv ops) x tO (S.t,S.h) ops.size=(S'.t,S'.h):=o.symm
 have u:∀i,lI (Array.replicate ops.size false) i=false:=by
  intro i;simp only[lI,CK,af6];split<;>rfl
 have z:∀k,fs (nv ops) x (lI (Array.replicate ops.size false)) (S.t,S.h) k=(S.t,S.h):=by
  intro k
  induction k with
  |zero=>rfl
  |succ k y=>simp only[fs,u k];exact y
 refine RU (s:=(S.t,S.h)) v pl (λB a w t=>?_) ops.size _ B a w ki (λj m h=>by rw[u]at h;cases h) ?_ ?_
 .rw[f]at t;exact J B a w t
 .have:=H6 (p:=λi=> !lI (Array.replicate ops.size false) i) (l:=List.range ops.size);simpa using this
 .rw[z];exact r
end
def Kn(l:nz)(xb:XB):Hp->Prop:=λH=>∃M,H 4999=some (.ext M)/\ ∀X y,M X y->X l=some xb
variable {rs:List MQ}{K:St->List MQ->Prop}
variable {lb:nz}{xb:XB}
variable {g':Nat}{b':Bx}
section
variable {l:List Oper}{T:List (Nat×AV)}{H:List (Nat×Bx)}{d:Nat}
def G8{id:Nat}{l:List Oper}(I:Hp->Prop)(m:I S.h)(T:P.follows .mixedOrders=true)(h:Ru I P E nt l.toArray l S [] (λS' rs=>ly l.toArray rs=true/\Q .normal S')):AW P E nt (.region id l.toArray true) S Q:=λB a w r=>
 wp_region_any T (KK (Q:=λe W w'=>∃B' S',mg E nt B' S'.t S'.h W w'/\Q e S') (K:=λS' rs=>ly l.toArray rs=true/\Q .normal S') m (λS rs F=>⟨F.1,λB a w r=>⟨B,S,r,F.2⟩⟩) jE r.drew)
def aoD:ZQ I []:=λ_ h=>h
def afg{b:Bx}(h:g≠4999):ZQ (Kn lb xb) [(g,b)]:=λH ⟨M,h1,h2⟩=>⟨M,by simp only[nA];rw[kF _ _ (pv h)];exact h1,h2⟩
def aff{M:kY->(Nat->Value)->Prop}(h:∀X y,M X y->X lb=some xb):ZQ (Kn lb xb) [(4999,.ext M)]:=λH _=>⟨M,by simp[nA,l9],h⟩
def anu{M:kY->(Nat->Value)->Prop}{b:Bx}(h:∀X y,M X y->X lb=some xb):ZQ (Kn lb xb) [(4999,.ext M),(g,b)]:=λH _=>⟨M,by simp[nA,l9],h⟩
def kE.i{T:Nat->Option AV}{H:Hp}{o:Oper}{d:List Nat}{e:Eff}(h:kE P E nt ops o T H d e):yj I P E nt ops o T H d e:=λT' H' _=>h T' H'
def Uv{v:AV}(F:yj I P E nt ops ⟨some d,op,ty,pos,af,gd⟩ (St.t ⟨T,H⟩) (St.h ⟨T,H⟩) rh ⟨v,[]⟩)(e:kN ops ⟨some d,op,ty,pos,af,gd⟩ (St.t ⟨T,H⟩)=some true)
 (h:Ru I P E nt ops l ⟨(d,v)::T,H⟩ (rs++[⟨rh,[]⟩]) K):Ru I P E nt ops (⟨some d,op,ty,pos,af,gd⟩::l) ⟨T,H⟩ rs K:=⟨⟨T,H⟩,⟨O,rfl⟩,.inl ⟨e,rh,_,aoD,F,h⟩⟩
def Ub{v:AV}{b:Bx}(F:yj I P E nt ops ⟨some d,op,ty,pos,af,gd⟩ (St.t ⟨T,H⟩) (St.h ⟨T,H⟩) rh ⟨v,[(g,b)]⟩)(e:kN ops ⟨some d,op,ty,pos,af,gd⟩ (St.t ⟨T,H⟩)=some true)(u:ZQ I [(g,b)])
 (h:Ru I P E nt ops l ⟨(d,v)::T,(g,b)::H⟩ (rs++[⟨rh,[g]⟩]) K):Ru I P E nt ops (⟨some d,op,ty,pos,af,gd⟩::l) ⟨T,H⟩ rs K:=⟨⟨T,H⟩,⟨O,rfl⟩,.inl ⟨e,rh,_,u,F,h⟩⟩
def Us{v:AV}{b:Bx}(F:yj I P E nt ops ⟨none,op,ty,pos,af,gd⟩ (St.t ⟨T,H⟩) (St.h ⟨T,H⟩) rh ⟨v,[(g,b)]⟩)(e:kN ops ⟨none,op,ty,pos,af,gd⟩ (St.t ⟨T,H⟩)=some true)(u:ZQ I [(g,b)])
 (h:Ru I P E nt ops l ⟨T,(g,b)::H⟩ (rs++[⟨rh,[g]⟩]) K):Ru I P E nt ops (⟨none,op,ty,pos,af,gd⟩::l) ⟨T,H⟩ rs K:=⟨⟨T,H⟩,⟨O,rfl⟩,.inl ⟨e,rh,_,u,F,h⟩⟩
def Uc2{v:AV}{b:Bx}(F:yj I P E nt ops ⟨some d,op,ty,pos,af,gd⟩ (St.t ⟨T,H⟩) (St.h ⟨T,H⟩) rh ⟨v,[(g,b),(g',b')]⟩)(e:kN ops ⟨some d,op,ty,pos,af,gd⟩ (St.t ⟨T,H⟩)=some true)(u:ZQ I [(g,b),(g',b')])
 (h:Ru I P E nt ops l ⟨(d,v)::T,(g,b)::(g',b')::H⟩ (rs++[⟨rh,[g,g']⟩]) K):Ru I P E nt ops (⟨some d,op,ty,pos,af,gd⟩::l) ⟨T,H⟩ rs K:=⟨⟨T,H⟩,⟨O,rfl⟩,.inl ⟨e,rh,_,u,F,h⟩⟩
def PL{T:Nat->Option AV}{H:Hp}{d:Option Nat}{o:Nat}{y:AV}(k:kv T x=some (.raw lb p (.pointer (some ⟨b,off,none⟩))))(i:vc xb=some (b,o,y))(Y:sU p y=some z)(U:o+tj p y=off)(q:kM.sa t=some (na z,lE z))(n:lK nt d=true):
 yj (Kn lb xb) prog E nt ops ⟨d,.load t x,ty,pos,af,gd⟩ T H [] ⟨z,[]⟩:=by
 intro T' H' ⟨M,f,g⟩ s D l B a w r Q' Q F;obtain⟨_,K,X,N,m2,A⟩:=r.nB f;have J:=r.DS (M':=Sg X) f ⟨X,rfl,m2,A⟩;have h:=r.pe ((mv s js).trans k);obtain⟨cur,e,c,j,k2,k3,u⟩:=KD (A _ _ (g X _ N)) i;obtain⟨c1,c2,c3,rfl,v,m,_⟩:=wz p u Y;have S:=Ad (yW j k2 k3);rw[v,U]at S;have I:=pX (kM.u5 q) (by rw[<-nJ m];exact S) NQ;rw[CZ m]at I;unfold Oper.wp;have G:(execOp a.eval ⟨d,.load t x,ty,pos,af,gd⟩).run prog w= .ok (.value (m9 z c2)) w:=by simp[execOp,h,Instr.loadAt,Instr.sureAddr,I]
 rw[G];exact F B _ w (r.put n (by rw[kJ (oV m)];exact⟨c2,t4 z m,rfl⟩))
end
def One(N:kY->Value->Prop)(t:nz)(e:TypeId)(n:Nat)(Z:Value->AV)(C:kY)(s:Value):Prop:=∃i v b,N i v/\C=i.put t (.my e n (some (b,0)) 1 [Z v])/\s=sv n (some (b,0)) 1 1
def Mor(N:kY->Value->Prop)(t l:nz)(e:TypeId)(n:Nat)(Z:Value->AV)(G:List AV)(C:kY)(s:Value):Prop:=∃i v b R L,N i v/\C=(i.put t (.my e n (some (b,0)) 1 [Z v])).put l (.my e n R L (G++[Z v]))/\s=sv n R (G.length+1) L
variable {k2:Nat}
variable {lt:nz}{k3:Nat}{zf:Value->AV}
section
def aeL{e:TypeId}{bytes:Nat}{y0:AV}{k1:Nat}{N:kY->Value->Prop}(lt:nz)(zf:Value->AV)(f:lB prog e z)(n:lK nt (some k2)=true)(p:kM.ti t=some (.sl e (es+1) bytes ea))(k:kv T x=some y0)(R:lS y0=true)(hsz:lE y0=es+1)(u:H k2=none)(m:H 4999=some (.ext (λC y=>N C (y k1))))(hsmall:es+1<=16777216)
 (F:∀U w B H c,Rd U w y0 B H c-> ∀U' w',Rd U' w' (zf (B.hv k1)) B0 H0 c):
 kE prog E nt ops ⟨some k2,.buildSlice t 1 #[(0,x)],ty,pos,af,gd⟩ T H [4999] ⟨.hv k2,[(4999,.ext (λC y=>One N lt e (es+1) zf C (y k2))),(k2,.hid)]⟩:=
 oC n λB T' H' a w r s D hw'=>by
  have L:H' 4999=some (.ext (λC y=>N C (y k1))):=(D 4999 ki).trans m;have X:H' k2=none:=(hw' (k2,.hid) ki).trans u;have hg4:k2≠4999:=λe=>by rw[e,L]at X;cases X
  obtain⟨_,hu,hte,i,W,z1,z2,Y,z4,z5⟩:=kM.ok t _ p;obtain⟨i',zv',y1,y2,y3⟩:=f;rw[z1]at y1;injection y1 with y1;subst y1
  rw[z2]at y2;injection y2 with y2;subst y2
  obtain⟨_,K,q,S,m2,J⟩:=r.nB L;have r0:=r.DS (M':=Sg q) L ⟨q,rfl,m2,J⟩;have y:=r.eval ((s x js).trans k);rw[kJ (l6 R)]at y;obtain⟨c,b,d⟩:=y;have Z:c.length=es+1:=(nJ b).trans hsz
  have hbs:=Q0 (P:=prog) w t e 1 #[(0,a.eval x)] c.toArray i W hu z1 z2 (by rw[Y];omega) (by rw[Y];omega) (by
   rw[Y];have hc2:(a.eval x).cells=c.toArray:=by rw[d];exact vo b
   refine rS [(0,a.eval x)] _ _ ?_;simp only[yH,hc2];rw[kx (by simp[Z])]
   congr 1
   rw[Mg];exact ug _ _ (by simp[Z]))
  have hext:pr w (w.alloc (.cells c.toArray e)):=(pr.refl w).alloc _
  have I:=r0.U3 (l:=lt) (xb':=.my e (es+1) (some (w.heap.size,0)) 1 [zf (B.hv k1)]) (w':=w.alloc (.cells c.toArray e)) (kB _ _ _) O hext iz λU A=>
   ⟨qh _,kK _,by unfold maxLen;omega,c.toArray,c,o8 w _,by simp[Z],λo V=>by simp,c,[],by simp,Z,F _ _ _ _ _ b _ _,rfl⟩
  have hgn:l9 (l9 H' 4999 (.ext (Sg q))) 4999 (.ext (Sg (q.put lt (.my e (es+1) (some (w.heap.size,0)) 1 [zf (B.hv k1)])))) k2=none:=by rw[kF _ _ hg4,kF _ _ hg4];exact X
  have G:=I.FW (g:=k2) (v:=sv (es+1) (some (w.heap.size,0)) 1 1) (M:=λC y=>One N lt e (es+1) zf C (y k2)) (kB _ _ _) hgn ⟨q,B.hv k1,w.heap.size,S,rfl,by simp⟩
  have eH:∀M1 M2 M,l9 (l9 (l9 (l9 H' 4999 M1) 4999 M2) k2 .hid) 4999 (.ext M)=nA H' [(4999,.ext M),(k2,.hid)]:=λM1 M2 M=>by
   funext j;simp only[nA,l9];by_cases c1:j=4999
   .simp[c1]
   .by_cases c2:j=k2
    .simp[c1,c2]
    .simp[c1,c2]
  rw[eH]at G;refine⟨sv (es+1) (some (w.heap.size,0)) 1 1,_,_,?_,G,?_⟩
  .have hmm:(Array.map (λ(x:Nat×Operand)=>(x.1,a.eval x.2)) #[(0,x)])= #[(0,a.eval x)]:=by simp
   simp only[execOp,hmm,Sem.run_bind,hbs];simp[sv]
  .rw[kJ ki];refine⟨[sv (es+1) (some (w.heap.size,0)) 1 1],?_,rfl⟩;simp only[Rd];exact⟨by simp[nA,kF _ _ hg4,kB],by simp[nE.FW,Value.oneCell',sv],by simp[nE.FW]⟩
def Yx{tx e:TypeId}{bytes:Nat}{N:kY->Value->Prop}(u:kM.ti t=some (.sl e es bytes ea))(hs2:kM.ti tx=some (.sl e es bytes ea))(n:kv T s=some (.raw l p (sv es A G.length cap)))(J:kv T x=some (.hv k2))(L:H 4999=some (.ext (λC D=>One N lt e es zf C (D k2))))(i:∀X0 v,N X0 v->X0 l=some (.my e es A cap G))(hne:l≠lt)(z:H k3=none)
 (W:(G.length+1)*bytes<=140737488355328) (hlen2:G.length+1<=9223372036854775807) (q:lK nt (some k3)=true):
 kE prog E nt ops ⟨some k3,.call {callee:=.builtin .append,args:= #[s,x],argTypes:= #[t,tx]},ty,pos,af,gd⟩ T H [4999]
  ⟨.hv k3,[(4999,.ext (λC D=>Mor N lt l e es zf G C (D k3))),(k3,.hid)]⟩:=
 oC q λB T' H' a w r y I K=>by
  have hX':=(I 4999 ki).trans L;have Z:H' k3=none:=(K (k3,.hid) ki).trans z;have hg4:k3≠4999:=λe=>by rw[e,hX']at Z;cases Z
  have h:=r.pe ((y s iV).trans n);have D:=r.eval ((y x iV).trans J);rw[kJ ki]at D;obtain⟨c,hc1,hc2⟩:=D;simp only[Rd]at hc1;obtain⟨_,P,rfl⟩:=hc1;obtain⟨_,S,Y,⟨X0,v,b,n1,rfl,n3⟩,m2,m3⟩:=r.nB hX';have hev:a.eval x=sv es (some (b,0)) 1 1:=by rw[<-n3];exact hc2
  have r0:=r.DS (M':=Sg (X0.put lt (.my e es (some (b,0)) 1 [zf v]))) hX' ⟨_,rfl,m2,m3⟩;have hl':(X0.put lt (.my e es (some (b,0)) 1 [zf v])) l=some (.my e es A cap G):=(ky _ _ hne).trans (i _ _ n1)
  have hsrc:Nu prog E B (l9 H' 4999 (.ext (Sg (X0.put lt (.my e es (some (b,0)) 1 [zf v]))))) w tx es (sv es (some (b,0)) 1 1) [zf v]:=by have:=Fh (X:=X0.put lt (.my e es (some (b,0)) 1 [zf v])) (tx:=tx) (lb:=lt) (p:= []) (c:=1) (off:=0*es) (k:=0) (m:=1) hs2 (kC _ _ _) ki ki;have f:=this E B (l9 H' 4999 (.ext (Sg (X0.put lt (.my e es (some (b,0)) 1 [zf v]))))) w (sv es (some (b,0)) 1 1) (λl xb i=>r0.El (kB _ _ _) i) (Bn O);simpa using f
  obtain⟨w',B',V,U,d,f,o,F⟩:=r0.akl (ty:=ty) (kB _ _ _) u hl' (kK _) hsrc jS (by simpa using hlen2);rw[nQ]at f;simp only[List.length_cons,List.length_nil,oa]at d;have hgn:∀M1 M2,l9 (l9 H' 4999 M1) 4999 M2 k3=none:=λM1 M2=>by rw[kF _ _ hg4,kF _ _ hg4];exact Z
  have R:=f.FW (g:=k3) (v:=sv es V (G.length+1) U) (M:=λC D=>Mor N lt l e es zf G C (D k3)) (kB _ _ _) (hgn _ _) ⟨X0,v,b,V,U,n1,rfl,by simp⟩
  have eH:∀M1 M2 M,l9 (l9 (l9 (l9 H' 4999 M1) 4999 M2) k3 .hid) 4999 (.ext M)=nA H' [(4999,.ext M),(k3,.hid)]:=λM1 M2 M=>by
   funext j;simp only[nA,l9];by_cases c1:j=4999
   .simp[c1]
   .by_cases c2:j=k3
    .simp[c1,c2]
    .simp[c1,c2]
  rw[eH]at R;refine⟨sv es V (G.length+1) U,w',_,by simp[execOp,resolve,invoke,builtin,h,hev,d],R,?_⟩;rw[kJ ki];refine⟨[sv es V (G.length+1) U],?_,rfl⟩;simp only[Rd];exact⟨by simp[nA,kF _ _ hg4,kB],by simp[nE.FW,Value.oneCell'],by simp[nE.FW]⟩
def ZP(N:kY->Value->Prop)(t l lo:nz)(D:Nat)(e:TypeId)(n:Nat)(Z:Value->AV)(G:List AV)(u:Option (Nat×Nat)->Nat->AV):kY->(Nat->Value)->Prop:=λC _=>∃i v b R L,N i v/\C=((i.put t (.my e n (some (b,0)) 1 [Z v])).put l (.my e n R L (G++[Z v]))).put lo (.var D (u R L))
def aeu{e:TypeId}{lo:nz}{N:kY->Value->Prop}{w:AV}(u:Option (Nat×Nat)->Nat->AV)(j:kv T x=some (.raw lo p (.pointer (some ⟨b,off,none⟩))))(F:kv T y=some (.hv k3))
 (z:H 4999=some (.ext (λC A=>Mor N lt l e n zf G C (A k3)))) (o:kM.sa t=some (false,1)) (Y:∀i v,N i v->i lo=some (.var b w)) (g:lo≠l) (I:lo≠lt) (X:sU p w=some old) (U:0+tj p w=off) (c:∀R L,xM (.raw l [] (sv n R (G.length+1) L)) p w=some (u R L)) (d:lE old=1):
 kE prog E nt ops ⟨none,.store t x y,ty,pos,af,gd⟩ T H [4999] ⟨.mz [],[(4999,.ext (ZP N lt l lo b e n zf G u))]⟩:=
 PK (M':=ZP N lt l lo b e n zf G u) l j F z o λC A h=>by
  obtain⟨i,v,B,R,L,D,rfl,P⟩:=h;exact⟨_,_,_,_,_,_,(ky _ _ g).trans ((ky _ _ I).trans (Y _ _ D)),rfl,X,U,by rw[P];exact c R L,rfl,d,i,v,B,R,L,D,rfl⟩
end
def KnX(l:nz)(xb:XB)(g:Nat):Hp->Prop:=λH=>∃M,H 4999=some (.ext M)/\(H g=some .hid∨ ∀X y,M X y->X l=some xb)
def ae6{T:List (Nat×AV)}{H:List (Nat×Bx)}(h:X l=some xb):KnX l xb g (St.h ⟨T,(4999,.ext (Sg X))::H⟩):=⟨Sg X,rfl,.inr λC y e=>by rw[show C=X from e];exact h⟩
def YP{M:kY->(Nat->Value)->Prop}{b:Bx}(h:∀X y,M X y->X lb=some xb):ZQ (KnX lb xb g) [(4999,.ext M),(g',b)]:=λH _=>⟨M,by simp[nA,l9],.inr h⟩
def YO{M:kY->(Nat->Value)->Prop}(t:g≠4999):ZQ (KnX lb xb g) [(4999,.ext M),(g,.hid)]:=λH _=>⟨M,by simp[nA,l9],.inl (by simp[nA,l9,t])⟩
section
def aex{o:Nat}{y:AV}(u:H g=none)(j:kv T x=some (.raw lb p (.pointer (some ⟨b,off,none⟩))))(c:vc xb=some (b,o,y))(X:sU p y=some z)(U:o+tj p y=off)(q:kM.sa t=some (na z,lE z))(n:lK nt d=true):
 yj (KnX lb xb g) prog E nt ops ⟨d,.load t x,ty,pos,af,gd⟩ T H [g] ⟨z,[]⟩:=λT' H' l s D e=>by
 obtain⟨M,a,h2⟩:=l;have Y:H' g=none:=(D g ki).trans u;rcases h2 with h2|h2
 .rw[Y]at h2;cases h2
 .exact PL j c X U q n T' H' ⟨M,a,h2⟩ s ki e
def kE.anz{o:Oper}{v:AV}{M:kY->(Nat->Value)->Prop}(t:H g=some .hid)(R:g≠4999)(h:kE prog E nt ops o T H [4999] ⟨v,[(4999,.ext M)]⟩):kE prog E nt ops o T H [4999] ⟨v,[(4999,.ext M),(g,.hid)]⟩:=λT' H' s D f=>by
 have Y:H' g=some .hid:=(f (g,.hid) ki).trans t;have b:=h T' H' s D (λp X=>f p (by simp at X⊢;exact .inl X))
 have e:nA H' [(4999,.ext M)]=nA H' [(4999,.ext M),(g,.hid)]:=by
  funext j;simp only[nA,l9];by_cases c1:j=4999
  .simp[c1]
  .by_cases c2:j=g
   .subst c2;simp[c1,Y]
   .simp[c1,c2]
 intro B a w r K Q F
 exact b B a w r K Q (λB' W w' k=>F B' W w' (by
  show mg E nt B' _ (nA H' [(4999,.ext M),(g,.hid)]) W w'
  rw[<-e];exact k))
end
section
variable {l:List Oper}{T:List (Nat×AV)}{H:List (Nat×Bx)}
def Us2{v:AV}{b:Bx}(F:yj I P E nt ops ⟨none,op,ty,pos,af,gd⟩ (St.t ⟨T,H⟩) (St.h ⟨T,H⟩) rh ⟨v,[(g,b),(g',b')]⟩)(e:kN ops ⟨none,op,ty,pos,af,gd⟩ (St.t ⟨T,H⟩)=some true)(u:ZQ I [(g,b),(g',b')])
 (h:Ru I P E nt ops l ⟨T,(g,b)::(g',b')::H⟩ (rs++[⟨rh,[g,g']⟩]) K):Ru I P E nt ops (⟨none,op,ty,pos,af,gd⟩::l) ⟨T,H⟩ rs K:=⟨⟨T,H⟩,⟨O,rfl⟩,.inl ⟨e,rh,_,u,F,h⟩⟩
end
section
variable {F:Fence}{Q:Exit->Act->World->Prop}
def Wg(n:ops.toList.all sW=true){i:Nat}{o:Oper}(h:ops[i]?=some o):sW o=true:=by
 obtain⟨Z,e⟩:=yf.1 h;exact mq.1 n o (by rw[<-e,<-Array.getElem_toList];exact ng _)
def Yp(hF:F.plain=Fence.wide)(p:ops.toList.all sW=true)(G:∀a w,¬Q .outgrown a w){i:Nat}{K:Act->World->Prop}{a:Act}{w:World}(h:wpOp P ops Q i K a w):wpOpIn F n P ops Q i K a w:=by
 unfold wpOp at h;unfold wpOpIn;cases U:ops[i]? with
 |none=>rw[U]at h;exact h
 |some o=>
  rw[U]at h;dsimp only at h⊢;split
  .rename_i e;rw[kx e]at h;rcases h with h|⟨_,W,w',h⟩
   .exact ajL hF (Wg p U) h
   .exact absurd h (G _ _)
  .rename_i e;rw[ku e]at h;exact⟨λf _=>Pj hF f,h⟩
theorem SI(hF:F.plain=Fence.wide)(o:ops.toList.all sW=true)(G:∀a w,¬Q .outgrown a w):∀(l:List Nat) (a:Act) (w:World),wpOps P ops Q l a w->wpOpsIn F n P ops Q l a w
 | [],a,w,h=>h
 |i::rest,a,w,h=>by
  rw[wpOps_cons]at h;rw[wpOpsIn_cons];exact Yp hF o G (wpOp_mono (λa w=>SI hF o G rest a w) h)
theorem Mc(hF:F.plain=Fence.wide)(o:ops.toList.all sW=true)(G:∀a w,¬Q .outgrown a w){H:Region.Mode}:∀(fuel:Nat) (E:Array Bool) (a:Act) (w:World),wpAny P H ops Q fuel E a w->wpAnyIn F n P H ops Q fuel E a w
 |0,E,a,w,h=>h
 |fuel+1,E,a,w,h=>⟨h.1,λi hi=>Yp hF o G (wpOp_mono (λa w=>Mc hF o G fuel _ a w) (h.2 i hi))⟩
end
variable {Q':Exit->St->Prop}
section
variable {F:Fence}
def O2.mono{c:Code}(h:O2 F n P E nt c S Q)(d:∀e S,Q e S->Q' e S):O2 F n P E nt c S Q':=λB a w r=>
 Dz (h B a w r) λe a w ⟨B',S',h1,h2⟩=>⟨B',S',h1,d _ _ h2⟩
def O1{id:Nat}{c:Code}(h:O2 F n P E nt c S (lj id Q)):O2 F n P E nt (.block id c) S Q:=λB a w r=>
 wpIn_block (Dz (h B a w r) λe a w ⟨B',S',h1,h2⟩=>by
  cases e with
  |exit d=>
   exact cj
  |normal=>exact⟨B',S',h1,h2⟩
  |outgrown=>exact⟨B',S',h1,h2⟩
  |goto l=>exact⟨B',S',h1,h2⟩
  |ret=>exact⟨B',S',h1,h2⟩
  |panic c=>exact⟨B',S',h1,h2⟩)
def ajy(h:Q .ret S):O2 F n P E nt .ret S Q:=λB a w r=>wpIn_ret ⟨B,S,r,h⟩
def G9{c:Operand}{x y:Code}(b:Bool)(u:kv S.t c=some (.v (.bool b)))(d:b=true->O2 F n P E nt x S Q)(e:b=false->O2 F n P E nt y S Q):O2 F n P E nt (.cond c x y) S Q:=λB a w r=>
 wpIn_cond_split (r.od u) (λhb=>d hb B a w r) (λhb=>e hb B a w r)
def amC{id:Nat}{l:List Oper}(hF:F.plain=Fence.wide)(o:l.all sW=true)(G:∀S,¬Q .outgrown S)(h:AS P E nt l.toArray l S Q):O2 F n P E nt (.region id l.toArray false) S Q:=λB a w r=>by
 refine wpIn_region ?_;have:=h 0 ki B a w r;rw[Me];exact SI hF jV (λa w ⟨B',S',_,h⟩=>G S' h) _ _ _ (by simpa using this)
def Z0{id:Nat}{l:List Oper}(hF:F.plain=Fence.wide)(T:P.follows .mixedOrders=true)(o:l.all sW=true)(H:∀S,¬Q .outgrown S)(h:lM P E nt l.toArray l S [] (λS' rs=>ly l.toArray rs=true/\Q .normal S')):O2 F n P E nt (.region id l.toArray true) S Q:=λB a w r=>
 wpIn_region_any T (Mc hF jV (λa w ⟨B',S',_,h⟩=>H S' h) _ _ _ _ (ND (K:=λS' rs=>ly l.toArray rs=true/\Q .normal S') (Q:=λe W w'=>∃B' S',mg E nt B' S'.t S'.h W w'/\Q e S') (λS rs G=>⟨G.1,λB a w r=>⟨B,S,r,G.2⟩⟩) jE r.drew))
def agO{id:Nat}{l:List Oper}(I:Hp->Prop)(m:I S.h)(hF:F.plain=Fence.wide)(T:P.follows .mixedOrders=true)(o:l.all sW=true)(H:∀S,¬Q .outgrown S)(h:Ru I P E nt l.toArray l S [] (λS' rs=>ly l.toArray rs=true/\Q .normal S')):O2 F n P E nt (.region id l.toArray true) S Q:=λB a w r=>
 wpIn_region_any T (Mc hF jV (λa w ⟨B',S',_,h⟩=>H S' h) _ _ _ _ (KK m (K:=λS' rs=>ly l.toArray rs=true/\Q .normal S') (Q:=λe W w'=>∃B' S',mg E nt B' S'.t S'.h W w'/\Q e S') (λS rs G=>⟨G.1,λB a w r=>⟨B,S,r,G.2⟩⟩) jE r.drew))
end
def yj.of{J:Hp->Prop}{o:Oper}{e:Eff}(h:yj I P E nt ops o T H rh e)(l:∀H,J H->I H):yj J P E nt ops o T H rh e:=λT' H' hi=>h T' H' (l _ hi)
def Kn2(i:nz)(L:XB)(W:nz)(E:XB):Hp->Prop:=λH=>Kn i L H/\Kn W E H
variable {l1 l2:nz}
def aoC{L E:XB}{M:kY->(Nat->Value)->Prop}(h:∀X y,M X y->X l1=some L/\X l2=some E):ZQ (Kn2 l1 L l2 E) [(4999,.ext M)]:=λH G=>⟨aff (λX y e=>(h X y e).1) H G.1,aff (λX y e=>(h X y e).2) H G.2⟩
def alA{L E:XB}(f:H 4999=some (.ext (Sg X)))(a:X l1=some L)(b:X l2=some E):Kn2 l1 L l2 E H:=⟨⟨_,f,λC y e=>by rw[show C=X from e];exact a⟩,⟨_,f,λC y e=>by rw[show C=X from e];exact b⟩⟩
abbrev yl(fn:FuncId)(w:Array Value)(t:List Tmp)(assign body:Code)(D:Nat):Loop:={state:=.ready,pending:=none,fn,tmps:=w,params:=t.toArray,assign,body,defers:=D}
def YX(P:Program)(l:Nat)(args:List AV)(X:kY)(b:Bool)(M:kY->Prop):Prop:=
 ∀(n:Nat) (E:su) (B:nE) (w:World) (vs:List Value),E.df= []->(∀g,E.eb g=none)->uu E B (hL (HX X)) w->oe (kI E B (hL (HX X))) w args B (hL (HX X)) vs->
  ∃fn tmps assign body,(Instr.yield l vs.toArray).run P w= .ok (.round l fn tmps assign body) w/\RoundIn Fence.wide n P l fn tmps assign body w λe w'=>∃B2,e= .returned (.bool b)/\uu E B2 (hL (HM λC _=>M C)) w'
def cst:AV->Option Value
 | .v x=>if sB x then some x else none
 | .raw _ _ x=>if x.oneCell' then some x else none
 |_=>none
def alL{x:AV}(h:cst x=some v)(U:u0)(w:World)(B:nE)(H:Hp):qJ U w B H x v:=by
 cases x with
 |v y=>
  simp only[cst]at h;split at h
  .injection h with h;subst h;rename_i X;rw[kJ ki];exact⟨[y],by simp[Rd,X],rfl⟩
  .cases h
 |raw l p y=>
  simp only[cst]at h;split at h
  .injection h with h;subst h;rename_i X;exact qI.2 ⟨X,rfl⟩
  .cases h
 |_=>cases h
def anD:AV->Bool
 | .v _=>true
 | .raw _ _ _=>true
 |_=>false
variable {u:Value}
def ajq{x:AV}(h:qJ U w B H x u)(z:anD x=true):cst x=some u:=by
 cases x with
 |v y=>
  rw[kJ ki]at h;obtain⟨c,a,b⟩:=h;simp only[Rd]at a;obtain⟨a,rfl⟩:=a;simp only[cst,a,oQ,b];rfl
 |raw l p y=>
  rw[qI]at h;simp only[cst,h.1,oQ,h.2]
 |_=>cases z
def ZR(Th:List (Nat×AV))(w:Array Value):Prop:=∀p∈Th,∃v,w[p.1]?=some v/\cst p.2=some v
def CE:List Tmp->List AV->List (Nat×AV)
 |p::ps,x::G=>(p,x)::CE ps G
 |_,_=> []
theorem adN{U:u0}{w:World}{B:nE}{H:Hp}:∀{G:List AV} {vs:List Value},oe U w G B H vs->G.length=vs.length/\ ∀(i:Nat) (x:AV),G[i]?=some x-> ∃v,vs[i]?=some v/\qJ U w B H x v
 | [],vs,h=>by simp only[oe]at h;subst h;exact⟨O,λi x h=>by simp at h⟩
 |x::G,vs,h=>by
  simp only[oe]at h;obtain⟨c,V,rfl,a,b⟩:=h;obtain⟨e,k2⟩:=adN b;refine⟨by simp[e],λi y F=>?_⟩;cases i with
  |zero=>simp at F;subst F;exact⟨_,rfl,by rw[kJ (oV a)];exact⟨c,a,rfl⟩⟩
  |succ i=>simpa using k2 i y jL
theorem Ty:∀(ps:List Tmp) (vs:List Value) (tm:Array Value),ps.length=vs.length->ps.Nodup->(∀p∈ps,p<tm.size)->
 (((ps.zip vs).foldl (λtmps (t,a)=>tmps.setIfInBounds t a) tm).size=tm.size)/\(∀(i:Nat) (p:Tmp) (v:Value),ps[i]?=some p->vs[i]?=some v->((ps.zip vs).foldl (λtmps (t,a)=>tmps.setIfInBounds t a) tm)[p]?=some v)/\ ∀k,k∉ps->((ps.zip vs).foldl (λtmps (t,a)=>tmps.setIfInBounds t a) tm)[k]?=tm[k]?
 | [],[],tm,_,_,_=>⟨O,λi p v h=>by simp at h,λk _=>rfl⟩
 | [],_::_,_,h,_,_=>fq
 |_::_,[],_,h,_,_=>fq
 |p::ps,v::vs,tm,h,hn,Z=>by
  simp only[List.zip_cons_cons,List.foldl_cons];rw[Gy]at hn;obtain⟨f,k2,k3⟩:=Ty ps vs (tm.setIfInBounds p v) jE hn.2 (λq d=>by simpa using Z q (nV _ d));refine⟨by rw[f];simp,λi q u b c=>?_,λk w=>?_⟩
  .cases i with
   |zero=>
    simp at b c;subst b c;rw[k3 _ hn.1];simp[Z p oO]
   |succ i=>exact k2 i q u (by simpa using b) jK
  .rw[k3 k (λh=>w (nV _ h)),Array.getElem?_setIfInBounds_ne];exact λe=>w (e▸oO)
theorem Lr:∀(ps:List Tmp) (G:List AV) (Th:List (Nat×AV)) (s:Nat) (x:AV),kV s (CE ps G++Th)=some x->(∃i:Nat,ps[i]?=some s/\G[i]?=some x)∨kV s Th=some x
 | [],G,Th,s,x,h=>by cases G<;>exact .inr h
 |p::ps,[],Th,s,x,h=>.inr h
 |p::ps,y::J,Th,s,x,h=>by
  simp only[CE,List.cons_append,kV]at h;cases hb:Nat.beq p s with
  |true=>
   rw[hb]at h;simp at h;exact .inl ⟨0,by rw[mi hb];rfl,by rw[h];rfl⟩
  |false=>
   rw[hb]at h;rcases Lr ps J Th s x h with⟨i,a,b⟩|h
   .exact .inl ⟨i+1,by simpa using a,by simpa using b⟩
   .exact .inr h
def uX.put{l:Nat}{o:Obj}:uX w (w.putObj l o) l:=⟨O,rfl,rfl,World.putObj_size,λk x=>World.putObj_heap_other x⟩
theorem Av{r:Loop}:Jx (Obj.loop r)=true:=rfl
def mg.xob(r:mg E nt B T H a w){X:kY}{lb:nz}{l:Nat}{o:Obj}(o':Obj)(t:H 4999=some (.ext (Sg X)))(f:X lb=some (.ob l o))(U:Jx o=true):
 w.heap[l]?=some o/\mg E nt B T (l9 H 4999 (.ext (Sg (X.put lb (.ob l o'))))) a (w.putObj l o'):=by
 obtain⟨_,K,i,rfl,z,u⟩:=r.nB t;have g:w.heap[l]?=some o:=u lb _ f;have Z:l<w.heap.size:=(yf.1 g).1;exact⟨g,r.U2 t f O O uX.put (.inr ⟨o,o',g,U,Zi Z⟩) λ_=>Zi Z⟩
def aoS(m:nz)(l:Nat)(N:Loop)(b:Bool)(M:kY->Prop)(e:Exit)(S:St):Prop:=
 ∃H,kV 4999 S.H=some (.ext (Sg H))/\H m=some (.ob l (.loop {N with state:=.busy}))/\((e= .normal/\b=true/\M (H.put m (.ob l (.loop N))))∨(e= .ret/\b=false/\M (H.put m (.ob l (.loop {N with state:=.done,pending:=some .ret})))))
def aie{K:St->Prop}(S:St):¬mC K Q .outgrown S:=λh=>h
def HL{id:Nat}(F:∀S,¬Q .outgrown S)(S:St):¬lj id Q .outgrown S:=λh=>F S h
variable {lr:nz}{tm:Array Value}{ps:List Tmp}{assign body:Code}{D:Nat}{Th:List (Nat×AV)}
def agn{l:Nat}{H:FuncId}{b:Bool}{M:kY->Prop}
 (f:X lr=some (.ob l (.loop (yl H tm ps assign body D)))) (N:tm.size=nt) (T:ps.length=args.length) (hps:ps.Nodup) (Z:∀p∈ps,p<nt) (u:ZR Th tm) (hth:∀p∈Th,p.1∉ps)
 (h:∀F n E,F.plain=Fence.wide->(∀b,¬E.E3 b)->O2 F n P E nt assign ⟨CE ps args++Th,HX X⟩ (λe U=>e= .normal/\kV 4999 U.H=some (.ext (Sg X))/\
  O2 F n P E nt body ⟨U.T,(4999,.ext (Sg (X.put lr (.ob l (.loop {yl H tm ps assign body D with state:=.busy})))))::U.H⟩ (aoS lr l (yl H tm ps assign body D) b M))):
 YX P l args X b M:=by
 intro n E B w vs hdf heb m hvs;have hent:∀b,¬E.E3 b:=λb ⟨g,k,h⟩=>by rw[heb g]at h;cases h
 obtain⟨z,r⟩:=adN hvs;obtain⟨⟨_,_⟩,J,hx0,_,y⟩:=m.box 4999 _ O;have hx0:J=X:=hx0;subst hx0;have j:w.heap[l]?=some (.loop (yl H tm ps assign body D)):=y lr _ f;obtain⟨d,f2,f3⟩:=Ty ps vs tm (T.trans z) hps (λp Y=>by rw[N];exact Z p Y);have G:=run_yield (P:=P) (args:=vs.toArray) j (by simp[<-z,T]);refine⟨H,_,assign,body,G,?_⟩
 have etm:((yl H tm ps assign body D).params.zip vs.toArray).foldl (λtmps (t,a)=>tmps.setIfInBounds t a) (yl H tm ps assign body D).tmps=(ps.zip vs).foldl (λtmps (t,a)=>tmps.setIfInBounds t a) tm:=by simp
 rw[etm];refine roundIn_of_wpIn trivial ?_
 have r0:mg E nt B (St.t ⟨CE ps args++Th,HX J⟩) (St.h ⟨CE ps args++Th,HX J⟩) {tmps:=(ps.zip vs).foldl (λtmps (t,a)=>tmps.setIfInBounds t a) tm,defers:= []} w:=by
  refine m.rel (d.trans N) hdf.symm λs x q=>?_;rcases Lr ps args Th s x q with⟨i,h1,c⟩|h1
  .obtain⟨v,o,A⟩:=r i x c;exact⟨v,f2 i s v h1 o,A⟩
  .have c:=mI h1;obtain⟨v,o,A⟩:=u _ c;exact⟨v,(f3 s (hth _ c)).trans o,alL A _ _ _ _⟩
 have hpl:(Fence.wide.inRound l).plain=Fence.wide:=rfl;refine Dz (h _ _ E hpl hent B _ w r0) ?_;rintro e V L ⟨B1,U,I,rfl,hg1,hbody⟩;obtain⟨hl1,K⟩:=I.xob (Obj.loop {yl H tm ps assign body D with state:=.busy}) hg1 f Av;refine⟨_,run_beginRound hl1 O,?_⟩;have eh:St.h ⟨U.T,(4999,.ext (Sg (J.put lr (.ob l (.loop {yl H tm ps assign body D with state:=.busy})))))::U.H⟩=l9 U.h 4999 (.ext (Sg (J.put lr (.ob l (.loop {yl H tm ps assign body D with state:=.busy}))))):=kZ _ _ _;refine Dz (hbody B1 V _ (by rw[eh];exact K)) ?_;rintro e a3 w3 ⟨B3,S3,W,S,hg3,hX2,hcase⟩;rcases hcase with⟨rfl,rfl,R⟩|⟨rfl,rfl,R⟩
 .obtain⟨hl3,r4⟩:=W.xob (Obj.loop (yl H tm ps assign body D)) hg3 hX2 Av;refine⟨_,_,run_endRound none hl3,Ey B3 undef,rfl,?_⟩;exact r4.mem.ad2 (v:=undef) (M:=λC _=>M C) heb (kB _ _ _) R
 .obtain⟨hl3,r4⟩:=W.xob (Obj.loop {yl H tm ps assign body D with state:=.done,pending:=some .ret}) hg3 hX2 Av;refine⟨_,_,run_endRound (some .ret) hl3,Ey B3 undef,rfl,?_⟩;exact r4.mem.ad2 (v:=undef) (M:=λC _=>M C) heb (kB _ _ _) R
def Jh(m:nz)(l:Nat)(q:Obj)(b:Bool)(K:kY->Prop)(e:Exit)(S:St):Prop:=
 ((e= .normal/\b=true)∨(e= .ret/\b=false))/\ ∃C,kV 4999 S.H=some (.ext C)/\ ∀H y,C H y->H m=some (.ob l q)/\K H
variable {ob:Obj}
def Jh.no{l:Nat}{b:Bool}{K:kY->Prop}(S:St):¬Jh lr l ob b K .outgrown S:=λ⟨h,_⟩=>by rcases h with h|h<;>cases h.1
def Jh.sg{l:Nat}{b:Bool}{K:kY->Prop}{e:Exit}(h:∃H,kV 4999 S.H=some (.ext (Sg H))/\H lr=some (.ob l ob)/\((e= .normal/\b=true)∨(e= .ret/\b=false))/\K H):Jh lr l ob b K e S:=by
 obtain⟨H,a,c,k,A⟩:=h;exact⟨k,_,a,λX y e=>by rw[show X=H from e];exact⟨c,A⟩⟩
def DN{l:Nat}{q:FuncId}{b:Bool}{M:kY->Prop}(K:kY->Prop)
 (g:X lr=some (.ob l (.loop (yl q tm ps assign body D)))) (N:tm.size=nt) (T:ps.length=args.length) (R:ps.Nodup) (Z:∀p∈ps,p<nt) (s:ZR Th tm) (i:∀p∈Th,p.1∉ps)
 (H:∀I,K I->M (I.put lr (.ob l (.loop (bif b then yl q tm ps assign body D else {yl q tm ps assign body D with state:=.done,pending:=some .ret})))))
 (h:∀F n E ob,F.plain=Fence.wide->(∀b,¬E.E3 b)->O2 F n P E nt assign ⟨CE ps args++Th,HX X⟩ (λe J=>e= .normal/\kV 4999 J.H=some (.ext (Sg X))/\
  O2 F n P E nt body ⟨J.T,(4999,.ext (Sg (X.put lr (.ob l ob))))::J.H⟩ (Jh lr l ob b K))):
 YX P l args X b M:=
 agn g N T R Z s i λF n E hF S=>(h F n E (.loop {yl q tm ps assign body D with state:=.busy}) hF S).mono λe J ⟨c,d,k⟩=>⟨c,d,λB a w r=>Dz (k B a w r) λe a w ⟨B',x,o,f,C,k2,k3⟩=>by
  obtain⟨I,m,L⟩:=o.SK k2;obtain⟨G,y⟩:=k3 _ _ m;refine⟨B',PC B'.hv I x,L,I,rfl,G,?_⟩;have:=H I y;rcases f with⟨rfl,rfl⟩|⟨rfl,rfl⟩
  .exact .inl ⟨O,rfl,this⟩
  .exact .inr ⟨O,rfl,this⟩⟩
section
variable {F:Fence}{Q:Exit->Act->World->Prop}
theorem Jr(hF:F.plain=Fence.wide)(p:ops.toList.all sW=true)(N:List Nat)(m:List Oper)
 (H:∀S rs,K S rs-> ∀B a w,mg E nt B S.t S.h a w->wpOpsIn F n P ops Q N a w):
 ∀(l:List Oper) (i:Nat) (S:St) (rs:List MQ) (B:nE) (a:Act) (w:World),ops.toList.drop i=l++m->lM P E nt ops l S rs K->mg E nt B S.t S.h a w->wpOpsIn F n P ops Q (List.range' i l.length++N) a w
 | [],i,S,rs,B,a,w,_,h,r=>H S rs h B a w r
 |o::l,i,S,rs,B,a,w,g,h,r=>by
  have hi:i<ops.size:=by exact dm
  rw[ts jz]at g;injection g with b c;have U:ops[i]?=some o:=by rw[<-b];simp
  have T:sW o=true:=mq.1 p o (by rw[<-b];exact ng _);rw[sc,H8,Xg];simp only[wpOpsIn,U];obtain⟨J,⟨q,s⟩,h⟩:=h;rw[<-q,<-s]at r;have R:=St.T2 J o.dst;have d:=St.T3 J o.dst;rcases h with⟨j,rh,e,G,y⟩|⟨j,t,y⟩
  .rw[kx (rf r j)];refine ajL hF T (G J.t J.h (λ_ _=>rfl) (λ_ _=>rfl) (λ_ _=>rfl) B a w r _ _ λB' W w' k=>?_);rw[<-R,<-d]at k;exact Jr hF p N m H l (i+1) _ _ B' W w' c y k
  .rw[ku (by rw[rf r j];simp)];have k:=r.undef t;have u:=R ⟨.mz [],[]⟩;have z:=d ⟨.mz [],[]⟩;simp only[nA]at z;rw[<-u,<-z]at k;exact⟨λf _=>Pj hF f,Jr hF p N m H l (i+1) _ _ B _ w c y k⟩
end
section
theorem mg.aj5(r:mg E nt B T H a w){X:kY}{M:kY->Value->Prop}{H':Hp}{M':kY->(Nat->Value)->Prop}(N:Value->Nat->Value)(z:H 4999=some (.ext (Sg X)))(p4:H' 4999=some (.ext M'))(po:∀j,j≠4999->H' j=H j∨(H j=none/\H' j=some .hid))(pn:∀v j,H j=some .hid->N v j=B.hv j)(pM:∀C v,M C v->M' C (N v)){S:nE}{w':World}(I:uu (Tn E B H w) S (hL (HM M)) w'):
 ∃B',mg E nt B' T H' a w'/\B'.hv=N (S.hv 4998)/\ ∀b o,kI E B' H' b o->kI (Tn E B H w) S (hL (HM M)) b o:=by
 have hB4:=(r.nB z).2.1;have Y:nK (kI E B H) w w':=I.left.evo;have P:∀b,¬(Tn E B H w).E3 b:=λb ⟨g,k,h⟩=>fk
 have own2:∀l b,S.fx l=some b->w.heap.size<=b∨ ∃l',B.fx l'=some b:=λl b h=>by
  rcases I.fx.mine l b h with k|k
  .exact .inl k
  .exact .inr k.1
 have qa:∀j b,nR (H j)=true->B j=some b->w'.heap[b]?=w.heap[b]? :=λj b c d=>by
  cases F:H j with
  |none=>rw[F]at c;cases c
  |some bx=>exact I.left.block b (r.qp F d) (P b) (λ⟨l,h⟩=>r.fx.out l b j h c d)
 let B':nE:=⟨B.oj,S.fx,N (S.hv 4998)⟩
 have un:∀j,nR (H' j)=true->nR (H j)=true/\H' j=H j:=λj h=>by
  by_cases m:j=4999
  .subst m;rw[p4]at h;cases h
  .rcases po j m with k|⟨_,k⟩
   .exact⟨by rw[<-k];exact h,k⟩
   .rw[k]at h;cases h
 have box':∀b o,(∃j,B' j=some b/\match H' j with|some (.var _)=>True|some (.tail _ n k)=>k*n<=o|some (.own _ _ _)=>True|_=>False)->kI E B H b o:=by
  rintro b o ⟨j,c,d⟩;obtain⟨bx,f,k2,k3⟩:=sh d;obtain⟨G,U⟩:=un j (by rw[f];exact nG k2);exact .inr (.inr ⟨j,c,by rw[<-U];exact d⟩)
 have R:∀b o,b<w.heap.size->kI E B' H' b o->kI E B H b o:=by exact cW
 have hU2:∀b o,kI E B' H' b o->kI (Tn E B H w) S (hL (HM M)) b o:=by
  rintro b o (h|h|h)
  .exact .inl ⟨wx h.1 r.left.size,.inl h,P b⟩
  .exact .inr (.inl h)
  .have:=box' b o h;exact .inl ⟨r.w7 this,this,P b⟩
 have at_:∀{j:Nat} {bx:Bx},H j=some bx->Ap bx=true->H' j=some bx:=λ{j bx} c d=>by
  have f:j≠4999:=λe=>by rw[e,z]at c;injection c with c;subst c;cases d
  rcases po j f with k|⟨k,_⟩
  .exact k.trans c
  .rw[k]at c;cases c
 have pic:qt w w' B B' H H':=by
  refine⟨λ_ _ _ h=>h,λj h=>?_,λt n len A cap h=>?_,sC Y λg' e' V J h=>?_,λj h=>?_⟩
  .cases F:H j with
   |none=>rw[F]at h;cases h
   |some bx=>
    rw[F]at h;rw[at_ F iS];exact h
  .obtain⟨ty,k,c,d,p⟩:=h;refine⟨ty,k,at_ c O,d,λx=>⟨(p x).1,λb' K=>?_⟩⟩;obtain⟨f,cur,k2,k3⟩:=(p x).2 b' K;exact⟨f,cur,(qa t b' jZ K).trans k2,k3⟩
  .exact⟨at_ h O,rfl⟩
  .exact⟨at_ h O,pn _ j h⟩
 have l2:=I.left
 have left:Ih E w':=by
  refine⟨l2.os.trans r.left.os,l2.tape.trans r.left.tape,l2.output.trans r.left.output,oG r.left.size l2.size,λk x L hxk=>?_,⟨oG r.left.size l2.size,λb cs t fr hb=>?_⟩⟩
  .refine(l2.block k (wx x r.left.size) (P k) λ⟨l,h⟩=>?_).trans (r.left.block k x L hxk);rcases r.fx.mine l k h with q|q
   .omega
   .exact hxk q.1
  .obtain⟨c1,c,d,p⟩:=r.left.evo.cell b cs t fr hb;obtain⟨c2,f,k2,k3⟩:=Y.cell b c1 t fr c;refine⟨c2,f,k2.trans d,λq y=>(k3 q (λhu=>?_)).trans (p q y)⟩;have Z:=qY hb;rcases hu with⟨_,u,_⟩|⟨l,u⟩|⟨j,u1,u2⟩
   .exact y u
   .rcases r.fx.mine l b u with s|s
    .omega
    .exact y (s.2 q)
   .obtain⟨bx,v1,v2,v3⟩:=sh u2;rcases r.mem.mine v1 v2 u1 with s|s
    .omega
    .exact y (s.2.2 q v3)
 have fx:Fx E B' H' w':=by
  refine⟨λl b h=>?_,I.fx.lt,I.fx.inj,λl b j h c d=>?_⟩
  .rcases own2 l b h with k|⟨l',k⟩
   .exact .inl (oG r.left.size k)
   .exact r.fx.mine l' b k
  .obtain⟨f,_⟩:=un j c;rcases own2 l b h with k|⟨l',k⟩
   .cases F:H j with
    |none=>rw[F]at f;cases f
    |some bx=>have:=r.qp F d;omega
   .exact r.fx.out l' b j k f d
 refine⟨B',r.Lo Y R pic left (λj bx h=>?_) (λj h=>?_) (λj W b c d p D=>r.inj j W b (un j c).1 (un W d).1 p D) fx,rfl,hU2⟩
 .by_cases m:j=4999
  .subst m;rw[p4]at h;injection h with h;subst h
   obtain⟨_,X2,f,k2,k3⟩:=I.box 4999 _ O;exact .inl ⟨⟨O,hB4⟩,X2,pM _ _ f,k2,λl xb i=>(k3 l xb i).go (λ_ _=>rfl) (nK.refl _ w') (λb o _ h=>hU2 b o h)⟩
  .rcases po j m with k|⟨k,k'⟩
   .rw[k]at h;refine .inr ⟨?_,h,rfl,λb i hb=>qa j b (by rw[h];exact i) hb⟩;cases bx<;>first|rfl|exact absurd (r.nB h).1 m
   .rw[k']at h;injection h with h;subst h
    exact .inl (r.x3 j k)
 .by_cases m:j=4999
  .subst m;rw[p4]at h;cases h
  .rcases po j m with k|⟨_,k⟩
   .rw[k]at h;exact⟨h,r.x3 j h⟩
   .rw[k]at h;cases h
end
def O0{id:Nat}(l1 l2:List Oper){d:Nat}{x:Operand}{args:List Operand}{ats:Array TypeId}{ty:TypeId}{pos:String}{af:Array Edge}
 (hops:ops.toList=l1++⟨some d,.call {callee:=.value x,args:=args.toArray,argTypes:=ats},ty,pos,af,none⟩::l2) (p:ops.toList.all sW=true) (hdd:lK nt (some d)=true)
 (h:lM P E nt ops l1 S [] (λS1 _=>∃X l G J b M,kV 4999 S1.H=some (.ext (Sg X))/\kv S1.t x=some (.fn (.yield l) [] [])/\args.map (kv S1.t)=G.map some/\G.all lS=true/\(∀H,BL H G J)/\YX P l J X b M/\
  ∀C,M C->lM P E nt ops l2 ⟨(d,.v (.bool b))::S1.T,(4999,.ext (Sg C))::S1.H⟩ [] (λS' _=>Q .normal S'))):AW P E nt (.region id ops false) S Q:=by
 intro B a w r;refine wpIn_wide (n:=0).1 (wpIn_region ?_)
 let Q':Exit->Act->World->Prop:=λe a' w'=>∃B' S',mg E nt B' S'.t S'.h a' w'/\Q e S'
 have Y:ops.size=l1.length+(1+l2.length):=by have:=py List.length hops;simp at this;omega
 have L:List.range ops.size=List.range' 0 l1.length++(l1.length::List.range' (l1.length+1) l2.length):=by
  rw[Me,Y,<-List.range'_append_1 (s:=0) (m:=l1.length) (n:=1+l2.length)]
  congr 1
  rw[Q3 1,H8];simp
 show wpOpsIn _ _ _ _ Q' (List.range ops.size) a w
 rw[L];refine Jr (F:=Fence.wide) O p _ _ (λS1 rs hK B a w r=>?_) l1 0 S [] B a w (by rw[A1];exact hops) h r;obtain⟨X,l,G,J,b,M,u,i,k2,k3,V,Z,k6⟩:=hK
 have hop:ops[l1.length]?=some ⟨some d,.call {callee:=.value x,args:=args.toArray,argTypes:=ats},ty,pos,af,none⟩:=by
  rw[<-Xj,hops];simp
 simp only[wpOpsIn,hop];rw[kx (by simp[Region.wanted])];have hxs:=rP r args G k2 (λz T=>l6 (mq.1 k3 z T));have U:=(V S1.h).Yi hxs;have hfv:=ml ki (r.eval i) O;simp only[Rd]at hfv;obtain⟨c1,c2,R,q,W⟩:=hfv;simp only[oe]at q W;subst q W;injection R with R;have m:=r.inX u;have hB4:=(r.nB u).2.1
 have f:oe (kI (Tn E B S1.h w) (inB B) (hL (HX X))) w J (inB B) (hL (HX X)) (args.map a.eval):=by
  rw[YR r];exact zh (nK.refl _ w) (λ_ _ _ h=>h) J ⟨λg b h _=>by simp[H0,pH]at h,λg h=>by simp[H0,pH]at h,λt n len A cap h=>by obtain⟨e,k,h,_⟩:=h;simp[H0]at h,λg n len k v h=>by obtain⟨e,G,h,_⟩:=h;simp[H0]at h,λg h=>by simp[H0]at h⟩ U
 obtain⟨fn,tmps,assign,body,I,hround⟩:=Z (0- 1) _ _ w _ O (λ_=>rfl) m f;refine⟨λ_ _=>trivial,?_⟩
 have N:(Oper.semAt Fence.wide.round a.eval ⟨some d,.call {callee:=.value x,args:=args.toArray,argTypes:=ats},ty,pos,af,none⟩).run P w= .ok (.round l fn tmps assign body) w:=by
  have hy':(Instr.yield l (args.toArray.map a.eval)).run P w= .ok (.round l fn tmps assign body) w:=by have:(args.toArray.map a.eval)=(args.map a.eval).toArray:=fv;rw[this];exact I
  rw[Oper.semAt_eq _ _ _ (λc y=>by cases y)];simp[execOp,resolve,Deferred.ofValue,R,invoke,I]
 rw[N];refine⟨λh=>kd,hround.mono ?_⟩;rintro e w' ⟨B2,rfl,m2⟩;obtain⟨B',r3,_⟩:=r.aj5 (M:=λC _=>M C) (H':=l9 S1.h 4999 (.ext λC _=>M C)) (M':=λC _=>M C) (λ_=>B.hv) u (kB _ _ _) (λj o=>.inl (kF _ _ o)) (λ_ _ _=>rfl) (λ_ _ h=>h) m2;obtain⟨_,_,C,hM,D,y⟩:=r3.nB (kB _ _ _);have r4:=(r3.DS (M':=Sg C) (kB _ _ _) ⟨C,rfl,D,y⟩).put (d:=some d) hdd (x:=.v (.bool b)) (v:=.bool b) (by rw[kJ ki];exact⟨[.bool b],by simp[Rd,sB],rfl⟩);have eT:St.t ⟨(d,.v (.bool b))::S1.T,(4999,.ext (Sg C))::S1.H⟩=zl S1.t (some d) (.v (.bool b)):=kZ _ _ _
 have eH:St.h ⟨(d,.v (.bool b))::S1.T,(4999,.ext (Sg C))::S1.H⟩=l9 (l9 S1.h 4999 (.ext λC _=>M C)) 4999 (.ext (Sg C)):=by
  rw[tC];exact kZ _ _ _
 rw[<-eT,<-eH]at r4;have hfin:=Jr (F:=Fence.wide) (n:=0) (P:=P) (Q:=Q') (K:=λS' _=>Q .normal S') O p [] [] (λS rs hK B a w r=>⟨B,S,r,hK⟩) l2 (l1.length+1) _ [] _ _ w' (by rw[hops];simp) (k6 C hM) r4;rw[oT]at hfin;exact hfin
def AWQ(P:Program)(E:su)(nt:Nat)(c:Code)(S:St)(Q:Exit->Act->World->Prop):Prop:=∀B a w,mg E nt B S.t S.h a w->c.wp P Q a w
def xv{x y:Code}{Q:Exit->Act->World->Prop}(h:AW P E nt x S (mC (λS'=>AWQ P E nt y S' Q) (λe S'=>∀B a w,mg E nt B S'.t S'.h a w->Q e a w))):AWQ P E nt (.seq x y) S Q:=λB a w r=>
 wp_seq (vz (h B a w r) λe a w ⟨B',S',b,d⟩=>by
  cases e with
  |normal=>exact d B' a w b
  |outgrown=>exact d.elim
  |exit id=>exact d B' a w b
  |goto l=>exact d B' a w b
  |ret=>exact d B' a w b
  |panic c=>exact d B' a w b)
def amD{c:Code}{Q:Exit->Act->World->Prop}(h:AW P E nt c S (λe S'=>∀B a w,mg E nt B S'.t S'.h a w->Q e a w)):AWQ P E nt c S Q:=λB a w r=>
 vz (h B a w r) λe a w ⟨B',S',h1,h2⟩=>h2 B' a w h1
def ajz{c:Code}{T:List (Nat×AV)}{H:List (Nat×Bx)}{Q:Exit->Act->World->Prop}(R:kY->Prop)(f:kV 4999 H=some (.ext (Sg X)))(h:R X)(k:∀Y,R Y->AWQ P E nt c ⟨T,(4999,.ext (Sg Y))::H⟩ Q):AWQ P E nt c ⟨T,H⟩ Q:=λB a w r=>by
 refine k X h B a w ?_;have e:St.h ⟨T,(4999,.ext (Sg X))::H⟩=St.h ⟨T,H⟩:=(kZ _ _ _).trans (rC f);rw[e];exact r
variable {U':u0}
def Kt{H':Hp}{y:AV}(n:∀b o,U' b o->U b o)(F:mO y=true)(h:qJ U w B H y v):qJ U' w B' H' y v:=by
 rcases Ec y with⟨J,rfl⟩|hn
 .rw[mW]at h⊢;obtain⟨A,e,k2⟩:=h;exact⟨A,e,rz J jo (zh (nK.refl _ w) (λb o _ h=>n b o h) J (qt.nj _ _) (rz (B':=B0) (H':=H0) J jo k2))⟩
 .rw[kJ hn]at h⊢;obtain⟨c,e,k2⟩:=h;exact⟨c,pQ y F (n6 (nK.refl _ w) (λb o _ h=>n b o h) y (qt.nj _ _) (pQ (B':=B0) (H':=H0) y F e)),k2⟩
def kY.F6(X:kY)(t:List nz):kY:=λj=>if j∈t then none else X j
def HV(X:kY)(l:nz)(t:List nz):X.F6 (l::t)=(X.F6 t).del l:=by
 funext j;simp only[kY.F6,kY.del,mf];by_cases a:j=l
 .simp[a]
 .simp[a]
def afC(X:kY):X.F6 []=X:=by funext j;simp[kY.F6]
def OY(X:kY)(t:List nz)(x y:AV):Prop:=(∀H,Wk H x y)∨ ∃l p e n A cap G,l∈t/\x= .raw l p (sv n A G.length cap)/\X l=some (.my e n A cap G)/\y= .sl none n G
def ZM(P:Program)(S:St)(X:kY)(u:List nz):ResultVar->AV->Prop
 | .tmp t,y=>∃x,S.t t=some x/\(∀G,x≠ .mz G)/\OY X u x y
 | .cell a t,y=>∃l b x,S.t a=some (lQ l b)/\X l=some (.var b x)/\zg P t (na x) (lE x)/\OY X u x y
def ME(P:Program)(S:St)(X:kY)(t:List nz):List ResultVar->List AV->Prop
 | [],[]=>True
 |r::rs,y::J=>ZM P S X t r y/\ME P S X t rs J
 | [],_::_=>False
 |_::_,[]=>False
def G3(E:su)(X:kY):Prop:=∀b,E.xb b-> ∃l xb,X l=some xb/\xb.at=some b
def VR(E:su)(B:nE)(t:List nz):u0:=λb o=>(b<E.w0.heap.size/\E.X b o/\ ¬E.E3 b)∨ ∃l,l∉t/\B.fx l=some b
variable {dl:List nz}
section
def SG{o:Nat}(h:VR E B dl b o):kI E B H b o:=by
 rcases h with h|⟨l,_,h⟩
 .exact .inl h
 .exact .inr (.inl ⟨l,h⟩)
def OY.run(r:mg E nt B S.t S.h a w)(L:kV 4999 S.H=some (.ext (Sg C)))(k:G3 E X)(z:∀j xb,X j=some xb->j∉dl/\(C j).bind XB.at=xb.at){x y:AV}(h:OY C dl x y){B1:nE}{T:Hp}{c:List Value}(J:Rd (kI E B S.h) w x B1 T c):Rd (VR E B dl) w y B0 H0 c/\m9 x c=m9 y c:=by
 rcases h with I|⟨l,p,e,n,A,cap,G,i,rfl,d,rfl⟩
 .obtain⟨g,k2⟩:=I _ _ _ _ _ J;exact⟨n6 (nK.refl _ w) (λb o _ h=>SG h) y (qt.nj _ _) g,k2⟩
 .obtain⟨_,V,X0,hx0,D,u⟩:=r.nB (H:=S.h) L;have hx0:X0=C:=hx0;subst hx0;simp only[Rd]at J;obtain⟨_,rfl⟩:=J;have U:=u l _ d;refine⟨?_,rfl⟩;obtain⟨M,f,m,F⟩:=U;simp only[Rd];refine⟨_,cap,rfl,f,m,λY=>?_,λt s=>by cases s⟩;cases A with
  |none=>have:cap=0:=F;omega
  |some A=>
   obtain⟨b,o⟩:=A;obtain⟨cur,c,g,k2,k3,P⟩:=F;have hll:=lG P;have v:G.length*n<=cap*n:=mH _ f;have W:(o+cap)*n=o*n+cap*n:=lZ _ _ _;have hfl:B.fx l=some b:=by rw[<-D l,d];rfl
   have hnew:∀o,¬VR E B dl b o:=by
    rintro o (⟨R,N,Z⟩|⟨j,R,N⟩)
    .rcases r.fx.mine l b hfl with q|q
     .omega
     .obtain⟨j,xb,u1,u2⟩:=k b q.1;obtain⟨u3,u4⟩:=z j xb u1;have:B.fx j=some b:=by rw[<-D j,u4,u2]
      exact u3 (r.fx.inj j l b this hfl▸i)
    .exact R (r.fx.inj j l b N hfl▸i)
   refine⟨b,o*n,c,rfl,?_,λq _ _ h=>hnew q h,nr (nK.refl _ w) (λb o _ h=>SG h) n G (qt.nj _ _) P⟩;rw[<-hll];exact yW g kh λq K=>k3 q kh
def aaW(r:mg E nt B S.t S.h a w)(f:kV 4999 S.H=some (.ext (Sg C)))(k:G3 E X)(A:∀j xb,X j=some xb->j∉dl/\(C j).bind XB.at=xb.at){v:ResultVar}{y:AV}(h:ZM P S C dl v y):∃c,(ve a.tmps v).run P w= .ok (m9 y c) w/\Rd (VR E B dl) w y B0 H0 c:=by
 cases v with
 |tmp t=>
  obtain⟨x,d,e,m⟩:=h;obtain⟨z,F,G⟩:=r.tmp t x d;rw[kJ e]at G;obtain⟨c,R,rfl⟩:=G;obtain⟨U,i⟩:=m.run r f k A R;refine⟨c,?_,U⟩;rw[<-i];have:a.tmps.getD t undef=m9 x c:=by simp[CK,F]
  simp only[ve,this];rfl
 |cell o t=>
  obtain⟨l,b,x,d,e,m,F⟩:=h;obtain⟨z,G,R⟩:=r.tmp o _ d;rw[qI]at R;obtain⟨_,rfl⟩:=R;obtain⟨cs,ty,k2,k3⟩:=r.El (H:=S.h) f e;have g:=nJ k3;have T:mQ w b 0 (lE x)=some cs.toArray:=by rw[mX k2];exact pC _ _ jN
  obtain⟨n,I⟩:=F.run r f k A k3;refine⟨cs,?_,n⟩;have D:=pX m T iy;have:a.tmps.getD o undef= .pointer (some ⟨b,0,none⟩):=by simp[CK,G]
  simp only[ve,this,asAddr,Sem.run_bind,Sem.run_pure,Result.andThen_ok,D];rw[<-I];cases k:na x
  .have L:=(tZ k3).2 k;obtain⟨v,rfl⟩:∃v,cs= [v]:=⟨_,L⟩;simp at L;simp[<-L]
  .simp[(tZ k3).1 k]
theorem N0(r:mg E nt B S.t S.h a w)(f:kV 4999 S.H=some (.ext (Sg C)))(k:G3 E X)(x:∀j xb,X j=some xb->j∉dl/\(C j).bind XB.at=xb.at):∀(vs:List ResultVar) (J:List AV),ME P S C dl vs J-> ∃K:List Value,(vs.mapM (ve a.tmps)).run P w= .ok K w/\K.length=vs.length/\oe (VR E B dl) w J B0 H0 K
 | [],[],_=>⟨[],rfl,rfl,by simp[oe]⟩
 |v::vs,y::J,h=>by
  obtain⟨b,d⟩:=h;obtain⟨c,e,k2⟩:=aaW r f k x b;obtain⟨K,k3,l,F⟩:=N0 r f k x vs J d;exact dp
 | [],_::_,h=>h.elim
 |_::_,[],h=>h.elim
def So(g:fn.results.toList=rv)(r:mg E nt B S.t S.h a w)(f:kV 4999 S.H=some (.ext (Sg C)))(k:G3 E X)(x:∀j xb,X j=some xb->j∉dl/\(C j).bind XB.at=xb.at){J:List AV}(h:ME P S C dl rv J):∃v,(results fn a.tmps).run P w= .ok v w/\qJ (VR E B dl) w B0 H0 (Ai J) v:=by
 subst g;obtain⟨K,e,k2,k3⟩:=N0 r f k x _ _ h;have T:=FL _ _ _ _ _ e;rw[zd]at T;rw[vm,Sem.run_bind,T];obtain⟨M,m2⟩:=yS k3;by_cases b:K.length=1
 .obtain⟨u,rfl⟩:=CJ.1 b;obtain⟨y,rfl⟩:=CJ.1 (M.trans b);refine⟨u,by simp,?_⟩;obtain⟨v,m,c',A,D⟩:=m2 0 y O;simp at m;subst m
  show qJ _ w _ _ y u
  rw[kJ (oV A)];exact⟨c',A,D⟩
 .refine⟨.tuple K.toArray,by simp[b],?_⟩;exact cy
theorem mg.acw:∀(dl:List nz) {B:nE} {X:kY},mg E nt B T H a w->H 4999=some (.ext (Sg X))-> ∃B',mg E nt B' T (l9 H 4999 (.ext (Sg (X.F6 dl)))) a w/\(∀j,B'.fx j=if j∈dl then none else B.fx j)
 | [],B,X,r,f=>⟨B,by rw[afC,rC f];exact r,λj=>by simp⟩
 |l::dl,B,X,r,f=>by
  obtain⟨F,I,b⟩:=mg.acw dl r f
  have o:=I.XG (C:=X.F6 (l::dl)) (l:=l) (kB _ _ _) (λj i=>by rw[HV];exact uP _ i) (by rw[HV,zI];rfl) λU xb h=>by
   rw[HV,zI]at h;cases h
  rw[tC]at o;refine⟨_,o,λj=>?_⟩;simp only[nE.fxd,b,mf];by_cases e:j=l
  .simp[e]
  .simp[e]
end
def ajr(P:Program)(X:kY)(M:kY->Prop)(D:Option (nz×Nat))(rv:List ResultVar)(J:List AV)(e:Exit)(S:St):Prop:=
 (e= .normal∨e= .ret)/\ ∃C dl,kV 4999 S.H=some (.ext (Sg C))/\(∀p,D=some p->C p.1=some (.ob p.2 (.deferred (some [])))/\p.1∈dl)/\(∀j xb,X j=some xb->j∉dl/\(C j).bind XB.at=xb.at)/\M (C.F6 dl)/\ME P S C dl rv J
abbrev XA(P:Program)(p:Func)(E:su)(M:kY->Prop)(J:List AV):Exit->Act->World->Prop:=
 bodyPostM Fence.wide 1 P p λe w'=>∃v B2,e= .returned v/\uu E B2 (hL (HM λC _=>M C)) w'/\qJ (kI E B2 (hL (HM λC _=>M C))) w' B2 (hL (HM λC _=>M C)) (Ai J) v
abbrev dfE(E:su)(D:Nat):su:={E with df:= [{target:=.collected D,args:= #[]}]}
def HW(h:sL J=true):mO (Ai J)=true:=by
 match J with
 | []=>rfl
 | [y]=>
  have h:mO y=true:=by simpa[sL]using h
  exact h
 |y::z::l=>simpa[Ai,mO]using h
def ad1(h:∀j,B'.fx j=if j∈dl then none else B.fx j){b o:Nat}(c:kI E (Ey B' undef) (hL (HM M)) b o):VR E B dl b o:=by
 rcases Uu c with k|⟨l,k⟩
 .exact .inl k
 .rw[show(Ey B' undef).fx l=B'.fx l from rfl,h l]at k;split at k
  .cases k
  .exact .inr ⟨l,by assumption,k⟩
def afA(l:fn.results.toList=rv){E:su}{nt:Nat}{B:nE}{S:St}{a:Act}{w:World}{X:kY}{M:kY->Prop}{J:List AV}(n:sL J=true)(V:E.df= [])(p:∀g,E.eb g=none)(j:G3 E X){e:Exit}(r:mg E nt B S.t S.h a w)(h:ajr P X M none rv J e S):XA P fn E M J e a w:=by
 obtain⟨L,C,dl,c,-,k,A,D⟩:=h;obtain⟨v,f,k2⟩:=So l r c j k D;obtain⟨B',I,K⟩:=r.acw dl (H:=S.h) c;have m:=I.mem.ad2 (v:=undef) (M:=λC _=>M C) p (kB _ _ _) A
 have i:LeavesInM Fence.wide 1 P fn a.tmps (λe w'=>∃v B2,e= .returned v/\uu E B2 (hL (HM λC _=>M C)) w'/\qJ (kI E B2 (hL (HM λC _=>M C))) w' B2 (hL (HM λC _=>M C)) (Ai J) v) a.defers .returning w:=by
  rw[show a.defers= []from r.df.trans V];exact⟨v,f,v,_,rfl,m,Kt (λb o hu=>ad1 K hu) (HW n) k2⟩
 rcases L with rfl|rfl
 .exact i
 .exact i
def aj1(hrv:fn.results.toList=rv){E:su}{nt:Nat}{B:nE}{S:St}{a:Act}{w:World}{X:kY}{M:kY->Prop}{J:List AV}{lD:nz}{D:Nat}(u:sL J=true)(heb:∀g,E.eb g=none)(q:G3 E X){e:Exit}(r:mg (dfE E D) nt B S.t S.h a w)(h:ajr P X M (some (lD,D)) rv J e S):XA P fn E M J e a w:=by
 obtain⟨L,C,dl,c,d,s,F,N⟩:=h;obtain⟨hD,hmem⟩:=d _ O;obtain⟨hD2,R⟩:=r.xob (Obj.deferred none) (H:=S.h) c hD O
 let W:St:=⟨S.T,(4999,.ext (Sg (C.put lD (.ob D (.deferred none)))))::S.H⟩
 have eh:W.h=l9 S.h 4999 (.ext (Sg (C.put lD (.ob D (.deferred none))))):=kZ _ _ _;have V:mg (dfE E D) nt B W.t W.h a (w.putObj D (.deferred none)):=by rw[eh];exact R
 have h3':∀j xb,X j=some xb->j∉dl/\((C.put lD (.ob D (.deferred none))) j).bind XB.at=xb.at:=λj xb k=>by
  obtain⟨u1,u2⟩:=s j xb k;exact⟨u1,by rw[ky _ _ (λe=>u1 (by rw[e];exact hmem))];exact u2⟩
 have h5':ME P W (C.put lD (.ob D (.deferred none))) dl rv J:=by
  have one:∀v y,ZM P S C dl v y->ZM P W (C.put lD (.ob D (.deferred none))) dl v y:=by
   have dn:∀x y,OY C dl x y->OY (C.put lD (.ob D (.deferred none))) dl x y:=by
    rintro x y (h|⟨l,p,e,n,A,cap,G,I,z,U,Y⟩)
    .exact .inl h
    .refine .inr ⟨l,p,e,n,A,cap,G,I,z,?_,Y⟩;rw[ky _ _ (λe=>by rw[e,hD]at U;cases U)];exact U
   intro v y h;cases v with
   |tmp t=>obtain⟨x,I,z,U⟩:=h;exact⟨x,I,z,dn _ _ U⟩
   |cell ad t=>
    obtain⟨l,b,x,I,z,U,Y⟩:=h;exact⟨l,b,x,I,by rw[ky _ _ (λe=>by rw[e,hD]at z;cases z)];exact z,U,dn _ _ Y⟩
  have all:∀(rv:List ResultVar) (J:List AV),ME P S C dl rv J->ME P W (C.put lD (.ob D (.deferred none))) dl rv J:=by
   intro rv
   induction rv with
   |nil=>intro J h;cases J<;>exact h
   |cons v rv K=>intro J h;cases J with
    |nil=>exact h
    |cons y J=>exact⟨one v y h.1,K J h.2⟩
  exact all rv J N
 have e4:(C.put lD (.ob D (.deferred none))).F6 dl=C.F6 dl:=by
  funext j;simp only[kY.F6];split
  .rfl
  .rename_i k;exact ky _ _ λe=>k (by rw[e];exact hmem)
 obtain⟨v,f,k2⟩:=So hrv V O (X:=X) q h3' h5';obtain⟨B',Z,T⟩:=V.acw dl (H:=W.h) O;have m0:=Z.mem.ad2 (v:=undef) (M:=λC _=>M C) heb (kB _ _ _) (by rw[e4];exact F);have m:uu E (Ey B' undef) (hL (HM λC _=>M C)) (w.putObj D (.deferred none)):=⟨m0.box,m0.x3,m0.inj,⟨m0.left.os,m0.left.tape,m0.left.output,m0.left.size,m0.left.block,m0.left.evo⟩,m0.qa,⟨m0.fx.mine,m0.fx.lt,m0.fx.inj,m0.fx.out⟩⟩
 have i:LeavesInM Fence.wide 1 P fn a.tmps (λe w'=>∃v B2,e= .returned v/\uu E B2 (hL (HM λC _=>M C)) w'/\qJ (kI E B2 (hL (HM λC _=>M C))) w' B2 (hL (HM λC _=>M C)) (Ai J) v) a.defers .returning w:=by
  rw[show a.defers= [{target:=.collected D,args:= #[]}]from r.df];exact⟨by simp,.inl ⟨D,_,rfl,run_takeDeferred hD2,v,f,v,_,rfl,m,Kt (λb o hu=>ad1 (E:=E) (B:=B) T hu) (HW u) k2⟩⟩
 rcases L with rfl|rfl
 .exact i
 .exact i
def uu.back(m:uu E B (hL (HX X)) w){M:kY->Value->Prop}{z:nE}{w':World}(A:uu (Tn E B (hL (HX X)) w) z (hL (HM M)) w'):∃B',uu E B' (hL (HM M)) w'/\ ∀b o,kI E B' (hL (HM M)) b o->kI (Tn E B (hL (HX X)) w) z (hL (HM M)) b o:=by
 have r:mg E 0 B (λ_=>none) (hL (HX X)) {tmps:= #[],defers:=E.df} w:=m.rel O O λs x h=>fk
 obtain⟨B',k,a,c⟩:=r.aj5 (H':=hL (HM M)) (M':=λC y=>M C (y 4998)) (λv j=>if j=4998 then v else B.hv j) O O (λj i=>by
  by_cases h:j=4998
  .subst h;exact .inr ⟨O,rfl⟩
  .refine .inl ?_;have f:Nat.beq 4999 j=false:=by cases hb:Nat.beq 4999 j;rfl;exact absurd (mi hb).symm i
   have D:Nat.beq 4998 j=false:=by cases hb:Nat.beq 4998 j;rfl;exact absurd (mi hb).symm h
   simp only[hL,kV,f,D,cond_false]) (λv j h=>by
  exfalso;simp only[hL,kV]at h;cases hb:Nat.beq 4999 j<;>rw[hb]at h<;>cases h) (λC v h=>by simpa using h) A
 exact⟨B',k.mem,c⟩
theorem EV{c:Code}{M:kY->Prop}(z:P.funcs[f]?=some fn)(d:fn.body=some c)(N:fn.ntmps=nt)(y:fn.results=rv.toArray)(D:args.length<=nt)(J:List AV)(F:Ai J=r)(S:sL args=true)(n:sL J=true)
 (h:∀E,E.df= []->(∀g,E.eb g=none)->G3 E X->(∀b,¬E.E3 b)->AWQ P E nt c ⟨rY 0 args,HX X⟩ (XA P fn E M J)):mZ P f args X r (λC _=>M C):=by
 subst N;intro E B w vs V A m u;subst F;have r:mg E 0 B (λ_=>none) (hL (HX X)) {tmps:= #[],defers:=E.df} w:=m.rel O O λs x h=>fk;have R:=r.inX (X:=X) O;have T:=YR r (X:=X)
 have K:oe (kI (Tn E B (hL (HX X)) w) (inB B) (hL (HX X))) w args (inB B) (hL (HX X)) vs:=by
  rw[T];exact rz args S u
 obtain⟨⟨_,_⟩,p,W,I,_⟩:=m.box 4999 _ O;have W:p=X:=W;subst W
 have G:G3 (Tn E B (hL (HX p)) w) p:=λb ⟨l,i⟩=>by
  have a:=I l;cases o:p l with
  |none=>rw[o,i]at a;cases a
  |some xb=>rw[o,i]at a;exact⟨l,xb,o,a⟩
 have j:=h (Tn E B (hL (HX p)) w) O (λ_=>rfl) G (λb ⟨g,k,h⟩=>by cases h) _ _ w (LK rfl R K D);refine rM (callsIn_wide.1 (callsIn_of_wp_marks z d trivial (wpIn_wide.2 j) O)) ?_;rintro e w' ⟨v,B2,rfl,m2,H⟩;obtain⟨B',t,q⟩:=m.back m2;exact⟨v,B',rfl,t,Kt q (HW n) H⟩
variable {M':kY->Value->Prop}
def mZ.aam(h:mZ P f args X r M)(T:∀C v,M C v->M' C v):mZ P f args X r M':=by
 intro E B w vs V q m d;refine rM (h E B w vs V q m d) ?_;rintro e w' ⟨v,B2,rfl,m2,H⟩
 have s:∀b o,kI E B2 (hL (HM M')) b o↔kI E B2 (hL (HM M)) b o:=λb o=>by
  constructor
  .intro h;rcases Uu h with k|⟨l,k⟩
   .exact .inl k
   .exact .inr (.inl ⟨l,k⟩)
  .intro h;rcases Uu h with k|⟨l,k⟩
   .exact .inl k
   .exact .inr (.inl ⟨l,k⟩)
 have s:kI E B2 (hL (HM M'))=kI E B2 (hL (HM M)):=by funext b o;exact propext (s b o)
 have F:∀g,g≠4999->hL (HM M') g=hL (HM M) g:=λg u=>by
  have j:Nat.beq 4999 g=false:=by cases hb:Nat.beq 4999 g;rfl;exact absurd (mi hb).symm u
  simp only[hL,kV,j,cond_false]
 obtain⟨⟨i,k2⟩,J,k3,p,I⟩:=m2.box 4999 _ O;refine⟨v,B2,rfl,⟨λg bx u=>?_,λg u=>?_,λg g' b h=>je,m2.left,λg _=>q g,m2.fx.go O (kK _) λg b h=>je⟩,?_⟩
 .by_cases e:g=4999
  .subst e;have:bx= .ext (λX D=>M' X (D 4998)):=by injection u with u;exact u.symm
   subst this;exact⟨⟨O,k2⟩,J,T _ _ k3,p,by rw[s];exact I⟩
  .rw[F g e]at u;have:=m2.box g bx u;cases bx with
   |ext K=>exact absurd this.1.1 e
   |hid=>exact this
   |var x=>have:=Bh (M:=M) (g:=g);rw[u]at this;cases this
   |tail x y z=>have:=Bh (M:=M) (g:=g);rw[u]at this;cases this
   |own x y z=>have:=Bh (M:=M) (g:=g);rw[u]at this;cases this
   |froz x=>
    simp only[hL,kV]at u;cases a:Nat.beq 4999 g<;>rw[a]at u
    .cases c:Nat.beq 4998 g<;>rw[c]at u<;>cases u
    .cases u
 .by_cases e:g=4999
  .subst e;cases u
  .rw[F g e]at u;exact m2.x3 g u
 .rw[s]
  have R:∀x v,qJ (kI E B2 (hL (HM M))) w' B2 (hL (HM M)) x v->qJ (kI E B2 (hL (HM M))) w' B2 (hL (HM M')) x v:=λx v h=>by
   refine vE (nK.refl _ w') (λ_ _ _ h=>h) ⟨λg b D hb=>hb,λg D=>?_,λt n len A cap h=>?_,λg n len k v h=>?_,λg h=>?_⟩ h
   .have:pH (hL (HM M) g)=false:=by
     simp only[hL,kV];cases Nat.beq 4999 g<;>cases Nat.beq 4998 g<;>rfl
    rw[this]at D;cases D
   .obtain⟨e,k,a,_⟩:=h;have:=Bh (M:=M) (g:=t);rw[a]at this;cases this
   .obtain⟨e,G,a,_⟩:=h;have:=Bh (M:=M) (g:=g);rw[a]at this;cases this
   .have e:g≠4999:=λe=>by subst e;cases h
    exact⟨(F g e).trans h,rfl⟩
  exact R _ _ H
variable {rest:Code}
def UB{z y:Code}{Q:Exit->Act->World->Prop}(h:AW P E nt z S (mC (λS'=>∀B a w,mg E nt B S'.t S'.h a w->y.wp P (Exit.then (rest.wp P Q) Q) a w) (λ_ _=>False))):AWQ P E nt ((z.seq y).seq rest) S Q:=λB a w r=>
 wp_seq (wp_seq (vz (h B a w r) λe a w ⟨B',S',b,d⟩=>by
  cases e with
  |normal=>exact d B' a w b
  |outgrown=>exact d.elim
  |exit id=>exact d.elim
  |goto l=>exact d.elim
  |ret=>exact d.elim
  |panic c=>exact d.elim))
def agx(m:nz)(l:Nat)(M:Loop)(N R:kY->Prop)(C:kY):Prop:=
 (C m=some (.ob l (.loop M))/\N (C.del m))∨(C m=some (.ob l (.loop {M with state:=.done,pending:=some .ret}))/\R (C.del m))
variable {caps:List AV}
def O3{id:Nat}{g:Operand}{T:List (Nat×AV)}{H:List (Nat×Bx)}{X0:kY}{M N R:kY->Prop}{gf:FuncId}{gfn:Func}(G lD:nz)(Th:List (Nat×AV))
 (hrv:fn.results=rv.toArray) (q:sL J=true) (hdf:E.df= []) (heb:∀g,E.eb g=none) (o:G3 E X0)
 (f:kV 4999 H=some (.ext (Sg X))) (hlr:G≠lD)
 (t:kv (fun k=>kV k T) g=some (.fn (.func gf) [] caps)) (hcap:sL caps=true) (hgf:P.funcs[gf]?=some gfn) (hgb:gfn.body.isSome=true) (hgn:(gfn.name== "runtime.NumGoroutine")=false)
 (hTh:∀p∈Th,kV p.1 T=some p.2/\anD p.2=true)
 (hit:∀fnr l D tm,tm.size=nt->ZR Th tm->mZ P gf (.fn (.yield l) [] []::caps) ((X.put lD (.ob D (.deferred (some [])))).put G (.ob l (.loop (yl fnr tm ps assign body D)))) (.mz []) (λC _=>C lD=some (.ob D (.deferred (some [])))/\agx G l (yl fnr tm ps assign body D) N R C))
 (A:∀D C,C lD=some (.ob D (.deferred (some [])))->N C->AW P (dfE E D) nt rest ⟨T,(4999,.ext (Sg C))::H⟩ (ajr P X0 M (some (lD,D)) rv J))
 (L:∀D C,C lD=some (.ob D (.deferred (some [])))->R C->ajr P X0 M (some (lD,D)) rv J .ret ⟨T,(4999,.ext (Sg C))::H⟩):
 ∀B a w,mg E nt B (St.t ⟨T,H⟩) (St.h ⟨T,H⟩) a w->(Code.block id (.rangeFunc g ps.toArray assign body)).wp P (Exit.then (rest.wp P (XA P fn E M J)) (XA P fn E M J)) a w:=by
 have hrv':fn.results.toList=rv:=by rw[hrv]
 intro B a S K;refine(wp_block (wpIn_wide (n:=1).1 (wpIn_rangeFunc λfnr _=>?_)))
 let wD:=S.alloc (.deferred (some []))
 let d:=wD.alloc (.loop (yl fnr a.tmps ps assign body S.heap.size))
 have z:=K.U3 (l:=lD) (xb':=.ob S.heap.size (.deferred (some []))) (w':=wD) (H:=St.h ⟨T,H⟩) f O ((pr.refl S).alloc _) (by show S.heap.size<(S.heap.push _).size;simp) λU y=>World.alloc_heap_new S _;have b:wD.heap.size=S.heap.size+1:=World.size_alloc ..;have F:=z.U3 (l:=G) (xb':=.ob wD.heap.size (.loop (yl fnr a.tmps ps assign body S.heap.size))) (w':=d) (kB _ _ _) O ((pr.refl wD).alloc _) (by show wD.heap.size<(wD.heap.push _).size;simp) λU y=>World.alloc_heap_new wD _;rw[tC]at F;rw[b]at F;have hgv:=ml ki (F.eval t) O;simp only[Rd]at hgv;obtain⟨c1,c2,s,r,V⟩:=hgv;simp only[oe]at r;subst r;injection s with s
 have held:ZR Th a.tmps:=λp Y=>by
  obtain⟨u1,u2⟩:=hTh p Y;obtain⟨v,u3,u4⟩:=K.tmp p.1 _ u1;exact⟨v,u3,ajq u4 u2⟩
 refine⟨S.heap.size+1,[{target:=.collected S.heap.size,args:= #[]}],d,{target:=.fn (.func gf) c2.toArray,args:= #[.func (.yield (S.heap.size+1)) #[] #[]]},d,gf,
  #[.func (.yield (S.heap.size+1)) #[] #[]]++c2.toArray,d,run_enterLoop_outer _ _ _ _ _,?_,λ_ _=>trivial,?_,λh=>kd,?_⟩
 .simp only[resolve,s];simp[Deferred.ofValue,go_sem]
 .have x:gfn.body≠none:=by cases h:gfn.body<;>simp_all
  have hn':gfn.name≠ "runtime.NumGoroutine" :=by simpa using hgn
  simp[invoke,callFunc,hgf,hn',x]
 have u:=hit fnr (S.heap.size+1) S.heap.size a.tmps K.nt held
 have hvs:oe (kI E ((B.Rs lD S.heap.size).Rs G (S.heap.size+1)) (l9 (St.h ⟨T,H⟩) 4999 (.ext (Sg ((X.put lD (.ob S.heap.size (.deferred (some [])))).put G (.ob (S.heap.size+1) (.loop (yl fnr a.tmps ps assign body S.heap.size)))))))) d (.fn (.yield (S.heap.size+1)) [] []::caps) B0 H0 (.func (.yield (S.heap.size+1)) #[] #[]::c2):=by
  simp only[oe];exact⟨[.func (.yield (S.heap.size+1)) #[] #[]],c2,rfl,by simp[Rd,oe],rz caps hcap V⟩
 have hcall:=F.Y5 (H':=l9 (St.h ⟨T,H⟩) 4999 (.ext λC _=>C lD=some (.ob S.heap.size (.deferred (some [])))/\agx G (S.heap.size+1) (yl fnr a.tmps ps assign body S.heap.size) N R C)) (M':=λC _=>C lD=some (.ob S.heap.size (.deferred (some [])))/\agx G (S.heap.size+1) (yl fnr a.tmps ps assign body S.heap.size) N R C) (λ_=>((B.Rs lD S.heap.size).Rs G (S.heap.size+1)).hv) (kB _ _ _) (kB _ _ _) (λj m=>.inl (by rw[kF _ _ m,kF _ _ m])) (λ_ _ _=>rfl) (λ_ _ h=>h) u hvs;have ea:(Value.func (.yield (S.heap.size+1)) #[] #[]::c2).toArray= #[Value.func (.yield (S.heap.size+1)) #[] #[]]++c2.toArray:=e1;rw[ea]at hcall;refine CallsIn.mono (callsIn_wide.2 hcall) ?_;rintro e w3 ⟨v,B2,B',rfl,r4,-,-,-⟩;obtain⟨_,_,C,⟨c,W⟩,hf4,hc4⟩:=r4.nB (kB _ _ _);have r5:=r4.DS (M':=Sg C) (kB _ _ _) ⟨C,rfl,hf4,hc4⟩;rw[tC]at r5
 have oY:∀rc:Loop,C G=some (.ob (S.heap.size+1) (.loop rc))->w3.heap[S.heap.size+1]?=some (.loop rc)/\ ∃B6,mg (dfE E S.heap.size) nt B6 (St.t ⟨T,(4999,.ext (Sg (C.del G)))::H⟩) (St.h ⟨T,(4999,.ext (Sg (C.del G)))::H⟩) {a with defers:= [{target:=.collected S.heap.size,args:= #[]}]++a.defers} (w3.putObj (S.heap.size+1) (.loop {rc with state:=.exhausted})):=by
  intro rc hrc;obtain⟨i,r6⟩:=r5.xob (Obj.loop {rc with state:=.exhausted}) (kB _ _ _) hrc O;rw[tC]at r6;have r7:=r6.XG (C:=C.del G) (l:=G) (kB _ _ _) (λj m=>by rw[uP _ m,ky _ _ m]) (by rw[zI];rfl) λU xb h=>by rw[zI]at h;cases h
  rw[tC]at r7;refine⟨i,B'.fxd G,?_⟩;have eh:St.h ⟨T,(4999,.ext (Sg (C.del G)))::H⟩=l9 (St.h ⟨T,H⟩) 4999 (.ext (Sg (C.del G))):=kZ _ _ _;rw[eh];exact⟨r7.nt,by rw[show a.defers= []from K.df.trans hdf];rfl,r7.tmp,r7.box,r7.x3,r7.inj,⟨r7.left.os,r7.left.tape,r7.left.output,r7.left.size,r7.left.block,r7.left.evo⟩,r7.qa,⟨r7.fx.mine,r7.fx.lt,r7.fx.inj,r7.fx.out⟩⟩
 have hDd:(C.del G) lD=some (.ob S.heap.size (.deferred (some []))):=by rw[uP _ (pv hlr)];exact c
 rcases W with⟨hrc,hn⟩|⟨hrc,I⟩
 .obtain⟨i,B6,r8⟩:=oY _ hrc;refine⟨none,_,run_endLoop i ki,?_⟩;refine vz (A S.heap.size _ hDd hn B6 _ _ r8) ?_;rintro e Z w' ⟨B7,S7,r9,h9⟩;exact aj1 hrv' q heb o r9 h9
 .obtain⟨i,B6,r8⟩:=oY _ hrc;refine⟨some .ret,_,run_endLoop i ki,?_⟩;refine wpIn_ret ?_;exact aj1 hrv' q heb o r8 (L S.heap.size _ hDd I)
def Nf:kY:=λ_=>none
def E0(N:sL args=true)(H:mO r=true)(h:mZ P f args Nf r M):mG P f args r:=by
 intro U w vs d
 let E:su:=⟨w,U,λ_=>none,λ_ _=>rfl,[],λ_=>False⟩
 have m:uu E B0 (hL (HX Nf)) w:=by
  refine⟨λg bx h=>?_,λg _=>rfl,λg g' b h=>jf,⟨O,rfl,rfl,kK _,λk _ _ _=>rfl,nK.refl _ _⟩,λ_ _=>rfl,⟨λ_ _ h=>kd,λ_ _ h=>kd,λ_ _ _ h=>kd,λ_ _ _ h=>kd⟩⟩;simp only[hL,kV]at h;cases a:Nat.beq 4999 g with
  |true=>
   rw[a]at h;simp only[cond_true,mr]at h;subst h;have:=mi a;subst this;exact⟨⟨O,rfl⟩,Nf,rfl,λ_=>rfl,λ_ _ h=>by cases h⟩
  |false=>rw[a]at h;cases h
 have p:oe (kI E B0 (hL (HX Nf))) w args B0 (hL (HX Nf)) vs:=rz args N (zh (nK.refl _ w) (λb o _ h=>by
  rcases akf h with k|⟨l,k⟩
  .exact k.2.1
  .cases k) args (qt.nj _ _) d)
 refine rM (h E B0 w vs O (λ_=>rfl) m p) ?_;rintro e w' ⟨v,B2,rfl,m2,y⟩;refine⟨v,rfl,Kt (λb o hu=>.inl ⟨hu.1,hu.2,λ⟨g,k,h⟩=>by cases h⟩) H y,⟨m2.left.os,m2.left.tape,m2.left.output,m2.left.size,λk x=>m2.left.block k x (λ⟨g,k,h⟩=>by cases h) λh=>h⟩⟩
section
variable {T:List (Nat×AV)}{H:List (Nat×Bx)}{d:Nat}
def Bc{e:TypeId}(l:nz)(y:AV)(o:kV 4999 H=some (.ext (Sg X)))(j:lB prog e z)(n:lK nt (some d)=true)
 (W:kN ops ⟨some d,.alloc e,ty,pos,af,gd⟩ (St.t ⟨T,H⟩)=some true) (m:∀H,Wk H z y)
 (h:∀b,AS prog E nt ops ol ⟨(d,lQ l b)::T,(4999,.ext (Sg (X.put l (.var b y))))::H⟩ Q):AS prog E nt ops (⟨some d,.alloc e,ty,pos,af,gd⟩::ol) ⟨T,H⟩ Q:=
 MO W λB a w p=>by
  obtain⟨i,N,c,f,k⟩:=j
  have I:=p.U3 (l:=l) (xb':=.var w.heap.size y) (w':=w.alloc (.cells N.cells e)) o O ((pr.refl w).alloc _) iz λU q=>
   ⟨N.cells.toList,e,by rw[o8],n6 (nK.oD (pr.refl _)) (λ_ _ _ h=>h) y (qt.nj _ _) (m H0 _ _ _ _ (k U _)).1⟩
  have r:=I.put (d:=some d) n (x:=lQ l w.heap.size) (v:=.pointer (some ⟨w.heap.size,0,none⟩)) (qI.2 ⟨O,rfl⟩);refine⟨.pointer (some ⟨w.heap.size,0,none⟩),w.alloc (.cells N.cells e),B.Rs l w.heap.size,⟨(d,lQ l w.heap.size)::T,(4999,.ext (Sg (X.put l (.var w.heap.size y))))::H⟩,?_,?_,h _⟩
  .simp[execOp,Instr.alloc,zeroValue,typeInfo,c,f,newVar,newRow]
  .have P:St.t ⟨(d,lQ l w.heap.size)::T,(4999,.ext (Sg (X.put l (.var w.heap.size y))))::H⟩=zl (St.t ⟨T,H⟩) (some d) (lQ l w.heap.size):=kZ _ _ _;have g:St.h ⟨(d,lQ l w.heap.size)::T,(4999,.ext (Sg (X.put l (.var w.heap.size y))))::H⟩=l9 (St.h ⟨T,H⟩) 4999 (.ext (Sg (X.put l (.var w.heap.size y)))):=kZ _ _ _;rw[P,g];exact r
end
def wAR{Q:Prop}(k:R)(h:zT R->Q:=by intro kHid;(repeat (first|refine O1 ?_|refine ZZ ?_|refine amC hF O gN ?_|refine Z0 hF zD O gN ?_|refine ajy ?_|refine agN ?_|refine G9 true O (λ_=>?_) (λh=>by cases h)|refine G9 false rfl (λh=>by cases h) (λ_=>?_)));exact kHid.out):Q:=h ⟨k⟩
section
attribute [local irreducible] kE lM AW mU lL mG mC lj lT ly kN
def agb(w:Int×Bool)(t:Int):mG prog 269 [oU w,.ref (kq t)] (kA (decide (w.1=t))):=by
 unfold oU;refine kL func269 O ntmps269 O ki [_] O λE S N i=>?_;exact dZ
def amk(w:Int×Bool)(t:Int):mG prog 123 [oU w,.ref (kq t)] (kA (decide (w.1=t))):=by
 unfold oU;refine kL func123 O ntmps123 O ki [_] O λE S N i=>?_;exact dZ
def abS(w:CW)(t:Int):mG prog 232 [Bw w,.ref (kq t)] (kA (decide (w.task=t))):=by
 unfold Bw;refine kL func232 O ntmps232 O ki [_] O λE S N i=>?_;exact dZ
def afd(f:α->Int)(l:List α)(x:Int)(i:Nat)(h:i<l.length)(e:f l[i]=x):n9 x i ((l.map f).drop i)=i:=IL _ x i jE jJ
def ais(f:α->Int)(l:List α)(x:Int)(i:Nat)(h:i<l.length)(e:¬f l[i]=x):n9 x i ((l.map f).drop i)=n9 x (i+1) ((l.map f).drop (i+1)):=FT _ x i jE jJ
def afe(f:α->Int)(l:List α)(x:Int)(i:Nat)(h:l.length<=i):n9 x i ((l.map f).drop i)= -1:=IM _ x i jE
def Uh(c:FuncId)(m:List (Int×Bool))(t:Int)(u:∀w,zV c [oU w,.ref (kq t)] (kA (decide (w.1=t))))(g:m.length<=1000000000):mG prog 178 [.sl none 2 (m.map oU),.fn (.func c) [] [.ref (kq t)]] (kq (lF (m.map (·.1)) t)):=by
 refine kL func178 O ntmps178 O ki [_] O λE S N k=>?_;refine wE ?_;refine kU (λj:Nat=>⟨[(0,.sl none 2 (m.map oU)),(1,.fn (.func c) [] [.ref (kq t)]),(7,kq (m.length:Nat)),(8,kq (j:Nat))],[]⟩) (λj=>j<=m.length/\lF (m.map (·.1)) t=n9 t j ((m.map (·.1)).drop j)) (λj=>m.length- j) 0 ⟨kO _,rfl⟩ ed (λj i=>?_);obtain⟨i,y⟩:=i;by_cases Z:j<m.length
 .have M:=u m[j];by_cases L:(m[j]).1=t
  .rw[y,afd _ m t j Z L];exact dZ
  .refine wE ?_;exact cB
 .rw[y,afe _ m t j kh];exact dZ
def agj(c:FuncId)(m:List CW)(t:Int)(u:∀w,zV c [Bw w,.ref (kq t)] (kA (decide (w.task=t))))(g:m.length<=1000000000):mG prog 231 [.sl none 3 (m.map Bw),.fn (.func c) [] [.ref (kq t)]] (kq (lF (m.map (·.task)) t)):=by
 refine kL func231 O ntmps231 O ki [_] O λE S N k=>?_;refine wE ?_;refine kU (λj:Nat=>⟨[(0,.sl none 3 (m.map Bw)),(1,.fn (.func c) [] [.ref (kq t)]),(7,kq (m.length:Nat)),(8,kq (j:Nat))],[]⟩) (λj=>j<=m.length/\lF (m.map (·.task)) t=n9 t j ((m.map (·.task)).drop j)) (λj=>m.length- j) 0 ⟨kO _,rfl⟩ ed (λj i=>?_);obtain⟨i,y⟩:=i;by_cases Z:j<m.length
 .have M:=u m[j];by_cases L:(m[j]).task=t
  .rw[y,afd _ m t j Z L];exact dZ
  .refine wE ?_;exact cB
 .rw[y,afe _ m t j kh];exact dZ
def Ui(c:FuncId)(m:List (Int×Bool))(t:Int)(u:∀w,zV c [oU w,.ref (kq t)] (kA (decide (w.1=t))))(g:m.length<=1000000000):mG prog 122 [.sl none 2 (m.map oU),.fn (.func c) [] [.ref (kq t)]] (kA (decide (0<=lF (m.map (·.1)) t))):=by
 refine kL func122 O ntmps122 O ki [_] O λE S N i=>?_;have d:=kD func178 (Uh c m t u g);exact dZ
def yQ(l:List Int)(x:Int)(g:l.length<=1000000000):mG prog 94 [lJ l,kq x] (kA (decide (0<=lF l x))):=by
 refine kL Gv O ntmps94 O ki [_] O λE S N i=>?_;have d:=kD J8 (Re l x kh);exact dZ
def U5(X:kY)(i b:Nat)(s:nT)(w:Bool)(h:sx X i b s):mZ prog 149 [lQ (10,i) b,kA w] X (kA (s.SK w)) (λC _=>C=X):=by
 obtain⟨A,g,Q,q,a,c,k⟩:=h.ex;unfold tI at a;unfold nT.SK;refine nW J1 O ntmps149 O ki [_] O λE S=>hTF λN j=>?_;by_cases c1:s.wr= -1
 .cases w
  .rw[kW c1];exact dE
  .rw[kW c1];exact dA
 .rw[la c1];exact dE
def XH(X:kY)(i b:Nat)(s:nT)(t:Int)(h:sx X i b s):mZ prog 226 [lQ (10,i) b,kq t] X (kq (s.wq t)) (λC _=>C=X):=by
 obtain⟨A,g,Q,q,a,c,k⟩:=h.ex;have d:=h.ql;unfold tI at a;unfold nT.wq;have c1:=kD func178 (Uh 269 s.qu t (λw=>kD func269 (agb w t) jC jC) kh);refine nW func226 O ntmps226 O ki [_] O λE S=>hTF λN j=>?_
 repeat refine Ip ?_
 iterate 2 refine wEs ?_
 refine Jg _ ?_;refine oz ?_;refine lU (S':=⟨[(0,lQ (10,i) b),(3,.ptr 3 0 []),(4,kq 0)],[(4999,.ext (Sg X)),(3,.var (kq t))]⟩) ed ?_;refine lU (lL.froz S 3 O) ?_;refine lU (lL.ref 3 3 O O O) ?_;exact dE
def ajD(X:kY)(i b:Nat)(s:nT)(t:Int)(h:sx X i b s):mZ prog 189 [lQ (10,i) b,kq t] X (kA (s.may t)) (λC _=>C=X):=by
 obtain⟨A,g,Q,q,a,c,k⟩:=h.ex;have d:=h.ql;have H:=h.rl;unfold tI at a;unfold nT.may;have W:=kD Gv (yQ s.rd t kh);have z:=lH func226 (XH X i b s t h);unfold lJ at W;refine nW func189 O ntmps189 O ki [_] O λE S=>hTF λN j=>?_;by_cases c1:0<=t
 .by_cases c2:s.wr=t
  .rw[la (p:=s.wr≠t) (by simpa using c2)];have c3:¬(s.wr≠t):=by simpa using c2
   exact dA
  .rw[kW c1,kW (p:=s.wr≠t) c2];have c3:s.wr≠t:=c2;by_cases l:0<=lF s.rd t
   .have P:(!decide (0<=lF s.rd t))=false:=by simp[l]
    refine wE ?_;exact eD
   .have P:(!decide (0<=lF s.rd t))=true:=by simp[l]
    refine wE ?_;exact eD
 .rw[la c1];exact dA
def KE(X:kY)(i b:Nat)(s:nT)(h:sx X i b s):mZ prog 68 [lQ (10,i) b] X (kq s.wr) (λC _=>C=X):=by
 obtain⟨A,g,Q,q,a,c,k⟩:=h.ex;unfold tI at a;refine nW func68 O ntmps68 O ki [_] O λE S=>hTF λN j=>?_;exact dE
def akt(X:kY)(i b:Nat)(s:nT)(h:sx X i b s):mZ prog 91 [lQ (10,i) b] X (kA (s.SK true&&decide (s.qu.length=0))) (λC _=>C=X):=by
 obtain⟨A,g,Q,q,a,c,k⟩:=h.ex;unfold tI at a;have W:=lH J1 (U5 X i b s true h);refine nW func91 O ntmps91 O ki [_] O λE S=>hTF λN j=>?_;by_cases c1:s.SK true=true
 .rw[c1]at W⊢;by_cases c2:s.qu.length=0
  .have c3:((s.qu.map oU).length:Int)=0:=by rw[kX];omega
   refine wE ?_;exact eE
  .have c3:¬((s.qu.map oU).length:Int)=0:=by rw[kX];omega
   refine wE ?_;exact eE
 .have L:s.SK true=false:=by simpa using c1
  rw[L]at W⊢;exact dA
section
attribute [local irreducible] Nk bsr
def agi(x:Int):mG prog 299 [kq x] (kA false):=by rw[show kA false= .v (.bool (decide (x≠x))) by simp[kA]];refine kL func299 O ntmps299 O ki [_] O λE S N i=>?_;exact dZ
def Uf(x:Int):mG prog 291 [kq x] (kA false):=by rw[show kA false= .v (.bool (decide (x≠x))) by simp[kA]];refine kL func291 O ntmps291 O ki [_] O λE S N i=>?_;exact dZ
def amo(x y:Int):mG prog 290 [kq x,kq y] (kA (decide (x<y))):=by
 refine kL func290 O ntmps290 O ki [_] O λE S N i=>?_;have c1:=kD func299 (agi x);exact dZ
def ab0(l:List Int)(x:Int)(g:l.length<=1000000):mG prog 273 [lJ l,kq x] (.mz [kq (Nk l x:Nat),kA (decide (Nk l x<l.length)&&decide (l.getD (Nk l x) 0=x))]):=by
 have o:=W4 l x;have c1:=kD func291 (Uf x);refine kL func273 O ntmps273 O ki [_,_] O λE S N k=>?_;refine wF ?_;refine kU (λj:Nat×Nat=>⟨[(0,lJ l),(1,kq x),(6,kq l.length),(7,kq j.1),(8,kq j.2)],[]⟩) (λj=>j.1<=j.2/\j.2<=l.length/\ ∃f,j.2- j.1<=f/\Nk l x=bsr l x f j.1 j.2) (λj=>j.2- j.1) (0,l.length) ⟨kO _,kK _,l.length,by simp,by unfold Nk;rfl⟩ ed (λj i=>?_);obtain⟨lo,hi⟩:=j;obtain⟨z,n,f,s,K⟩:=i;dsimp only at z n s K⊢;by_cases c:lo<hi
 .have T:(lo+hi)/2<l.length:=by omega
  obtain⟨f,rfl⟩:∃f',f=f'+1:=⟨f- 1,by omega⟩;unfold bsr at K;rw[kx c,ajX T]at K;have y:=amo l[(lo+hi)/2] x;by_cases q:l[(lo+hi)/2]<x
  .rw[kx q]at K;rw[kW q]at y;have c2:=kD func290 y jC jC;refine wF ?_;refine⟨((lo+hi)/2+1,hi),⟨by dsimp only;omega,n,f,by dsimp only;omega,K⟩,by dsimp only;omega,?_⟩;exact ed
  .rw[ku q]at K;rw[la q]at y;have c2:=kD func290 y jC jC;refine wF ?_;refine⟨(lo,(lo+hi)/2),⟨by dsimp only;omega,by dsimp only;omega,f,by dsimp only;omega,K⟩,by dsimp only;omega,?_⟩;exact ed
 .obtain rfl:lo=Nk l x:=by rw[K];cases f<;>unfold bsr<;>simp[c]
  by_cases c3:Nk l x<l.length
  .rw[kW c3,ajX c3];have P:((Nk l x:Nat):Int)<((l.length:Nat):Int):=eY;have m:=kD func291 (Uf l[Nk l x]);by_cases X:l[Nk l x]=x
   .rw[kW X];exact dO
   .rw[la X];exact dO
  .rw[la c3];have P:¬((Nk l x:Nat):Int)<((l.length:Nat):Int):=eY;exact dO
end
def Rh(l:List Int)(g:l.length<=1000000):mG prog 96 [lJ l] (lJ l):=by
 by_cases i:l= []
 .subst i;exact LU LR
 .have X:0<l.length:=Gu.2 i;refine kL AT O J2 O ki [_] O λE S N j=>?_;exact bK
def Ri(l:List mL)(g:l.length<=1000000):mG prog 159 [pI l] (pI l):=by
 by_cases i:l= []
 .subst i;exact LU LS
 .have X:0<l.length:=Gu.2 i;refine kL func159 O ntmps159 O ki [_] O λE S N j=>?_;exact bK
def Rg(l:List kH)(g:l.length<=1000000):mG prog 160 [rp l] (rp l):=by
 by_cases i:l= []
 .subst i;exact LU LQ
 .have X:0<l.length:=Gu.2 i;refine kL func160 O ntmps160 O ki [_] O λE S N j=>?_;exact bK
def Rf(l:List lq)(g:l.length<=1000000):mG prog 161 [nk l] (nk l):=by
 by_cases i:l= []
 .subst i;exact LU LP
 .have X:0<l.length:=Gu.2 i;refine kL func161 O ntmps161 O ki [_] O λE S N j=>?_;exact bK
end
