/- Part of the proof, without conditions. -/
import Derived.Test.YtfkhhohdgeckdaaGreatP0
namespace Go.Proofs.YtfkhhohdgeckdaaGreat
open Go RowKit Proofs.Tryz
set_option linter.all false
set_option maxRecDepth 100000
set_option maxHeartbeats 16000000
@[irreducible] def B8(x:BitVec 8):Int:=x.toNat
@[irreducible] def DZ(x:BitVec 32):Int:=x.toNat
@[irreducible] def w5(x:BitVec 64):Int:=x.toNat
def rB(x:BitVec 8):B8 x=x.toNat:=by unfold B8;rfl
def uW(x:BitVec 32):DZ x=x.toNat:=by unfold DZ;rfl
def oJ(x:BitVec 64):w5 x=x.toNat:=by unfold w5;rfl
def aca(x:BitVec 8):0<=B8 x:=by rw[rB];omega
def aoe(x:BitVec 8):B8 x<256:=by rw[rB];have:=x.isLt;omega
@[irreducible] def bn(x:BitVec 8):Nat:=x.toNat
def afV(x:BitVec 8):bn x=x.toNat:=by unfold bn;rfl
def agF(x:BitVec 8):(B8 x).toNat=bn x:=by rw[rB,afV];omega
def agH{a b:BitVec 8}:B8 a=B8 b↔a=b:=by
 rw[rB,rB];exact⟨λh=>Mj kh,λh=>by rw[h]⟩
def aju{a b:BitVec 64}:w5 a=w5 b↔a=b:=by
 rw[oJ,oJ];exact⟨λh=>Mj kh,λh=>by rw[h]⟩
def agI(a b:BitVec 8):(B8 a==B8 b)=decide (a=b):=by rw[GI];simp[agH]
def ab7(n:Int)(i:0<=n)(a:n<18446744073709551616):w5 (BitVec.ofInt 64 n)=n:=by
 rw[oJ,Mi];omega
def ab8(x:BitVec 32):IntKind.u8.wrap (DZ x)=B8 (x.setWidth 8):=by
 rw[IntKind.wrap_u8',uW,rB,OL];omega
def ZI(a b:BitVec 32):bits .xor .u32 (DZ a) (DZ b)=DZ (a^^^b):=by
 simp only[uW];rw[u32_xor_nat _ _ a.isLt b.isLt,af8]
def amA(a b:BitVec 8):bits .xor .u8 (B8 a) (B8 b)=B8 (a^^^b):=by
 simp only[rB];rw[u8_xor_nat _ _ a.isLt b.isLt,af8]
def ZJ(y:BitVec 32)(n:Nat):DZ y/(2^n:Nat)=DZ (y>>>n):=by
 rw[uW,uW,T6,T5];omega
def ajg(x:BitVec 32):bits .xor .u32 IntKind.u32.max (DZ x)=DZ (~~~x):=by
 have h:bits .xor .u32 4294967295 (DZ x)=DZ (~~~x):=by
  rw[uW,uW];have h:=u32_xor_nat 4294967295 x.toNat kh x.isLt;rw[BitVec.toNat_not]
  have b:(4294967295:Nat)^^^x.toNat=4294967295- x.toNat:=by have:=af8 (BitVec.allOnes 32) x;rw[BitVec.allOnes_xor,BitVec.toNat_not]at this;simpa using this.symm
  rw[b]at h;simpa using h
 exact h
theorem Pn:IntKind.u32.signed=false:=rfl
theorem Pl:IntKind.u64.signed=false:=rfl
theorem R0:IntKind.u8.signed=false:=rfl
attribute [go_sem] aca aoe agF agI ab8 ZI amA
attribute [go_sem] ajg Pn Pl R0
def mD(cs:Array Value)(off n:Nat):Option (Array Value):=if off+n<=cs.size then some (cs.extract off (off+n))else none
def mQ(w:World)(b off n:Nat):Option (Array Value):=
 match w.heap[b]? with
 |some (.cells cs _ _)=>mD cs off n
 |_=>none
def pC(cs:Array Value)(n:Nat)(h:cs.size=n):mD cs 0 n=some cs:=by
 unfold mD;subst h;simp
variable {cs:Array Value}{off n:Nat}
def o3{c:Array Value}(h:mD c off n=some cs):cs.size=n/\off+n<=c.size/\ ∀j,j<n->c[off+j]?=cs[j]? :=by
 unfold mD at h;split at h
 .rename_i o;injection h with h;subst h;refine⟨by simp;omega,o,λj i=>?_⟩;rw[w4,kx kh]
 .cases h
def NX{c:Array Value}{o m:Nat}(h:mD c off n=some cs)(T:o+m<=n):mD c (off+o) m=mD cs o m:=by
 obtain⟨p,q,u⟩:=o3 h;unfold mD;rw[kx kh,kx kh]
 congr 1
 apply qB;intro k;simp only[w4];by_cases w:k<m
 .rw[kx kh,kx kh,show off+o+k=off+(o+k)from by omega];exact u _ kh
 .rw[ku kh,ku kh]
variable {w:World}{b:Nat}{fr:Nat×Nat}
def mX{c:Array Value}{t:TypeId}(h:w.heap[b]?=some (.cells c t fr)):mQ w b off n=mD c off n:=by
 unfold mQ;rw[h]
def HB(h:mQ w b off n=some cs):b<w.heap.size:=by
 unfold mQ at h;rcases Ba b w.heap.size with Z|hge
 .exact Z
 .rw[ru hge]at h;cases h
def zr(h:mQ w b off n=some cs):cs.size=n/\ ∀j,j<n->w.cell? ⟨b,off+j,none⟩=cs[j]? :=by
 unfold mQ at h;split at h
 .rename_i c t fr hb;obtain⟨a,_,k⟩:=o3 h;exact⟨a,λj i=>by simp only[World.cell?,hb,Option.isSome_none,tu,rL];exact k j i⟩
 .cases h
def B9(h:mQ w b off n=some cs){j:Nat}(i:j<n){v:Value}(y:cs[j]?=some v):w.cell? ⟨b,off+j,none⟩=some v:=
 ((zr h).2 j i).trans y
def aaS(h:mQ w b off n=some cs)(i:0<n){v:Value}(y:cs[0]?=some v):w.cell? ⟨b,off,none⟩=some v:=
 B9 h i y
def yx(h:mQ w b off n=some cs)(o m:Nat)(T:o+m<=n):mQ w b (off+o) m=mD cs o m:=by
 unfold mQ at h;split at h
 .rename_i c t fr hb;rw[mX hb];exact NX h T
 .cases h
@[irreducible] def Ea(t:TypeId)(v:Value):Sem Value:=Instr.loadAt t v
@[irreducible] def Lw(t:TypeId)(v:Value):Sem Value:=Instr.loadAt t v
def Lv(t:TypeId)(v:Value):Instr.loadAt t v=Ea t v:=by unfold Ea;rfl
@[irreducible] def D3(t:TypeId)(a v:Value):Sem Unit:=Instr.storeAt t a v
@[irreducible] def KX(t:TypeId)(a v:Value):Sem Unit:=Instr.storeAt t a v
def KW(t:TypeId)(a v:Value):Instr.storeAt t a v=D3 t a v:=by unfold D3;rfl
@[irreducible] def Eh(t:TypeId)(h:Bool)(o:Value):Sem Value:=Instr.alloc t h o
def Mm(t:TypeId)(h:Bool)(o:Value):Instr.alloc t h o=Eh t h o:=by unfold Eh;rfl
@[irreducible] def IQ(t:TypeId)(u:Array (Nat×Value)):Sem Value:=Instr.build t u
def TY(t:TypeId)(u:Array (Nat×Value)):Instr.build t u=IQ t u:=by unfold IQ;rfl
@[irreducible] def Ci(o:Option (Array Value))(w:World)(r:Result Value):Result Value:=match o with|some cs=>.ok (.agg cs) w|none=>r
def VS(cs:Array Value)(w:World)(r:Result Value):Ci (some cs) w r= .ok (.agg cs) w:=by unfold Ci;rfl
variable {P:Program}
def qv(h:mQ w b off n=some cs):(loadCells ⟨b,off,none⟩ n).run P w= .ok cs w:=by
 obtain⟨o,u⟩:=zr h
 have g:(loadCells ⟨b,off,none⟩ cs.toList.length).run P w= .ok cs.toList.toArray w:=
  Xk (P:=P) w ⟨b,off,none⟩ cs.toList (λj v y=>by
   have M:(⟨b,off,none⟩:Addr).add j=⟨b,off+j,none⟩:=e6
   have i:j<n:=by have:=(mS.1 y).1;simp at this;omega
   rw[M,u j i];simpa using y)
 simpa[o]using g
theorem xN{t:TypeId}{d:TypeDesc}(c:P.underlying t=some d)(o:(match d with| .struct _| .array _ _=>true|_=>false)=true)(hi:(P.info? t).map (·.size)=some n)
 {b off:Nat} {w:World} {cs:Array Value} (h:mQ w b off n=some cs):(loadVar t ⟨b,off,none⟩).run P w= .ok (.agg cs) w:=by
 have g:=qv (P:=P) h;cases e:P.info? t with
 |none=>rw[e]at hi;cases hi
 |some i=>
  have x:i.size=n:=by simpa[e]using hi
  have u:(isAgg t).run P w= .ok true w:=by
   unfold isAgg;rw[Sem.run_bind,lu c w];cases d<;>simp_all
  simp[loadVar,Sem.run_bind,u,sizeOf,typeInfo,e,x,g]
def Hx{t:TypeId}{d:TypeDesc}(c:P.underlying t=some d)(o:(match d with| .struct _| .array _ _=>true|_=>false)=true)(hi:(P.info? t).map (·.size)=some n)
 (b off:Nat) (w:World):(Ea t (.pointer (some ⟨b,off,none⟩))).run P w=Ci (mQ w b off n) w ((Lw t (.pointer (some ⟨b,off,none⟩))).run P w):=by
 unfold Ci Ea;split
 .rename_i cs h;simp[Instr.loadAt,Instr.sureAddr,xN c o hi h]
 .unfold Lw;rfl
theorem HA{t:TypeId}{z:Value}(d:(P.info? t).bind (·.zero)=some z)(w:World)(o:Value):
 (Eh t true o).run P w= .ok (.pointer (some ⟨w.heap.size,0,none⟩)) (w.alloc (.cells z.cells t)):=by
 unfold Eh;cases c:P.info? t with
 |none=>rw[c]at d;cases d
 |some i=>
  have j:i.zero=some z:=by simpa[c]using d
  simp[Instr.alloc,zeroValue,typeInfo,c,j,newVar,newRow,go_sem]
def lY(c:Array Value)(off:Nat)(cs:Array Value):Array Value:=(c.toList.take off++cs.toList++c.toList.drop (off+cs.size)).toArray
def mw(w:World)(b off:Nat)(cs:Array Value):World:=
 {w with heap:=w.heap.modify b λ
  | .cells c t fr=>.cells (lY c off cs) t fr
  |o=>o}
def uk(w:World)(b:Nat):Bool:=match w.heap[b]? with|some (.cells _ _ fr)=>decide (fr=(0,0))|_=>false
def mA(cs:Array Value):Bool:=cs.all λv=>v.oneCell'
def ug(c cs:Array Value)(h:cs.size=c.size):lY c 0 cs=cs:=by
 unfold lY;have:c.toList.drop (0+cs.size)= []:=ub jY;rw[this];simp
def oL(c cs:Array Value)(off:Nat)(h:off+cs.size<=c.size):(lY c off cs).size=c.size:=by
 unfold lY;simp;omega
def mn{c:Array Value}(h:off+cs.size<=c.size)(k:Nat):(lY c off cs)[k]?=if off<=k/\k<off+cs.size then cs[k- off]? else c[k]? :=by
 unfold lY;simp only[AZ,QQ,lA,n5,Array.length_toList,yg,wy,Xj];by_cases a:k<off
 .rw[kx kh,kx kh,kx kh,ku kh]
 .by_cases b:k<off+cs.size
  .rw[kx kh,ku kh,kx kh];congr 1;omega
  .rw[ku kh,ku kh];congr 1;omega
def ux(P:Program)(b:Nat)(t:TypeId):∀(vs:List Value) (off i:Nat) (c:Array Value) (w:World),w.heap[b]?=some (.cells c t (0,0))->off+i+vs.length<=c.size->(∀v∈vs,v.oneCell'=true)->
 (storeCells ⟨b,off,none⟩ vs i).run P w= .ok () (mw w b (off+i) vs.toArray):=by
 intro vs off i c w hb o a;have M:=run_storeCells_at (P:=P) b off t vs i c w hb o a
 have e:mw w b (off+i) vs.toArray=w.setRow b (c.toList.take (off+i)++vs++c.toList.drop (off+i+vs.length)).toArray:=by
  unfold mw World.setRow
  congr 1
  apply qB;intro k;simp only[H9];by_cases x:b=k
  .subst x;simp only[hb,oQ,Option.map_some];rfl
  .simp[x]
 rw[e];exact M
def zG(w:World)(o:Obj)(i:Nat)(h:i<w.heap.size):(w.alloc o).heap[i]?=w.heap[i]? :=by
 show(w.heap.push o)[i]?=w.heap[i]?
 rw[Xi,ku (Nat.ne_of_lt h)]
def mB{c:Array Value}{t:TypeId}(h:w.heap[b]?=some (.cells c t fr)):(mw w b off cs).heap[b]?=some (.cells (lY c off cs) t fr):=by
 unfold mw;simp[H9,h]
def yA{k:Nat}(h:k≠b):(mw w b off cs).heap[k]?=w.heap[k]? :=by
 unfold mw;simp[H9,pv h]
def Ce(w:World)(b off:Nat)(cs:Array Value):(mw w b off cs).heap.size=w.heap.size:=by simp[mw]
def uB(w:World)(cs:Array Value)(t:TypeId)(l:Nat×Nat)(b off n:Nat)(c:b=w.heap.size):mQ (w.alloc (.cells cs t l)) b off n=mD cs off n:=by
 subst c;exact mX (o8 w _)
def xO(w:World)(o:Obj)(b off n:Nat)(h:b<w.heap.size):mQ (w.alloc o) b off n=mQ w b off n:=by
 unfold mQ;rw[zG w o b h]
theorem adB(w:World)(b off n:Nat):mQ w.drew b off n=mQ w b off n:=rfl
theorem aaR(w:World)(k b off n:Nat):mQ (w.drewN k) b off n=mQ w b off n:=rfl
def M8(w:World)(cs:Array Value)(t:TypeId)(b:Nat)(c:b=w.heap.size):uk (w.alloc (.cells cs t)) b=true:=by
 subst c;unfold uk;rw[o8];rfl
def Ja(w:World)(o:Obj)(b:Nat)(h:b<w.heap.size):uk (w.alloc o) b=uk w b:=by
 unfold uk;rw[zG w o b h]
theorem abx(w:World)(b:Nat):uk w.drew b=uk w b:=rfl
theorem WB(w:World)(k b:Nat):uk (w.drewN k) b=uk w b:=rfl
theorem Sy(w:World)(b off:Nat)(cs:Array Value):mw w.drew b off cs=(mw w b off cs).drew:=rfl
theorem PA(w:World)(k b off:Nat)(cs:Array Value):mw (w.drewN k) b off cs=(mw w b off cs).drewN k:=rfl
def I6(w:World)(c:Array Value)(t:TypeId)(l:Nat×Nat)(b off:Nat)(cs:Array Value)(d:b=w.heap.size):mw (w.alloc (.cells c t l)) b off cs=w.alloc (.cells (lY c off cs) t l):=by
 subst d;unfold mw World.alloc
 congr 1
 apply qB;intro k;simp only[H9,Xi];by_cases x:k=w.heap.size
 .subst x;simp
 .simp[x,pv x]
def Ft(w:World)(o:Obj)(b off:Nat)(cs:Array Value)(h:b<w.heap.size):mw (w.alloc o) b off cs=(mw w b off cs).alloc o:=by
 unfold mw World.alloc
 congr 1
 apply qB;intro k;simp only[H9,Xi,Array.size_modify];by_cases x:k=w.heap.size
 .subst x;simp[Nat.ne_of_lt h]
 .simp[x]
@[irreducible] def Ld(c:Bool)(r:Result Unit)(X:Result Unit):Result Unit:=if c then r else X
def VT(r X:Result Unit):Ld true r X=r:=by unfold Ld;rfl
theorem Hw{t:TypeId}(hi:(P.info? t).map (·.size)=some n)
 (b off:Nat) (cs:Array Value) (w:World) (o:cs.size=n) (a:mA cs=true):
 (D3 t (.pointer (some ⟨b,off,none⟩)) (.agg cs)).run P w=Ld ((mQ w b off n).isSome&&uk w b) (.ok () (mw w b off cs)) ((KX t (.pointer (some ⟨b,off,none⟩)) (.agg cs)).run P w):=by
 unfold Ld D3;split
 .rename_i h;simp only[l5]at h;obtain⟨H,z⟩:=h;unfold uk at z;split at z
  .rename_i c t' fr hb;obtain rfl:fr=(0,0):=by simpa using z
   rw[mX hb]at H
   have p:off+n<=c.size:=by
    unfold mD at H;split at H
    .assumption
    .cases H
   have M:=ux P b t' cs.toList off 0 c w hb jY (λv y=>by
    unfold mA at a;rw[<-QE]at a;exact mq.1 a v y)
   cases d:P.info? t with
   |none=>rw[d]at hi;cases hi
   |some i=>
    have x:i.size=n:=by simpa[d]using hi
    simp only[Nat.add_zero,Array.toArray_toList]at M;simp[Instr.storeAt,Instr.sureAddr,storeVar,Value.cells,sizeOf,typeInfo,d,o,x,M]
  .cases z
 .unfold KX;rfl
attribute [go_sem] VS VT uB xO adB aaR M8 Ja abx WB Sy PA I6 Ft
variable {e:TypeId}
section
variable {t:TypeId}(hu:P.underlying t=some (.slice e))(hn:(P.info? e).map (·.size)=some n)
include hn in
omit hu in
theorem I2(w:World):(sizeOf e).run P w= .ok n w:=by
 cases c:P.info? e with
 |none=>rw[c]at hn;cases hn
 |some i=>
  have:i.size=n:=by simpa[c]using hn
  simp[sizeOf,typeInfo,c,this]
end
def ve(x:Array Value):ResultVar->Sem Value
 | .tmp t=>pure (x.getD t undef)
 | .cell a t=>do loadVar t (<-asAddr (x.getD a undef))
def vm(p:Func)(x:Array Value):results p x=(do
 let vs<-p.results.mapM (ve x)
 pure (if h:vs.size=1 then vs[0]else .tuple vs)):=by
 unfold results
 congr 1
def Res(P:Program)(x:Array Value)(w:World)(r:ResultVar)(v:Value):Prop:=(ve x r).run P w= .ok v w
variable {tmps:Array Value}
def CV{t:Tmp}:Res P tmps w (.tmp t) (tmps.getD t undef):=by simp[Res,ve]
variable {g:Nat}
def tD{a:Tmp}{t:TypeId}{d:TypeDesc}(b:P.underlying t=some d)(o:(match d with| .struct _| .array _ _=>true|_=>false)=true)
 (hi:(P.info? t).map (·.size)=some n) (N:tmps.getD a undef= .pointer (some ⟨g,off,none⟩)) (h:mQ w g off n=some cs):Res P tmps w (.cell a t) (.agg cs):=by
 simp only[Res,ve,N];simp[asAddr,xN b o hi h]
variable {fn:Func}{r0:ResultVar}{v0:Value}
def xA(h:fn.results= #[r0])(i:Res P tmps w r0 v0):
 (results fn tmps).run P w= .ok (v0) w:=by
 unfold Res at i;rw[vm];simp[h,i]
def zt{H:ResultVar}{N:Value}(h:fn.results= #[r0,H])(i:Res P tmps w r0 v0)(a:Res P tmps w H N):
 (results fn tmps).run P w= .ok (.tuple #[v0,N]) w:=by
 unfold Res at i a;rw[vm];simp[h,i,a]
def TW{B:Nat}{a:World}(h:Below B a w)(n:Nat):Below B a (w.drewN n):=⟨h.os,h.tape,h.output,h.size,h.block⟩
def pr(w w':World):Prop:=Below w.heap.size w w'
def pr.refl(w:World):pr w w:=Below.refl _ _
def pr.trans{a b c:World}(h:pr a b)(k:pr b c):pr a c:=Below.trans h (Below.mono k h.size)
def pr.drew{a:World}(h:pr a w):pr a w.drew:=Below.drew h
def pr.drewN{a:World}(h:pr a w)(n:Nat):pr a (w.drewN n):=TW h n
def pr.alloc{a:World}(h:pr a w)(o:Obj):pr a (w.alloc o):=Below.alloc h h.size o
def pr.putRow{a:World}(h:pr a w){g o:Nat}{cs:Array Value}(t:a.heap.size<=g):pr a (mw w g o cs):=
 Below.trans h ⟨O,rfl,rfl,by rw[Ce];exact kK _,λk x=>yA kh⟩
def pr.le{a:World}(h:pr a w):a.heap.size<=w.heap.size:=h.size
def pr.row{a w:World}(h:pr a w){b off n:Nat}{cs:Array Value}(H:mQ a b off n=some cs):mQ w b off n=some cs:=by
 rw[<-H];unfold mQ;rw[h.block b (HB H)]
def pr.cell{a:World}(h:pr a w){b off:Nat}{v:Value}(H:a.cell? ⟨b,off,none⟩=some v):w.cell? ⟨b,off,none⟩=some v:=by
 rw[<-H]
 have hb:b<a.heap.size:=by
  rcases Ba b a.heap.size with Z|hge
  .exact Z
  .rw[World.cell?,ru hge]at H;cases H
 exact Below.cell h (p:=⟨b,off,none⟩) hb
def pr.heap{a:World}(h:pr a w){b:Nat}{o:Obj}(H:a.heap[b]?=some o):w.heap[b]?=some o:=by
 rw[<-H];refine h.block b ?_;rcases Ba b a.heap.size with Z|hge
 .exact Z
 .rw[ru hge]at H;cases H
variable {α:Type}
def MC(enc:α->Array Value)(n:Nat)(w:World)(A:Option Addr)(G:List α):Prop:=
 0<G.length-> ∃b off,A=some ⟨b,off,none⟩/\b<w.heap.size/\ ∀i (h:i<G.length),mQ w b (off+i*n) n=some (enc G[i])
def Sl(enc:α->Array Value)(n:Nat)(w:World)(v:Value)(G:List α):Prop:=
 ∃A cap,v= .slice A G.length cap/\G.length<=cap/\cap<=maxLen/\MC enc n w A G
variable {w':World}
def MC.ext{enc:α->Array Value}{A:Option Addr}{G:List α}(h:MC enc n w A G)(e:pr w w'):MC enc n w' A G:=by
 intro j;obtain⟨b,off,rfl,hb,H⟩:=h j;exact⟨b,off,rfl,wx hb e.size,λi hi=>e.row (H i hi)⟩
def Sl.nil(enc:α->Array Value)(n:Nat)(w:World):Sl enc n w (.slice none 0 0) []:=⟨none,0,rfl,kK _,kO _,λh=>absurd h ki⟩
variable {v:Value}
def Iy{o:Nat}(h:w.cell? ⟨b,o,none⟩=some v):mQ w b o 1=some #[v]:=by
 unfold World.cell? at h;split at h
 .rename_i c t fr hb;simp only[Option.isSome_none,tu,rL]at h;rw[mX hb];have Z:o<c.size:=(yf.1 h).1;unfold mD;rw[kx kh]
  congr 1
  apply qB;intro k;rw[w4];by_cases x:k<1
  .obtain rfl:k=0:=by omega
   rw[kx kh];simpa using h
  .rw[ku kh,ru jY]
 .cases h
variable {k:IntKind}
def K0{enc:α->Array Value}(f:Int->α)(z:∀n,(Lit.int k n).wf=true->enc (f n)= #[.int k n]){w:World}{x:Addr}{l c:Nat}{zs:List Int}(g:l<=c)(T:c<=maxLen)(d:zs.length=c)
 (m:∀i,i<zs.length->w.cell? (x.add i)=some (.int k (zs.getD i 0))) (R:∀n∈zs,(Lit.int k n).wf=true):Sl enc 1 w (.slice (some x) l c) ((zs.take l).map f):=by
 refine⟨some x,c,by simp;omega,by simp;omega,T,λj=>?_⟩;have Z:0<zs.length:=by simp at j;omega
 obtain⟨b,off,U⟩:=x;have o:=m 0 Z;have S:U=none:=by simpa[Addr.add]using World.cell?_spot o
 subst S
 have hb:b<w.heap.size:=by
  have:=block_lt_of_cell o;simpa[Addr.add]using this
 refine⟨b,off,rfl,hb,λi hi=>?_⟩;have D:i<zs.length:=by simp at hi;omega
 have a:=m i D;have M:(⟨b,off,none⟩:Addr).add i=⟨b,off+i,none⟩:=e6;rw[M]at a;rw[uR,Iy a];simp only[List.getElem_map,Mh];rw[z _ (R _ (ng D))];simp[nI,D]
def Ret(w:World)(R:Value->World->Prop)(e:Ending)(w':World):Prop:=∃v,e= .returned v/\R v w'/\pr w w'
def Is(w:World)(v:Value)(e:Ending)(w':World):Prop:=e= .returned v/\pr w w'
structure uo{α:Type}(enc:α->Array Value)(n:Nat):Prop where
 size:∀x,(enc x).size=n
 one:∀x,mA (enc x)=true
 pos:0<n
structure SlT(P:Program)(t e:TypeId)(n bytes:Nat):Prop where
 ht:P.underlying t=some (.slice e)
 hi:∃i z,P.info? e=some i/\i.zero=some z/\i.size=n/\i.bytes=bytes/\z.cells.size=n
def SlT.mk'{t:TypeId}{z:Value}{bytes:Nat}(s:P.underlying t=some (.slice e))(hi:(P.info? e).map (λi=>(i.zero,i.size,i.bytes))=some (some z,n,bytes))(d:z.cells.size=n):SlT P t e n bytes:=by
 obtain⟨i,a,b,k,A⟩:=info_parts hi;exact⟨s,i,z,a,b,k,A,d⟩
def qc(enc:α->Array Value)(G:List α):List Value:=G.flatMap λx=>(enc x).toList
def TB(enc:α->Array Value)(a b:List α):qc enc (a++b)=qc enc a++qc enc b:=by simp[qc]
def sK{enc:α->Array Value}(h:uo enc n)(G:List α):(qc enc G).length=G.length*n:=by
 induction G with
 |nil=>simp[qc]
 |cons x G y=>
  have:qc enc (x::G)=(enc x).toList++qc enc G:=rfl;rw[this,lA,y,sc,sb];have:=h.size x;simp;omega
def zH{enc:α->Array Value}(h:uo enc n)(G:List α)(i j:Nat)(hi:i<G.length)(k:j<n):(qc enc G)[i*n+j]?=(enc G[i])[j]? :=by
 induction G generalizing i with
 |nil=>simp at hi
 |cons x G y=>
  have e:qc enc (x::G)=(enc x).toList++qc enc G:=rfl;have o:=h.size x;rw[e];cases i with
  |zero=>rw[pF jY];simp
  |succ i=>
   rw[o7 (by simp;rw[sb];omega)];have:(i+1)*n+j-(enc x).toList.length=i*n+j:=by simp;rw[sb];omega
   rw[this];exact y i jz
def Tz{enc:α->Array Value}(h:uo enc n)(G:List α):∀u∈qc enc G,u.oneCell'=true:=by
 intro u hu;simp only[qc,List.mem_flatMap]at hu;obtain⟨x,_,j⟩:=hu;have a:=h.one x;unfold mA at a;rw[<-QE]at a;exact mq.1 a u j
def Sl.news{enc:α->Array Value}{G:List α}(x:uo enc n)(h:∀i (h:i<G.length),mQ w b (off+i*n) n=some (enc G[i])):
 ∀j u,(qc enc G)[j]?=some u->w.cell? ((⟨b,off,none⟩:Addr).add j)=some u:=by
 intro j u hu;have hn:=x.pos
 have k:j<G.length*n:=by
  rw[<-sK x];exact(mS.1 hu).1
 have hi:j/n<G.length:=(Xh hn).2 k;have H:=h (j/n) hi;have T:j%n<n:=AK _ hn;have o:j/n*n+j%n=j:=e7
 have U:(enc G[j/n])[j%n]?=some u:=by rw[<-zH x G (j/n) (j%n) hi T,o];exact hu
 have v:=B9 H T U;have M:(⟨b,off,none⟩:Addr).add j=⟨b,off+j,none⟩:=e6;rw[M];rwa[ye,o]at v
def Sl.one{enc:α->Array Value}(y:uo enc n)(w:World)(e:TypeId)(l:Nat×Nat)(x:α):Sl enc n (w.alloc (.cells (enc x) e l)) (.slice (some ⟨w.heap.size,0,none⟩) 1 1) [x]:=by
 refine⟨some ⟨w.heap.size,0,none⟩,1,rfl,kK _,by unfold maxLen;omega,λ_=>⟨w.heap.size,0,rfl,by simp,λi hi=>?_⟩⟩;obtain rfl:i=0:=by simp at hi;exact hi
 rw[uB _ _ _ _ _ _ _ O,Mg,vA];exact pC _ _ (y.size x)
def Ji(D:Nat)(e:TypeId)(enc:α->Array Value)(n:Nat)(w:World)(v:Value)(G:List α):Prop:=
 w.ownsRow D e n v G.length (qc enc G)
variable {base:Nat}
section
variable {enc:α->Array Value}{G J:List α}
def Ji.nil(D:Nat)(e:TypeId)(enc:α->Array Value)(n:Nat)(w:World):Ji D e enc n w (.slice none 0 0) []:=⟨by simp[qc],.inl ⟨rfl,rfl⟩⟩
def Ji.sl(h:Ji base e enc n w v G)(x:uo enc n):Sl enc n w v G:=by
 obtain⟨j,h⟩:=h;rcases h with⟨rfl,l⟩|⟨g,cap,cur,rfl,hb,t,p,T,o,s⟩
 .obtain rfl:G= []:=pE l;exact Sl.nil _ _ _
 .refine⟨some ⟨g,0,none⟩,cap,rfl,p,T,λl=>⟨g,0,rfl,(yf.1 t).1,λi hi=>?_⟩⟩;rw[mX t];have P:i*n+n<=G.length*n:=by rw[<-sb];exact mH n hi
  have U:G.length*n<=cap*n:=mH n p;unfold mD;rw[kx kh]
  congr 1
  apply qB;intro k;rw[w4];by_cases u:k<n
  .rw[kx kh,<-zH x G i k hi u,<-s,yg,kx kh];rw[Xj];congr 1;omega
  .have:=x.size G[i];rw[ku kh,ru kh]
def Ji.blocks(h:Ji base e enc n w v G):∀k,v.ownBlock=some k->base<=k/\k<w.heap.size:=World.ownsRow.lt h
def Ji.alloc(h:Ji base e enc n w v G)(o:Obj):Ji base e enc n (w.alloc o) v G:=World.ownsRow.alloc h o
def pr.grown{a:World}{N:Option Nat}(h:pr a w)(t:w.grownBy w' N)(H:∀k,N=some k->a.heap.size<=k):pr a w':=Below.grown h t h.size H
def pr.append{a:World}(h:pr a w)(t:w.grownBy w' v.ownBlock)(U:Ji base e enc n w v G)(c:a.heap.size<=base):pr a w':=
 h.grown t λk x=>oG c (U.blocks k x).1
end
variable {a:Act}
variable {ops:Array Oper}
section
variable {t:TypeId}{enc:α->Array Value}{bytes:Nat}{y:Value}{G J:List α}
def Eu(w:World)(ty:TypeId)(C:SlT P t e n bytes)(A:Ji base e enc n w v G)(c:Nat):(Builtin.append_ #[t,t] ty #[v,.slice none 0 c]).run P w= .ok v w:=by
 obtain⟨s,i,z,hi,d,o,hb,u⟩:=C;rcases A.2 with⟨rfl,j⟩|⟨g,cap,cur,rfl,_,_,U,_⟩
 .simp[Builtin.append_,lu s,sizeOf,typeInfo,hi,Builtin.lenOf,Builtin.firstCells]
 .simp[Builtin.append_,lu s,sizeOf,typeInfo,hi,Builtin.lenOf,Builtin.firstCells,U,storeCells]
theorem MX(w:World)(ty:TypeId)(C:SlT P t e n bytes)(x:uo enc n)(E:Ji base e enc n w v G)(F:Sl enc n w y J)
 (p:G.length+J.length<=maxLen) (K:(G.length+J.length)*bytes<=140737488355328) (I:base<=w.heap.size):
 ∃g w',(Builtin.append_ #[t,t] ty #[v,y]).run P w= .ok g w'/\Ji base e enc n w' g (G++J)/\w.grownBy w' v.ownBlock/\(g.ownBlock=v.ownBlock∨g.ownBlock=some w.heap.size):=by
 obtain⟨A,c,rfl,a,d,Y⟩:=F;have l:=C;obtain⟨s,i,z,hi,f,o,hb,u⟩:=C;by_cases j:J.length=0
 .obtain rfl:J= []:=pE j;cases A with
  |none=>
   exact⟨v,w,Eu w ty l E c,by simpa using E,World.grownBy.refl w _,.inl rfl⟩
  |some m=>
   obtain⟨g,w',H,k,B,_,D⟩:=run_append_own_at (P:=P) w base t ty e i z n bytes s hi f o hb u x.pos v G.length (qc enc G) E m 0 c [] ki ki ki jF (by simpa using K) I;exact⟨g,w',H,by simpa[Ji]using k,B,D⟩
 .obtain⟨b,off,rfl,_,H⟩:=Y kh;obtain⟨g,w',H,k,B,_,D⟩:=run_append_own_at (P:=P) w base t ty e i z n bytes s hi f o hb u x.pos v G.length (qc enc G) E ⟨b,off,none⟩ J.length c (qc enc J) (sK x J) (Sl.news x H) (Tz x J) p K I;exact⟨g,w',H,by unfold Ji;rw[TB,lA];exact k,B,D⟩
def Ph{o:Oper}{K:Act->World->Prop}{Q:Exit->Act->World->Prop}(s x:Operand)
 (U:o.op= .call {callee:=.builtin .append,args:= #[s,x],argTypes:= #[t,t]}) (C:SlT P t e n bytes) (z:uo enc n) (p:a.eval s=v) (j:a.eval x=y) (B:Ji base e enc n w v G) (D:Sl enc n w y J)
 (q:G.length+J.length<=maxLen) (F:(G.length+J.length)*bytes<=140737488355328) (E:base<=w.heap.size)
 (h:∀d w',Ji base e enc n w' d (G++J)->w.grownBy w' v.ownBlock->(d.ownBlock=v.ownBlock∨d.ownBlock=some w.heap.size)->K (a.put o.dst d) w'):o.wp P a w K Q:=by
 obtain⟨d,w',H,b,k,A⟩:=MX (P:=P) w o.type C z B D q F E;unfold Oper.wp execOp;simp only[U,resolve,invoke,builtin,Sem.run_bind,Sem.run_pure,Result.andThen_ok,Qz,nc,AJ,p,j,H];exact h d w' b k A
def zk{N:List Oper}{o:Oper}{Q:Exit->Act->World->Prop}(Y:o.guard=none)(s x:Operand)
 (U:o.op= .call {callee:=.builtin .append,args:= #[s,x],argTypes:= #[t,t]}) (C:SlT P t e n bytes) (z:uo enc n) (p:a.eval s=v) (j:a.eval x=y) (B:Ji base e enc n w v G) (D:Sl enc n w y J)
 (q:G.length+J.length<=maxLen) (H:(G.length+J.length)*bytes<=140737488355328) (E:base<=w.heap.size)
 (h:∀d w',Ji base e enc n w' d (G++J)->w.grownBy w' v.ownBlock->(d.ownBlock=v.ownBlock∨d.ownBlock=some w.heap.size)->wpList P ops Q N (a.put o.dst d) w'):wpList P ops Q (o::N) a w:=
 wpList_plain Y λ_ F=>Ph s x U C z p j B D q H E λd w' b k A=>F _ _ (h d w' b k A)
end
def Kz{enc:α->Array Value}(w:uo enc n){x0:α}{z:Value}(d:enc x0=z.cells)(k:Nat):(Builtin.zeroCells z.cells k).toList=qc enc (List.replicate k x0):=by
 have t:z.cells.size=n:=by rw[<-d];exact w.size x0
 apply wv;intro j;have hn:=w.pos;by_cases i:j<k*n
 .have hi:j/n<k:=(Xh hn).2 i;have T:j%n<n:=AK _ hn;have o:j/n*n+j%n=j:=e7;have a:=zH w (List.replicate k x0) (j/n) (j%n) jz T;rw[o]at a;rw[a,List.getElem_replicate,d];simp[Builtin.zeroCells,t,i,T]
 .rw[pN (by simp[Builtin.zeroCells,t];omega),pN (by rw[sK w];simp;omega)]
inductive Xv where
 |row
 |at(off:Nat) (p:List Nat)
 |part (off l:Nat)
inductive AV where
 |v (x:Value)
 |agg (n:Nat) (fs:List AV)
 |arr (m n:Nat) (G:List AV)
 |ptr (g off:Nat) (p:List Nat)
 |ref (x:AV)
 |sl (tok:Option Nat) (n:Nat) (G:List AV)
 |seg (g off n:Nat) (p:List Nat) (len cap:Nat)
 |mz (vs:List AV)
 |fn (f:Fn) (first caps:List AV)
 |ifc (t:TypeId) (x:AV)
 |own (g n len:Nat) (k:Xv)
 |raw (l:Nat×Nat) (p:List Nat) (x:Value)
 |hv (g:Nat)
 deriving Inhabited
inductive XB where
 |var (b:Nat) (x:AV)
 |my (e:TypeId) (n:Nat) (A:Option (Nat×Nat)) (cap:Nat) (G:List AV)
 |ob (b:Nat) (o:Obj)
def XB.at:XB->Option Nat
 | .var b _=>some b
 | .my _ _ A _ _=>A.map (·.1)
 | .ob b _=>some b
abbrev nz:=Nat×Nat
abbrev kY:=nz->Option XB
inductive Bx where
 |var (x:AV)
 |froz (x:AV)
 |tail (e:TypeId) (n k:Nat)
 |own (e:TypeId) (n:Nat) (G:List AV)
 |hid
 |ext (M:kY->(Nat->Value)->Prop)
def sB:Value->Bool
 | .bool _| .int _ _| .string _| .float _ _=>true
 | .pointer none| .slice none 0 0| .map _| .nilFunc| .nilIface=>true
 |_=>false
theorem HE:∀{x:Value},sB x=true->x.oneCell'=true
 | .bool _,_| .int _ _,_| .string _,_| .float _ _,_| .pointer _,_| .slice _ _ _,_| .map _,_| .nilFunc,_| .nilIface,_=>rfl
 | .agg _,h| .tuple _,h=>by simp[sB]at h
 | .complex _ _ _,h| .chan _,h| .func _ _ _,h| .iface _ _,h=>by simp[sB]at h
structure nE where
 oj:Nat->Option Nat
 fx:nz->Option Nat
 hv:Nat->Value
instance :CoeFun nE (λ_=>Nat->Option Nat):=⟨nE.oj⟩
abbrev Hp:=Nat->Option Bx
abbrev u0:=Nat->Nat->Prop
def B0:nE:=⟨λ_=>none,λ_=>none,λ_=>undef⟩
def H0:Hp:=λ_=>none
def pH:Option Bx->Bool
 |some (.var _)=>true
 |some (.froz _)=>true
 |_=>false
def OU(U:u0)(b off n:Nat):Prop:=∀o,off<=o->o<off+n-> ¬U b o
def m9:AV->List Value->Value
 | .agg _ _,cs=>.agg cs.toArray
 | .arr _ _ _,cs=>.agg cs.toArray
 |_,[c]=>c
 |_,_=>undef
def Ei(w:World)(B:nE)(H:Hp)(t n len:Nat)(A:Option Addr)(cap:Nat):Prop:=
 ∃e k,H t=some (.tail e n k)/\len<=k/\(len=k->(B t=none->A=none/\cap=0)/\ ∀b,B t=some b->A=some ⟨b,0,none⟩/\ ∃cur,w.heap[b]?=some (.cells cur e (0,0))/\cur.size=cap*n)
def rQ(w:World)(B:nE)(H:Hp)(g n len:Nat)(k:Xv)(v:Value):Prop:=
 ∃e G,H g=some (.own e n G)/\len<=G.length/\v.oneCell'=true/\(len=G.length->(B g=none->v= .slice none 0 0)/\ ∀b,B g=some b-> ∃cur,w.heap[b]?=some (.cells cur e (0,0))/\match k with
  | .row=>∃cap,v= .slice (some ⟨b,0,none⟩) len cap/\len<=cap/\cap<=maxLen/\cur.size=cap*n
  | .at off _=>v= .pointer (some ⟨b,off,none⟩)
  | .part off l=>∃cap,v= .slice (some ⟨b,off*n,none⟩) l cap/\off+l<=len/\l<=cap/\cap<=maxLen)
mutual
def Rd(U:u0)(w:World):AV->nE->Hp->List Value->Prop
 | .v x,_,_,cs=>sB x=true/\cs= [x]
 | .agg n fs,B,H,cs=>cs.length=n/\qQ U w fs B H cs
 | .arr m n G,_,_,cs=>cs.length=m/\ov U w n G B0 H0 cs
 | .ptr g off _,B,H,cs=>pH (H g)=true/\ ∃b,B g=some b/\cs= [.pointer (some ⟨b,off,none⟩)]
 | .ref x,_,_,cs=>∃b off c,cs= [.pointer (some ⟨b,off,none⟩)]/\mQ w b off c.length=some c.toArray/\OU U b off c.length/\Rd U w x B0 H0 c
 | .sl tok n G,B,H,cs=>∃A cap,cs= [.slice A G.length cap]/\G.length<=cap/\cap<=maxLen/\
  (0<G.length-> ∃b off c,A=some ⟨b,off,none⟩/\mQ w b off (G.length*n)=some c.toArray/\OU U b off (G.length*n)/\ov U w n G B0 H0 c)/\
  ∀t,tok=some t->Ei w B H t n G.length A cap
 | .seg g off n _ len cap,B,H,cs=>pH (H g)=true/\ ∃b,B g=some b/\cap<=maxLen/\len<=cap/\cs= [.slice (some ⟨b,off,none⟩) len cap]
 | .mz _,_,_,_=>False
 | .fn f first caps,B,H,cs=>∃c1 c2,cs= [.func f c1.toArray c2.toArray]/\oe U w first B H c1/\oe U w caps B H c2
 | .ifc t x,B,H,cs=>∃c,Rd U w x B H c/\cs= [.iface t (m9 x c)]
 | .own g n len k,B,H,cs=>∃v,rQ w B H g n len k v/\cs= [v]
 | .raw _ _ x,_,_,cs=>x.oneCell'=true/\cs= [x]
 | .hv g,B,H,cs=>H g=some .hid/\(B.hv g).oneCell'=true/\cs= [B.hv g]
def qQ(U:u0)(w:World):List AV->nE->Hp->List Value->Prop
 | [],_,_,cs=>cs= []
 |x::G,B,H,cs=>∃c1 c2,cs=c1++c2/\Rd U w x B H c1/\qQ U w G B H c2
def ov(U:u0)(w:World)(n:Nat):List AV->nE->Hp->List Value->Prop
 | [],_,_,cs=>cs= []
 |x::G,B,H,cs=>∃c1 c2,cs=c1++c2/\c1.length=n/\Rd U w x B H c1/\ov U w n G B H c2
def oe(U:u0)(w:World):List AV->nE->Hp->List Value->Prop
 | [],_,_,vs=>vs= []
 |x::G,B,H,vs=>∃c vs',vs=m9 x c::vs'/\Rd U w x B H c/\oe U w G B H vs'
end
def qJ(U:u0)(w:World)(B:nE)(H:Hp):AV->Value->Prop
 | .mz G,v=>∃vs,v= .tuple vs.toArray/\oe U w G B H vs
 |x,v=>∃c,Rd U w x B H c/\v=m9 x c
structure nK(U:u0)(w w':World):Prop where
 size:w.heap.size<=w'.heap.size
 cell:∀b cs t fr,w.heap[b]?=some (.cells cs t fr)-> ∃cs',w'.heap[b]?=some (.cells cs' t fr)/\cs'.size=cs.size/\ ∀o,¬U b o->cs'[o]?=cs[o]?
def nK.refl(U:u0)(w:World):nK U w w:=⟨kK _,λb cs t fr h=>⟨cs,h,rfl,λ_ _=>rfl⟩⟩
variable {U:u0}
def nK.trans{j:World}(e:nK U w w')(f:nK U w' j):nK U w j:=⟨oG e.size f.size,λb cs t fr h=>by
 obtain⟨c1,a,c,k⟩:=e.cell b cs t fr h;obtain⟨c2,g,k2,k3⟩:=f.cell b c1 t fr a;exact⟨c2,g,k2.trans c,λo V=>(k3 o V).trans (k o V)⟩⟩
def nK.row{U:u0}{w w':World}(e:nK U w w'){b off n:Nat}{c:Array Value}(h:mQ w b off n=some c)(q:OU U b off n):mQ w' b off n=some c:=by
 unfold mQ at h;split at h
 .rename_i cs t fr hb;obtain⟨g,f,o,u⟩:=e.cell b cs t fr hb;rw[mX f];obtain⟨a,d,l⟩:=o3 h;unfold mD;rw[kx kh]
  congr 1
  apply qB;intro k;rw[w4];by_cases x:k<n
  .rw[kx kh,u _ (q _ kh kh)];exact l k x
  .rw[ku kh,ru kh]
 .cases h
def nK.oD(e:pr w w'):nK U w w':=⟨e.size,λb cs t fr h=>⟨cs,e.heap h,rfl,λ_ _=>rfl⟩⟩
structure qt(w w':World)(B B':nE)(H H':Hp):Prop where
 oj:∀g b,pH (H g)=true->B g=some b->B' g=some b
 dom:∀g,pH (H g)=true->pH (H' g)=true
 tok:∀t n len A cap,Ei w B H t n len A cap->Ei w' B' H' t n len A cap
 own:∀g n len k v,rQ w B H g n len k v->rQ w' B' H' g n len k v
 hid:∀g,H g=some .hid->H' g=some .hid/\B'.hv g=B.hv g
variable {B B':nE}{H:Hp}
def sC{H':Hp}(o:nK U w w')(h:∀g e n G,H g=some (.own e n G)->H' g=some (.own e n G)/\B' g=B g):∀g n len k v,rQ w B H g n len k v->rQ w' B' H' g n len k v:=by
 rintro g n len k v ⟨e,G,a,c,l,A⟩;obtain⟨f,k2⟩:=h g e n G a;refine⟨e,G,f,c,l,λi=>⟨λhn=>(A i).1 (k2▸hn),λb hb=>?_⟩⟩;obtain⟨cur,M,m2⟩:=(A i).2 b (k2▸hb);obtain⟨d,c1,c2,_⟩:=o.cell b cur e (0,0) M;refine⟨d,c1,?_⟩;cases k with
 |row=>obtain⟨cap,m,j,V,R⟩:=m2;exact⟨cap,m,j,V,c2.trans R⟩
 |_=>exact m2
def qt.nj(w w':World):qt w w' B0 B0 H0 H0:=⟨λ_ _ _ h=>h,λ_ h=>h,λt n len A cap h=>(by obtain⟨e,k,h,_⟩:=h;cases h),λg n len k v h=>(by obtain⟨e,G,h,_⟩:=h;cases h),λg h=>kd⟩
variable {U':u0}
variable {G:List AV}
section
def zz(p:∀b o,b<w.heap.size->U' b o->U b o){b off n:Nat}{c:Array Value}(h:mQ w b off n=some c)(q:OU U b off n):OU U' b off n:=
 λo a d k=>q o a d (p b o (HB h) k)
mutual
theorem n6(e:nK U w w')(hU:∀b o,b<w.heap.size->U' b o->U b o):∀(x:AV) {B B':nE} {H H':Hp} (_:qt w w' B B' H H') {cs:List Value},Rd U w x B H cs->Rd U' w' x B' H' cs
 | .v x,_,_,_,_,_,_,h=>e9
 | .agg n fs,_,_,_,_,p,_,h=>by
  simp only[Rd]at h⊢;exact⟨h.1,agy e hU fs p h.2⟩
 | .arr m n G,_,_,_,_,p,_,h=>by
  simp only[Rd]at h⊢;exact⟨h.1,nr e hU n G (qt.nj w w') h.2⟩
 | .ptr g off _,_,_,_,_,p,_,h=>by
  simp only[Rd]at h⊢;obtain⟨h0,b,h1,h2⟩:=h;exact en
 | .ref x,_,_,_,_,_,_,h=>by
  simp only[Rd]at h⊢;obtain⟨b,off,c,h1,h2,h3,h4⟩:=h;exact⟨b,off,c,h1,e.row h2 h3,zz hU h2 h3,n6 e hU x (qt.nj w w') h4⟩
 | .sl tok n G,_,_,_,_,p,_,h=>by
  simp only[Rd]at h⊢;obtain⟨A,cap,h1,h2,h3,h4,h5⟩:=h;refine⟨A,cap,h1,h2,h3,λh0=>?_,λt ht=>p.tok _ _ _ _ _ (h5 t ht)⟩;obtain⟨b,off,c,k1,k2,k3,k4⟩:=h4 h0;exact⟨b,off,c,k1,e.row k2 k3,zz hU k2 k3,nr e hU n G (qt.nj w w') k4⟩
 | .seg g off n _ len cap,_,_,_,_,p,_,h=>by
  simp only[Rd]at h⊢;obtain⟨h0,b,h1,h2⟩:=h;exact en
 | .mz _,_,_,_,_,_,_,h=>fc
 | .fn f first caps,_,_,_,_,p,_,h=>by
  simp only[Rd]at h⊢;obtain⟨c1,c2,h1,h2,h3⟩:=h;exact⟨c1,c2,h1,zh e hU first p h2,zh e hU caps p h3⟩
 | .ifc t x,_,_,_,_,p,_,h=>by
  simp only[Rd]at h⊢;obtain⟨c,h1,h2⟩:=h;exact⟨c,n6 e hU x p h1,h2⟩
 | .own g n len k,_,_,_,_,p,_,h=>by
  simp only[Rd]at h⊢;obtain⟨v,h1,h2⟩:=h;exact⟨v,p.own _ _ _ _ _ h1,h2⟩
 | .raw _ _ x,_,_,_,_,p,_,h=>e9
 | .hv g,_,_,_,_,p,_,h=>by
  simp only[Rd]at h⊢;obtain⟨h0,h1,h2⟩:=h;obtain⟨k1,k2⟩:=p.hid g h0;rw[k2];exact⟨k1,h1,h2⟩
theorem agy(e:nK U w w')(hU:∀b o,b<w.heap.size->U' b o->U b o):∀(G:List AV) {B B':nE} {H H':Hp} (_:qt w w' B B' H H') {cs:List Value},qQ U w G B H cs->qQ U' w' G B' H' cs
 | [],_,_,_,_,_,_,h=>fd
 |x::G,_,_,_,_,p,_,h=>by
  simp only[qQ]at h⊢;obtain⟨c1,c2,h1,h2,h3⟩:=h;exact⟨c1,c2,h1,n6 e hU x p h2,agy e hU G p h3⟩
theorem nr(e:nK U w w')(hU:∀b o,b<w.heap.size->U' b o->U b o)(n:Nat):∀(G:List AV) {B B':nE} {H H':Hp} (_:qt w w' B B' H H') {cs:List Value},ov U w n G B H cs->ov U' w' n G B' H' cs
 | [],_,_,_,_,_,_,h=>by simpa[ov]using h
 |x::G,_,_,_,_,p,_,h=>by
  simp only[ov]at h⊢;obtain⟨c1,c2,h1,hn,h2,h3⟩:=h;exact⟨c1,c2,h1,hn,n6 e hU x p h2,nr e hU n G p h3⟩
theorem zh(e:nK U w w')(hU:∀b o,b<w.heap.size->U' b o->U b o):∀(G:List AV) {B B':nE} {H H':Hp} (_:qt w w' B B' H H') {cs:List Value},oe U w G B H cs->oe U' w' G B' H' cs
 | [],_,_,_,_,_,_,h=>ff
 |x::G,_,_,_,_,p,_,h=>by
  simp only[oe]at h⊢;obtain⟨c,vs,h1,h2,h3⟩:=h;exact⟨c,vs,h1,n6 e hU x p h2,zh e hU G p h3⟩
end
def mW:qJ U w B H (.mz G) v↔ ∃vs,v= .tuple vs.toArray/\oe U w G B H vs:=by simp[qJ]
def kJ{x:AV}(j:∀G,x≠ .mz G):qJ U w B H x v↔ ∃c,Rd U w x B H c/\v=m9 x c:=by
 cases x<;>first|(simp[qJ];done)|exact absurd O (j _)
def Ec(x:AV):(∃G,x= .mz G)∨ ∀G,x≠ .mz G:=by cases x<;>simp
def vE(e:nK U w w')(n:∀b o,b<w.heap.size->U' b o->U b o){B B':nE}{H H':Hp}(p:qt w w' B B' H H'){x:AV}{v:Value}(h:qJ U w B H x v):qJ U' w' B' H' x v:=by
 rcases Ec x with⟨G,rfl⟩|hx
 .rw[mW]at h⊢;obtain⟨vs,a,d⟩:=h;exact⟨vs,a,zh e n G p d⟩
 .rw[kJ hx]at h⊢;obtain⟨c,a,d⟩:=h;exact⟨c,n6 e n x p a,d⟩
end
def yp(U:u0)(w:World):XB->Prop
 | .var b x=>∃cs t,w.heap[b]?=some (.cells cs.toArray t (0,0))/\Rd U w x B0 H0 cs
 | .my e n A cap G=>0<n/\G.length<=cap/\cap<=maxLen/\match A with
  |none=>cap=0
  |some (b,off)=>∃cur c,w.heap[b]?=some (.cells cur e (0,0))/\(off+cap)*n<=cur.size/\(∀o,o<G.length*n->cur[off*n+o]?=c[o]?)/\ov U w n G B0 H0 c
 | .ob b o=>w.heap[b]?=some o
def OX(U:u0)(w:World)(B:nE)(M:kY->(Nat->Value)->Prop):Prop:=
 ∃X,M X B.hv/\(∀l,(X l).bind XB.at=B.fx l)/\ ∀l xb,X l=some xb->yp U w xb
variable {xb:XB}
def yp.go(h:yp U w xb)(f:∀b,xb.at=some b->w'.heap[b]?=w.heap[b]?)(e:nK U w w')(p:∀b o,b<w.heap.size->U' b o->U b o):yp U' w' xb:=by
 cases xb with
 |var b x=>
  obtain⟨cs,t,a,d⟩:=h;exact⟨cs,t,(f b O).trans a,n6 e p x (qt.nj _ _) d⟩
 |my ty n A cap G=>
  obtain⟨i,a,d,k⟩:=h;refine⟨i,a,d,?_⟩;cases A with
  |none=>exact k
  |some A=>
   obtain⟨b,off⟩:=A;obtain⟨cur,c,g,k2,k3,l⟩:=k;exact⟨cur,c,(f b O).trans g,k2,k3,nr e p n G (qt.nj _ _) l⟩
 |ob b o=>exact(f b O).trans h
def OX.go{M:kY->(Nat->Value)->Prop}(h:OX U w B M)(z:B'.fx=B.fx)(D:B'.hv=B.hv)(d:∀l b,B.fx l=some b->w'.heap[b]?=w.heap[b]?)(e:nK U w w')(n:∀b o,b<w.heap.size->U' b o->U b o):OX U' w' B' M:=by
 obtain⟨X,a,c,k⟩:=h;refine⟨X,by rw[D];exact a,by rw[z];exact c,λl xb g=>(k l xb g).go (λb f=>d l b ?_) e n⟩;rw[<-c l,g];exact f
def yp.lt(h:yp U w xb){b:Nat}(d:xb.at=some b):b<w.heap.size:=by
 have R:∀{o:Obj},w.heap[b]?=some o->b<w.heap.size:=λh=>(yf.1 h).1;cases xb with
 |var b' x=>injection d with d;subst d;obtain⟨cs,t,a,_⟩:=h;exact R a
 |my ty n A cap G=>
  obtain⟨_,_,_,k⟩:=h;cases A with
  |none=>cases d
  |some A=>
   obtain⟨b',off⟩:=A;injection d with d;subst d;obtain⟨cur,c,e,_⟩:=k;exact R e
 |ob b' o=>injection d with d;subst d;exact R h
structure su where
 w0:World
 X:u0
 eb:Nat->Option (Nat×Option Nat)
 lo:∀g,g<1000->eb g=none
 df:List Deferred
 xb:Nat->Prop
def su.E3(E:su)(b:Nat):Prop:=∃g k,E.eb g=some (k,some b)
def EY(E:su)(b C:Nat):Prop:=E.w0.heap.size<=b∨(b<E.w0.heap.size/\E.E3 b/\ ∀o,C<=o->E.X b o)
def Ks(E:su)(g k:Nat)(D:Option Nat):Prop:=∀s I,E.eb g=some (s,I)->s<=k/\(k=s->D=I)
variable {E:su}{bo:Option Nat}
def Ks.none{k:Nat}(h:E.eb g=none):Ks E g k bo:=λ_ _ e=>by rw[h]at e;cases e
def Ks.grow{k k':Nat}{W:Option Nat}(h:Ks E g k bo)(w:k<k'):Ks E g k' W:=λs I e=>by have:=(h s I e).1;exact⟨by omega,λe=>by omega⟩
variable {o0:Nat}
def EY.mono{d:Nat}(h:EY E b o0)(U:o0<=d):EY E b d:=h.imp id λ⟨i,h1,h2⟩=>⟨i,h1,λo k=>h2 o kh⟩
def kI(E:su)(B:nE)(H:Hp):u0:=λb o=>(b<E.w0.heap.size/\E.X b o/\ ¬E.E3 b)∨(∃l,B.fx l=some b)∨(∃g,B g=some b/\match H g with|some (.var _)=>True|some (.tail _ n k)=>k*n<=o|some (.own _ _ _)=>True|_=>False)
def Ie(E:su)(B:nE)(H:Hp)(w:World)(g:Nat):Bx->Prop
 | .var x=>∃b cs t,B g=some b/\w.heap[b]?=some (.cells cs.toArray t (0,0))/\Rd (kI E B H) w x B H cs/\EY E b 0/\Ks E g 0 (some b)
 | .froz x=>∃b cs,B g=some b/\mQ w b 0 cs.length=some cs.toArray/\OU (kI E B H) b 0 cs.length/\Rd (kI E B H) w x B H cs
 | .tail e n k=>0<n/\Ks E g k (B g)/\((B g=none/\k=0)∨ ∃b cur cap,B g=some b/\w.heap[b]?=some (.cells cur e (0,0))/\cur.size=cap*n/\k<=cap/\cap<=maxLen/\EY E b (k*n))
 | .own e n G=>0<n/\Ks E g G.length (B g)/\((B g=none/\G= [])∨ ∃b cur cap c,B g=some b/\w.heap[b]?=some (.cells cur e (0,0))/\cur.size=cap*n/\G.length<=cap/\cap<=maxLen/\(∀o,o<G.length*n->cur[o]?=c[o]?)/\ov (kI E B H) w n G B0 H0 c/\EY E b 0)
 | .hid=>B g=none
 | .ext M=>(g=4999/\B g=none)/\OX (kI E B H) w B M
def nR:Option Bx->Bool
 |some (.var _)=>true
 |some (.tail _ _ _)=>true
 |some (.own _ _ _)=>true
 |_=>false
structure Ih(E:su)(w:World):Prop where
 os:w.os=E.w0.os
 tape:w.tape=E.w0.tape
 output:w.output=E.w0.output
 size:E.w0.heap.size<=w.heap.size
 block:∀k,k<E.w0.heap.size-> ¬E.E3 k-> ¬E.xb k->w.heap[k]?=E.w0.heap[k]?
 evo:nK E.X E.w0 w
structure Fx(E:su)(B:nE)(H:Hp)(w:World):Prop where
 mine:∀l b,B.fx l=some b->E.w0.heap.size<=b∨(E.xb b/\ ∀o,E.X b o)
 lt:∀l b,B.fx l=some b->b<w.heap.size
 inj:∀l l' b,B.fx l=some b->B.fx l'=some b->l=l'
 out:∀l b g,B.fx l=some b->nR (H g)=true->B g≠some b
def Fx.go{H':Hp}(f:Fx E B H w)(z:B'.fx=B.fx)(o:w.heap.size<=w'.heap.size)(i:∀g b,nR (H' g)=true->B' g=some b->(nR (H g)=true/\B g=some b)∨w.heap.size<=b):Fx E B' H' w':=by
 refine⟨by rw[z];exact f.mine,λl b h=>wx (f.lt l b (z▸h)) o,by rw[z];exact f.inj,λl b g h a c=>?_⟩;rw[z]at h;rcases i g b a c with⟨e,k2⟩|k
 .exact f.out l b g h e k2
 .have:=f.lt l b h;omega
def nE.E2(B:nE)(g b:Nat):nE:=⟨λj=>if j=g then some b else B.oj j,B.fx,B.hv⟩
def nq(B:nE)(g b:Nat):(B.E2 g b) g=some b:=by simp[nE.E2]
def nU(B:nE){g j:Nat}(b:Nat)(h:j≠g):(B.E2 g b) j=B j:=by simp[nE.E2,h]
structure mg(E:su)(nt:Nat)(B:nE)(T:Nat->Option AV)(H:Hp)(a:Act)(w:World):Prop where
 nt:a.tmps.size=nt
 df:a.defers=E.df
 tmp:∀s x,T s=some x-> ∃v,a.tmps[s]?=some v/\qJ (kI E B H) w B H x v
 box:∀g bx,H g=some bx->Ie E B H w g bx
 x3:∀g,H g=none->B g=none
 inj:∀g g' b,nR (H g)=true->nR (H g')=true->B g=some b->B g'=some b->g=g'
 left:Ih E w
 qa:∀g,H g=none->E.eb g=none
 fx:Fx E B H w
def l9(f:Nat->Option α)(k:Nat)(v:α):Nat->Option α:=λj=>if j=k then some v else f j
def kB(f:Nat->Option α)(k:Nat)(v:α):l9 f k v k=some v:=by simp[l9]
def kF(f:Nat->Option α){j k:Nat}(v:α)(h:j≠k):l9 f k v j=f j:=by simp[l9,h]
def RX(f:Nat->Option α){j k:Nat}(v u:α)(h:j≠k):l9 (l9 f k v) j u=l9 (l9 f j u) k v:=by
 funext i;simp only[l9];by_cases a:i=j
 .subst a;simp[h]
 .simp[a]
def kV{α:Type}(k:Nat):List (Nat×α)->Option α
 | []=>none
 |(j,v)::l=>bif Nat.beq j k then some v else kV k l
def kZ(j:Nat)(v:α)(l:List (Nat×α)):(λk=>kV k ((j,v)::l))=l9 (λk=>kV k l) j v:=by
 funext k;simp only[kV,l9];by_cases h:k=j
 .subst h;simp
 .have:Nat.beq j k=false:=by
   cases hb:Nat.beq j k
   .rfl
   .exact absurd (mi hb).symm h
  simp[this,h]
structure Eff where
 val:AV
 wr:List (Nat×Bx)
def zl(T:Nat->Option AV)(d:Option Nat)(x:AV):Nat->Option AV:=match d with|some d=>l9 T d x|none=>T
def nA(H:Hp):List (Nat×Bx)->Hp
 | []=>H
 |(g,b)::l=>l9 (nA H l) g b
structure St where
 T:List (Nat×AV)
 H:List (Nat×Bx)
def St.t(S:St):Nat->Option AV:=λk=>kV k S.T
def St.h(S:St):Hp:=λk=>kV k S.H
def St.app(S:St)(d:Option Nat)(e:Eff):St:=⟨match d with|some d=>(d,e.val)::S.T|none=>S.T,e.wr++S.H⟩
def St.T2(S:St)(d:Option Nat)(e:Eff):(S.app d e).t=zl S.t d e.val:=by
 cases d
 .rfl
 .exact kZ _ _ _
def St.T3(S:St)(d:Option Nat)(e:Eff):(S.app d e).h=nA S.h e.wr:=by
 have:∀l:List (Nat×Bx),(λk=>kV k (l++S.H))=nA S.h l:=by
  intro l
  induction l with
  |nil=>rfl
  |cons p l y=>
   obtain⟨g,b⟩:=p;rw[Xg,kZ,y];rfl
 exact this e.wr
def lK(nt:Nat)(d:Option Nat):Bool:=match d with|some d=>Nat.blt d nt|none=>true
def an9(P:Program)(E:su)(nt:Nat)(o:Oper)(T:Nat->Option AV)(H:Hp)(e:Eff):Prop:=
 ∀B a w,mg E nt B T H a w-> ∀(K:Act->World->Prop) (Q:Exit->Act->World->Prop),
  (∀B' W w',mg E nt B' (zl T o.dst e.val) (nA H e.wr) W w'->K W w')->o.wp P a w K Q
def kE(P:Program)(E:su)(nt:Nat)(ops:Array Oper)(o:Oper)(T:Nat->Option AV)(H:Hp)(d:List Nat)(e:Eff):Prop:=
 ∀T' H',(∀s∈o.looksAt ops,T' s=T s)->(∀g∈d,H' g=H g)->(∀p∈e.wr,H' p.1=H p.1)->an9 P E nt o T' H' e
def kN(ops:Array Oper)(o:Oper)(T:Nat->Option AV):Option Bool:=
 match o.guard with
 |none=>some true
 |some (j,b)=>match((ops[j]?).bind (·.dst)).bind T with
  |some (.v (.bool c))=>some (c==b)
  |some (.mz _)=>some false
  |_=>none
structure MQ where
 rh:List Nat
 wr:List Nat
def St.same(S S':St):Prop:=S'.t=S.t/\S'.h=S.h
def lM(P:Program)(E:su)(nt:Nat)(ops:Array Oper):List Oper->St->List MQ->(St->List MQ->Prop)->Prop
 | [],S,rs,K=>K S rs
 |o::l,y,rs,K=>∃S,y.same S/\
  ((kN ops o S.t=some true/\ ∃rh e,kE P E nt ops o S.t S.h rh e/\lM P E nt ops l (S.app o.dst e) (rs++[⟨rh,e.wr.map (·.1)⟩]) K)∨
  (kN ops o S.t=some false/\lK nt o.dst=true/\lM P E nt ops l (S.app o.dst ⟨.mz [],[]⟩) (rs++[⟨[],[]⟩]) K))
variable {nt:Nat}{T:Nat->Option AV}
theorem mg.put(r:mg E nt B T H a w){d:Option Nat}(n:lK nt d=true){x:AV}{v:Value}(h:qJ (kI E B H) w B H x v):
 mg E nt B (zl T d x) H (a.put d v) w:=by
 cases d with
 |none=>exact r
 |some d=>
  have Z:d<a.tmps.size:=by rw[r.nt];simpa[lK]using n
  refine⟨by simp[Act.put,r.nt],r.df,λs y o=>?_,r.box,r.x3,r.inj,r.left,r.qa,r.fx⟩;simp only[zl,l9]at o;by_cases m:s=d
  .subst m;simp at o;subst o;exact⟨v,by simp[Act.put,CL,Z],h⟩
  .rw[ku m]at o;obtain⟨u,b,c⟩:=r.tmp s y o;exact⟨u,by simp[Act.put,CL,pv m,b],c⟩
def mg.undef(r:mg E nt B T H a w){d:Option Nat}(n:lK nt d=true):mg E nt B (zl T d (.mz [])) H (a.put d undef) w:=
 r.put n (by rw[mW];exact⟨[],rfl,by simp[oe]⟩)
def rf(r:mg E nt B T H a w){ops:Array Oper}{o:Oper}{b:Bool}(h:kN ops o T=some b):Region.wanted o (yielded ops a.tmps)=b:=by
 unfold kN at h;unfold Region.wanted;split at h
 .rename_i t;injection h with h;subst h;simp[t]
 .rename_i j c t;split at h
  .rename_i k x;injection h with h;subst h;simp only[t];unfold yielded;cases n:(ops[j]?).bind (·.dst)with
   |none=>rw[n]at x;simp at x
   |some d=>
    rw[n]at x;simp only[Option.bind_some]at x⊢;obtain⟨v,e,f⟩:=r.tmp d _ x;rw[kJ (by intro G;simp)]at f;obtain⟨cs,l,A⟩:=f;simp only[Rd]at l;obtain⟨_,rfl⟩:=l;subst A;simp[m9,e]
  .rename_i G x;injection h with h;subst h;simp only[t];unfold yielded;cases n:(ops[j]?).bind (·.dst)with
   |none=>rw[n]at x;simp at x
   |some d=>
    rw[n]at x;simp only[Option.bind_some]at x⊢;obtain⟨v,e,f⟩:=r.tmp d _ x;rw[mW]at f;obtain⟨vs,l,_⟩:=f;subst l;simp[e]
  .cases h
theorem Hi{P:Program}{E:su}{nt:Nat}{ops:Array Oper}{Q:Exit->Act->World->Prop}{K:St->List MQ->Prop}
 (G:∀S rs,K S rs-> ∀B a w,mg E nt B S.t S.h a w->Q .normal a w):
 ∀(l:List Oper) (i:Nat) (S:St) (rs:List MQ) (B:nE) (a:Act) (w:World),ops.toList.drop i=l->lM P E nt ops l S rs K->mg E nt B S.t S.h a w->wpOps P ops Q (List.range' i l.length) a w
 | [],i,S,rs,B,a,w,_,h,r=>G S rs h B a w r
 |o::l,i,S,rs,B,a,w,g,h,r=>by
  have hi:i<ops.size:=by exact dm
  rw[ts jz]at g;injection g with b c;have U:ops[i]?=some o:=by rw[<-b];simp
  rw[sc,H8];simp only[wpOps,U];obtain⟨J,⟨j,m⟩,h⟩:=h;rw[<-j,<-m]at r;have R:=St.T2 J o.dst;have d:=St.T3 J o.dst;rcases h with⟨f,rh,e,F,y⟩|⟨f,n,y⟩
  .rw[kx (rf r f)];refine .inl (F J.t J.h (λ_ _=>rfl) (λ_ _=>rfl) (λ_ _=>rfl) B a w r _ _ λB' W w' k=>?_);rw[<-R,<-d]at k;exact Hi G l (i+1) _ _ B' W w' c y k
  .rw[ku (by rw[rf r f];simp)];have k:=r.undef n;have p:=R ⟨.mz [],[]⟩;have z:=d ⟨.mz [],[]⟩;simp only[nA]at z;rw[<-p,<-z]at k;exact Hi G l (i+1) _ _ B _ w c y k
structure tP where
 want:Bool
 rh:List Nat
 e:Eff
instance :Inhabited tP:=⟨⟨false,[],⟨.mz [],[]⟩⟩⟩
def tP.HC(x:tP):MQ:=⟨x.rh,x.e.wr.map (·.1)⟩
abbrev Sp:=(Nat->Option AV)×Hp
def H5(s:Sp)(o:Oper)(x:tP):Sp:=(zl s.1 o.dst x.e.val,nA s.2 x.e.wr)
def fs(o:Nat->Oper)(x:Nat->tP)(L:Nat->Bool)(s:Sp):Nat->Sp
 |0=>s
 |k+1=>if L k then H5 (fs o x L s k) (o k) (x k)else fs o x L s k
def Rq(P:Program)(E:su)(nt:Nat)(ops:Array Oper)(o:Oper)(x:tP)(s:Sp):Prop:=
 kN ops o s.1=some x.want/\(x.want=true->kE P E nt ops o s.1 s.2 x.rh x.e)/\(x.want=false->lK nt o.dst=true/\x.e=⟨.mz [],[]⟩)
def tO:Nat->Bool:=λ_=>true
theorem LI(o:Nat->Oper)(x:Nat->tP)(s:Sp):∀k,fs o x tO s (k+1)=fs (λi=>o (i+1)) (λi=>x (i+1)) tO (H5 s (o 0) (x 0)) k
 |0=>by simp[fs,tO]
 |k+1=>by
  have y:=LI o x s k;rw[fs,y];simp[fs,tO]
theorem Uz{P:Program}{E:su}{nt:Nat}{ops:Array Oper}{K:St->List MQ->Prop}:∀(l:List Oper) (S:St) (rs:List MQ),lM P E nt ops l S rs K->
 ∃x:List tP,x.length=l.length/\(∃S',K S' (rs++x.map tP.HC)/\(S'.t,S'.h)=fs (λi=>l.getD i default) (λi=>x.getD i default) tO (S.t,S.h) l.length)/\
  ∀i,i<l.length->Rq P E nt ops (l.getD i default) (x.getD i default) (fs (λi=>l.getD i default) (λi=>x.getD i default) tO (S.t,S.h) i)
 | [],S,rs,h=>⟨[],rfl,⟨S,by simp only[lM]at h;simpa using h,rfl⟩,λi hi=>absurd hi ki⟩
 |o::l,S,rs,h=>by
  obtain⟨z,⟨c,d⟩,h⟩:=h;rw[<-c,<-d];clear c d
  have oY:∀(y:tP),Rq P E nt ops o y (z.t,z.h)->lM P E nt ops l (z.app o.dst y.e) (rs++[y.HC]) K-> ∃x:List tP,x.length=(o::l).length/\(∃S',K S' (rs++x.map tP.HC)/\(S'.t,S'.h)=fs (λi=>(o::l).getD i default) (λi=>x.getD i default) tO (z.t,z.h) (o::l).length)/\
   ∀i,i<(o::l).length->Rq P E nt ops ((o::l).getD i default) (x.getD i default) (fs (λi=>(o::l).getD i default) (λi=>x.getD i default) tO (z.t,z.h) i):=by
   intro y F H;obtain⟨x,a,⟨S',b,k⟩,A⟩:=Uz l _ _ H;exact aS
  rcases h with⟨f,rh,e,G,H⟩|⟨f,n,H⟩
  .exact oY ⟨true,rh,e⟩ ⟨f,λ_=>G,λh=>by cases h⟩ H
  .exact oY ⟨false,[],⟨.mz [],[]⟩⟩ ⟨f,(λh=>absurd h ki),λ_=>⟨n,rfl⟩⟩ H
def afJ(ops:Array Oper)(e:Oper)(r1:MQ)(o2:Oper)(r2:MQ):Bool:=
 (match e.dst with|some d=>(o2.looksAt ops).contains d||o2.dst==some d|none=>false)||
 (match o2.dst with|some d=>(e.looksAt ops).contains d|none=>false)||
 r1.wr.any (λg=>r2.rh.contains g||r2.wr.contains g)||r2.wr.any (λg=>r1.rh.contains g)
structure xp(ops:Array Oper)(o1:Oper)(x1:tP)(o2:Oper)(x2:tP):Prop where
 t12:∀d,o1.dst=some d->d∉o2.looksAt ops
 t21:∀d,o2.dst=some d->d∉o1.looksAt ops
 tt:∀d,o1.dst=some d->o2.dst≠some d
 h12:∀p∈x1.e.wr,p.1∉x2.rh
 h21:∀p∈x2.e.wr,p.1∉x1.rh
 hh:∀p∈x1.e.wr,∀q∈x2.e.wr,p.1≠q.1
variable {o1 o2:Oper}{x1 x2:tP}
def aif(h:afJ ops o1 x1.HC o2 x2.HC=false):xp ops o1 x1 o2 x2:=by
 unfold afJ at h;simp only[af7,tP.HC,Xf,sM,wu,List.contains_iff_mem,not_or]at h;obtain⟨⟨⟨a,b⟩,k⟩,A⟩:=h;refine⟨λd n=>?_,λd n=>?_,λd n=>?_,λp X=>?_,λp X=>?_,λp X q c=>?_⟩
 .rw[n]at a;simp at a;exact a.1
 .rw[n]at b;simpa using b
 .rw[n]at a;simp at a;exact a.2
 .exact(k p.1 ⟨p,X,rfl⟩).1
 .exact A p.1 ⟨p,X,rfl⟩
 .have:=(k p.1 ⟨p,X,rfl⟩).2;exact λe=>this ⟨q,c,e.symm⟩
theorem Pk{H:Hp}:∀{l:List (Nat×Bx)} {g:Nat},(∀p∈l,p.1≠g)->nA H l g=H g
 | [],g,_=>rfl
 |(k,b)::l,g,h=>by rw[nA,kF _ _ (pv (h _ oO))];exact Pk λp X=>h p (nV _ X)
theorem KQ{H H':Hp}{g:Nat}(h:H g=H' g):∀(l:List (Nat×Bx)),nA H l g=nA H' l g
 | []=>h
 |(k,b)::l=>by
  simp only[nA,l9];split
  .rfl
  .exact KQ h l
theorem RY{H:Hp}{k:Nat}{b:Bx}:∀{l:List (Nat×Bx)},(∀p∈l,p.1≠k)->nA (l9 H k b) l=l9 (nA H l) k b
 | [],_=>rfl
 |(j,c)::l,h=>by
  have i:=h _ oO;rw[nA,nA,RY λp X=>h p (nV _ X),RX _ _ _ i]
theorem NI{H:Hp}{l:List (Nat×Bx)}:∀{m:List (Nat×Bx)},(∀p∈l,∀q∈m,p.1≠q.1)->nA (nA H l) m=nA (nA H m) l
 | [],_=>rfl
 |(k,b)::m,h=>by have a:nA (nA H l) m=nA (nA H m) l:=NI λp X q c=>h p X q (nV _ c);rw[nA,nA,a,RY λp X=>h p X (k,b) oO]
variable {d:Option Nat}
def aas{c:Option Nat}{x y:AV}(h:∀i,c=some i->d≠some i):zl (zl T c x) d y=zl (zl T d y) c x:=by
 cases c with
 |none=>rfl
 |some i=>
  cases d with
  |none=>rfl
  |some j=>exact RX _ _ _ (λe=>h i O ke)
def abQ(h:xp ops o1 x1 o2 x2)(s:Sp):H5 (H5 s o1 x1) o2 x2=H5 (H5 s o2 x2) o1 x1:=by
 simp only[H5];rw[aas h.tt,NI h.hh]
def XT{x:AV}{s:Nat}(h:d≠some s):zl T d x s=T s:=by
 cases d with
 |none=>rfl
 |some d=>exact kF _ _ (λe=>h ke)
variable {T':Nat->Option AV}
def Vj{s:Nat}(h:T s=T' s)(d:Option Nat)(x:AV):zl T d x s=zl T' d x s:=by
 cases d with
 |none=>exact h
 |some d=>
  simp only[zl,l9];split
  .rfl
  .exact h
section
variable {o:Nat->Oper}{x:Nat->tP}{s:Sp}
def DY(L:Nat->Bool)(i:Nat):Nat->Bool:=λk=>if k=i then true else L k
theorem F0{L q:Nat->Bool}:∀{k:Nat},(∀j,j<k->L j=q j)->fs o x L s k=fs o x q s k
 |0,_=>rfl
 |k+1,h=>by
  simp only[fs];rw[h k kh,F0 λj i=>h j kh]
theorem WA{L:Nat->Bool}{i:Nat}(hi:L i=false):∀(k:Nat),i<k->(∀j,i<j->j<k->L j=true->xp ops (o i) (x i) (o j) (x j))->fs o x (DY L i) s k=H5 (fs o x L s k) (o i) (x i)
 |0,h,_=>absurd h kh
 |k+1,h,u=>by
  by_cases w:k=i
  .subst w;have e:fs o x (DY L k) s k=fs o x L s k:=F0 λj l=>by simp[DY,show j≠k by omega]
   simp[fs,DY,hi,e]
  .have y:=WA (L:=L) hi k kh (λj a b m=>u j a kh m);have e:DY L i k=L k:=by simp[DY,w]
   simp only[fs,e,y];cases hL:L k
   .simp
   .simp[abQ (u k kh kh hL)]
theorem alF{L:Nat->Bool}{i d:Nat}(hi:L i=false):∀(k:Nat),(∀j,j<i->j<k->L j=false->(o j).dst≠some d)->(∀j,i<j->j<k->L j=true->(o j).dst≠some d)->(fs o x L s k).1 d=(fs o x tO s (min k i)).1 d
 |0,_,_=>by simp[fs]
 |k+1,f,g=>by
  have y:=alF (L:=L) hi k (λj a b c=>f j a kh c) (λj a b c=>g j a kh c);by_cases E:k<i
  .have P:min k i=k:=by omega
   have l:min (k+1) i=k+1:=eY;rw[P]at y;rw[l];cases hL:L k
   .simp only[fs,hL,tO];simp only[tu,rL,oQ];rw[y];exact(XT (f k E kh hL)).symm
   .simp only[fs,hL,tO];simp only[oQ];exact Vj y _ _
  .have P:min k i=i:=by omega
   have l:min (k+1) i=i:=eY;rw[P]at y;rw[l];cases hL:L k
   .simp only[fs,hL];exact y
   .simp only[fs,hL];simp only[oQ];have m:i≠k:=λe=>fg;exact(XT (g k kh kh hL)).trans y
theorem alG{L:Nat->Bool}{i g:Nat}(hi:L i=false):∀(k:Nat),(∀j,j<i->j<k->L j=false-> ∀p∈(x j).e.wr,p.1≠g)->(∀j,i<j->j<k->L j=true-> ∀p∈(x j).e.wr,p.1≠g)->(fs o x L s k).2 g=(fs o x tO s (min k i)).2 g
 |0,_,_=>by simp[fs]
 |k+1,d,f=>by
  have y:=alG (L:=L) hi k (λj a b c=>d j a kh c) (λj a b c=>f j a kh c);by_cases E:k<i
  .have P:min k i=k:=by omega
   have l:min (k+1) i=k+1:=eY;rw[P]at y;rw[l];cases hL:L k
   .simp only[fs,hL,tO];simp only[tu,rL,oQ];rw[y];exact(Pk (d k E kh hL)).symm
   .simp only[fs,hL,tO];simp only[oQ];exact KQ y _
  .have P:min k i=i:=by omega
   have l:min (k+1) i=i:=eY;rw[P]at y;rw[l];cases hL:L k
   .simp only[fs,hL];exact y
   .simp only[fs,hL];simp only[oQ];have m:i≠k:=λe=>fg;exact(Pk (f k kh kh hL)).trans y
end
def Bo(o:Oper):List Nat:=o.after.toList.filterMap λe=>if Region.binds .any e then some e.on else none
def YK:List Oper->List Nat->List Nat
 | [],acc=>acc
 |o::l,acc=>YK l (acc++[(Bo o).foldl (λm p=>m|||(1<<<p)|||acc.getD p 0) 0])
def T4(ops:List Oper)(A:List Nat):Bool:=
 (List.range ops.length).all λj=>(List.range j).all λi=> !(A.getD j 0).testBit i||(Bo (ops.getD j default)).any λp=>p==i||(decide (p<j)&&decide (i<p)&&(A.getD p 0).testBit i)
def ly(ops:Array Oper)(a:List MQ):Bool:=
 let l:=ops.toList
 let A:=YK l []
 decide (a.length=l.length)&&(List.range l.length).all (λj=>(Bo (l.getD j default)).all (· <j))&&T4 l A&&
 (List.range l.length).all λj=>(List.range j).all λi=>(A.getD j 0).testBit i|| !afJ ops (l.getD i default) (a.getD i ⟨[],[]⟩) (l.getD j default) (a.getD j ⟨[],[]⟩)
theorem Qw{ops:List Oper}{A:List Nat}(Y:T4 ops A=true){L:Nat->Bool}(hL:∀j,j<ops.length->L j=true-> ∀p∈Bo (ops.getD j default),L p=true):
 ∀(j:Nat),j<ops.length-> ∀i,i<j->(A.getD j 0).testBit i=true->(∀p∈Bo (ops.getD j default),L p=true)->L i=true:=by
 intro j
 induction j using Nat.strongRecOn with
 |_ j y=>
  intro k i hi hb X;have h:=Y;unfold T4 at h;rw[mq]at h;have a:=h j (by simpa using k);rw[mq]at a;have b:=a i jz;rw[hb]at b;simp only[Mf,Bool.false_or,Xe,wu,H7,l5,nO]at b;obtain⟨p,E,l⟩:=b;rcases l with rfl|⟨⟨c,e⟩,d⟩
  .exact X _ E
  .exact y p c kh i e d (hL p kh (X p E))
variable {i:Nat}
variable {S:St}{K:St->List MQ->Prop}
section
variable {Q:Exit->Act->World->Prop}{x:Nat->tP}{s:Sp}{A:List Nat}
abbrev nv(ops:Array Oper):Nat->Oper:=λi=>ops.toList.getD i default
def lI(l:Array Bool):Nat->Bool:=λi=>l.getD i false
structure aoc(P:Program)(E:su)(nt:Nat)(ops:Array Oper)(x:Nat->tP)(s:Sp)(A:List Nat):Prop where
 Cu:∀i,i<ops.size->Rq P E nt ops (nv ops i) (x i) (fs (nv ops) x tO s i)
 pre:∀j,j<ops.size-> ∀p∈Bo (nv ops j),p<j
 anc:T4 ops.toList A=true
 free:∀j,j<ops.size-> ∀i,i<j->(A.getD j 0).testBit i=true∨xp ops (nv ops i) (x i) (nv ops j) (x j)
def ajs(ops:Array Oper)(L:Nat->Bool):Prop:=∀j,j<ops.size->L j=true-> ∀p∈Bo (nv ops j),L p=true
def C6{l:Array Bool}(o:l.size=ops.size){i:Nat}:i∈Region.ready .any ops l↔i<ops.size/\lI l i=false/\ ∀p∈Bo (nv ops i),lI l p=true:=by
 unfold Region.ready;rw[tr,EP];constructor
 .rintro⟨hi,h⟩;rw[l5]at h;obtain⟨a,b⟩:=h;have U:ops[i]?=some (nv ops i):=by simp[nv,hi]
  rw[U]at b;simp only[Option.map_some,Option.getD_some,Array.all_eq_true',wu,Qy]at b;refine⟨hi,?_,λp X=>?_⟩
  .have D:i<l.size:=by omega
   simp[D,Array.getD]at a;simp[lI,Array.getD,D,a]
  .unfold Bo at X;rw[Xd]at X;obtain⟨e,L,k⟩:=X;split at k
   .rename_i hb;injection k with k;subst k;rcases b e (by simpa using L)with h4|h4
    .rw[hb]at h4;cases h4
    .exact h4
   .cases k
 .rintro⟨hi,a,b⟩;have U:ops[i]?=some (nv ops i):=by simp[nv,hi]
  refine⟨hi,?_⟩;rw[l5,U];refine⟨?_,?_⟩
  .have D:i<l.size:=by omega
   simp[lI,Array.getD,D]at a;simp[Array.getD,D,a]
  .simp only[Option.map_some,Option.getD_some,Array.all_eq_true',wu,Qy];intro e L;cases hb:Region.binds .any e
   .exact .inl O
   .refine .inr (b e.on ?_);unfold Bo;rw[Xd];exact⟨e,by simpa using L,by simp[hb]⟩
def Mk{l:Array Bool}(o:l.size=ops.size)(r:∀j,j<ops.size-> ∀p∈Bo (nv ops j),p<j)(h:Region.ready .any ops l= []):∀j,j<ops.size->lI l j=true:=by
 intro j
 induction j using Nat.strongRecOn with
 |_ j y=>
  intro i;cases g:lI l j
  .have:j∈Region.ready .any ops l:=(C6 o).2 ⟨i,g,λp X=>y p (r j i p X) (by have:=r j i p X;omega)⟩;rw[h]at this;cases this
  .rfl
def D0{o:Oper}(h:∀d∈o.looksAt ops,T' d=T d):kN ops o T'=kN ops o T:=by
 unfold kN;split
 .rfl
 .rename_i j b t;cases n:(ops[j]?).bind (·.dst)with
  |none=>rfl
  |some d=>
   have:T' d=T d:=h d (by unfold Oper.looksAt;rw[t];simp[n]);simp only[Option.bind_some,this]
def vr{l:Array Bool}(h:i<l.size):lI (l.setIfInBounds i true)=DY (lI l) i:=by
 funext j;simp only[lI,DY,CK,CL];by_cases k:j=i
 .subst k;simp[h]
 .simp[k,pv k]
theorem afI{L:Nat->Bool}{i:Nat}:∀n,n<=i->(List.range n).countP (λk=> !DY L i k)=(List.range n).countP (λk=> !L k)
 |0,_=>rfl
 |n+1,h=>by
  rw[EO,EN,EN,afI n kh];simp[DY,show n≠i by omega]
theorem WR{L:Nat->Bool}{i:Nat}(hL:L i=false):∀n,i<n->(List.range n).countP (λk=> !DY L i k)+1=(List.range n).countP (λk=> !L k)
 |0,h=>absurd h kh
 |n+1,h=>by
  rw[EO,EN,EN];by_cases hn:n=i
  .subst hn;rw[afI n (kK _)];simp[DY,hL]
  .have y:=WR hL n kh;have e: [n].countP (λk=> !DY L i k)= [n].countP (λk=> !L k):=by simp[DY,hn]
   rw[e];omega
theorem Ve(N:aoc P E nt ops x s A)(T:∀B a w,mg E nt B (fs (nv ops) x tO s ops.size).1 (fs (nv ops) x tO s ops.size).2 a w->Q .normal a w):
 ∀(V:Nat) (l:Array Bool) (B:nE) (a:Act) (w:World),l.size=ops.size->ajs ops (lI l)->(List.range ops.size).countP (λi=> !lI l i)<=V->
  mg E nt B (fs (nv ops) x (lI l) s ops.size).1 (fs (nv ops) x (lI l) s ops.size).2 a w->wpAny P .any ops Q V l a w:=by
 have done:∀(l:Array Bool) (B:nE) (a:Act) (w:World),l.size=ops.size->Region.ready .any ops l= []->mg E nt B (fs (nv ops) x (lI l) s ops.size).1 (fs (nv ops) x (lI l) s ops.size).2 a w->Q .normal a w:=by
  intro l B a w y H r;have e:fs (nv ops) x (lI l) s ops.size=fs (nv ops) x tO s ops.size:=F0 λj n=>Mk y N.pre H j n;rw[e]at r;exact T B a w r
 intro V
 induction V with
 |zero=>
  exact aK
 |succ V F=>
  intro l B a w y v C r;refine⟨λH=>done l B a w y H r,λi hi=>?_⟩;rw[C6 y]at hi;obtain⟨R,m,X⟩:=hi;have U:ops[i]?=some (nv ops i):=by simp[nv,R]
  have lo:∀j,j<i->lI l j=false->xp ops (nv ops j) (x j) (nv ops i) (x i):=by
   intro j n M;rcases N.free i R j n with h|h
   .have:=Qw N.anc (L:=lI l) (λj n=>v j jG) i (by simpa using R) j n h X;rw[this]at M;cases M
   .exact h
  have S:∀j,i<j->j<ops.size->lI l j=true->xp ops (nv ops i) (x i) (nv ops j) (x j):=by
   intro j n hjn M;rcases N.free j hjn i n with h|h
   .have:=Qw N.anc (L:=lI l) (λj n=>v j jG) j (by simpa using hjn) i n h (v j hjn M);rw[this]at m;cases m
   .exact h
  have em:min ops.size i=i:=eY
  have at_:∀d∈(nv ops i).looksAt ops,(fs (nv ops) x (lI l) s ops.size).1 d=(fs (nv ops) x tO s i).1 d:=by
   intro d hdm;have:=alF (o:=nv ops) (x:=x) (s:=s) (d:=d) m ops.size (λj b c u e=>(lo j b u).t12 d e hdm) (λj b c u e=>(S j b c u).t21 d e hdm);rwa[em]at this
  have ah:∀g,(g∈(x i).rh∨ ∃p∈(x i).e.wr,p.1=g)->(fs (nv ops) x (lI l) s ops.size).2 g=(fs (nv ops) x tO s i).2 g:=by
   intro g z
   have:=alG (o:=nv ops) (x:=x) (s:=s) (g:=g) m ops.size
    (λj b c u p X e=>by
     rcases z with z|⟨q,f,rfl⟩
     .exact(lo j b u).h12 p X (e▸z)
     .exact(lo j b u).hh p X q f e)
    (λj b c u p X e=>by
     rcases z with z|⟨q,f,rfl⟩
     .exact(S j b c u).h21 p X (e▸z)
     .exact(S j b c u).hh q f p X e.symm)
   rwa[em]at this
  obtain⟨J,I,K⟩:=N.Cu i R
  have Z:fs (nv ops) x (lI (l.setIfInBounds i true)) s ops.size=H5 (fs (nv ops) x (lI l) s ops.size) (nv ops i) (x i):=by rw[<-WA m ops.size R S,vr kh]
  have hdown:ajs ops (lI (l.setIfInBounds i true)):=by
   intro j n M p hpm;rw[vr kh]at M⊢;simp only[DY]at M⊢;split
   .rfl
   .by_cases h:j=i
    .subst h;exact X p hpm
    .rw[ku h]at M;exact v j n M p hpm
  have hcount:(List.range ops.size).countP (λk=> !lI (l.setIfInBounds i true) k)<=V:=by
   rw[vr kh];have:=WR m ops.size R;omega
  unfold wpOp;simp only[U];have D:kN ops (nv ops i) (fs (nv ops) x (lI l) s ops.size).1=some (x i).want:=(D0 at_).trans J;split
  .rename_i Y;rw[rf r D]at Y;refine .inl (I Y _ _ at_ (λg z=>ah g (.inl z)) (λp X=>ah p.1 (.inr ⟨p,X,rfl⟩)) B a w r _ _ λB' W w' G=>?_);refine F _ B' W w' jH hdown hcount ?_;rw[Z];exact G
  .rename_i Y;rw[rf r D]at Y;obtain⟨b,c⟩:=K jI;refine F _ B _ w jH hdown hcount ?_;rw[Z,H5,c];exact r.undef b
theorem ND(H:∀S' rs,K S' rs->ly ops rs=true/\ ∀B a w,mg E nt B S'.t S'.h a w->Q .normal a w)(h:lM P E nt ops ops.toList S [] K){B:nE}{a:Act}{w:World}(r:mg E nt B S.t S.h a w):
 wpAny P .any ops Q ops.size (Array.replicate ops.size false) a w:=by
 obtain⟨G,b,⟨S',c,o⟩,A⟩:=Uz _ _ _ h;obtain⟨F,I⟩:=H _ _ c;rw[EM]at F;unfold ly at F;simp only[l5,nO]at F;obtain⟨⟨⟨e,k2⟩,k3⟩,q⟩:=F;have g:ops.toList.length=ops.size:=e1;rw[g]at b o A k2 q
 let x:Nat->tP:=λi=>G.getD i default
 have n:∀i,i<ops.size->(G.map tP.HC).getD i ⟨[],[]⟩=(x i).HC:=by
  intro i hi;have:i<G.length:=eY;simp[x,nI,this]
 have pl:aoc P E nt ops x (S.t,S.h) (YK ops.toList []):=by exact aG
 have f:fs (nv ops) x tO (S.t,S.h) ops.size=(S'.t,S'.h):=o.symm
 have t:∀i,lI (Array.replicate ops.size false) i=false:=by
  intro i;simp only[lI,CK,af6];split<;>rfl
 have u:∀k,fs (nv ops) x (lI (Array.replicate ops.size false)) (S.t,S.h) k=(S.t,S.h):=by
  intro k
  induction k with
  |zero=>rfl
  |succ k y=>simp only[fs,t k];exact y
 refine Ve pl (λB a w s=>?_) ops.size _ B a w ki (λj m h=>by rw[t]at h;cases h) ?_ ?_
 .rw[f]at s;exact I B a w s
 .have:=H6 (p:=λi=> !lI (Array.replicate ops.size false) i) (l:=List.range ops.size);simpa using this
 .rw[u];exact r
end
def kv(T:Nat->Option AV):Operand->Option AV
 | .tmp t=>T t
 | .const v=>if sB v then some (.v v)else none
 | .func f=>some (.fn (.func f) [] [])
 | .global _=>none
section
def mg.eval(r:mg E nt B T H a w){x:Operand}{v:AV}(h:kv T x=some v):qJ (kI E B H) w B H v (a.eval x):=by
 cases x with
 |tmp t=>
  obtain⟨u,b,d⟩:=r.tmp t v h;have:a.eval (.tmp t)=u:=by simp[Act.eval,b]
  rw[this];exact d
 |const c=>
  simp only[kv]at h;split at h
  .rename_i X;injection h with h;subst h;rw[kJ ki];exact⟨[c],by simp[Rd,X],rfl⟩
  .cases h
 |func f=>
  simp only[kv]at h;injection h with h;subst h;rw[kJ ki];exact⟨_,by simp only[Rd];exact⟨[],[],rfl,by simp[oe],by simp[oe]⟩,rfl⟩
 |global g=>simp[kv]at h
def nM{x:Value}:qJ U w B H (.v x) v↔sB x=true/\v=x:=by exact co
def mg.od(r:mg E nt B T H a w){x:Operand}{v:Value}(h:kv T x=some (.v v)):a.eval x=v:=(nM.1 (r.eval h)).2
def mg.drew(r:mg E nt B T H a w):mg E nt B T H a w.drew:=⟨r.nt,r.df,λs x h=>by
 obtain⟨v,d,f⟩:=r.tmp s x h;exact⟨v,d,vE (nK.oD (pr.refl w).drew) (λ_ _ _ h=>h) ⟨λ_ _ _ h=>h,λ_ h=>h,λ_ _ _ _ _ h=>h,λ_ _ _ _ _ h=>h,λ_ h=>⟨h,rfl⟩⟩ f⟩,λg bx h=>by
 have hb:=r.box g bx h;have p:qt w w.drew B B H H:=⟨λ_ _ _ h=>h,λ_ h=>h,λ_ _ _ _ _ h=>h,λ_ _ _ _ _ h=>h,λ_ h=>⟨h,rfl⟩⟩;cases bx with
 |var x=>
  obtain⟨b,cs,t,d,f,l,A⟩:=hb;exact⟨b,cs,t,d,f,n6 (nK.oD (pr.refl w).drew) (λ_ _ _ h=>h) x p l,A⟩
 |froz x=>
  obtain⟨b,cs,d,f,l,A⟩:=hb;exact⟨b,cs,d,f,l,n6 (nK.oD (pr.refl w).drew) (λ_ _ _ h=>h) x p A⟩
 |hid=>exact hb
 |ext M=>exact⟨hb.1,hb.2.go O O (λ_ _ _=>rfl) (nK.oD (pr.refl w).drew) (λ_ _ _ h=>h)⟩
 |tail e n k=>exact hb
 |own e n G=>
  refine⟨hb.1,hb.2.1,hb.2.2.imp id ?_⟩;rintro⟨b,cur,cap,c,i,k2,k3,m,F,y,j,U⟩;exact⟨b,cur,cap,c,i,k2,k3,m,F,y,nr (nK.oD (pr.refl w).drew) (λ_ _ _ h=>h) n G (qt.nj _ _) j,U⟩,r.x3,r.inj,⟨r.left.os,r.left.tape,r.left.output,r.left.size,r.left.block,r.left.evo.trans (nK.oD (pr.refl w).drew)⟩,r.qa,r.fx.go O (kK _) λ_ _ d f=>.inl ⟨d,f⟩⟩
end
def AW(P:Program)(E:su)(nt:Nat)(c:Code)(S:St)(Q:Exit->St->Prop):Prop:=
 ∀B a w,mg E nt B S.t S.h a w->c.wp P (λe W w'=>∃B' S',mg E nt B' S'.t S'.h W w'/\Q e S') a w
def mC(K:St->Prop)(Q:Exit->St->Prop):Exit->St->Prop
 | .normal,S=>K S
 | .outgrown,_=>False
 |e,S=>Q e S
def lj(id:Nat)(Q:Exit->St->Prop):Exit->St->Prop
 | .exit c,S=>if c=id then Q .normal S else Q (.exit c) S
 |e,S=>Q e S
def lT(Q:Exit->St->Prop):Exit->St->Prop
 | .goto _,_=>False
 |e,S=>Q e S
variable {Q:Exit->St->Prop}
variable {Q':Exit->St->Prop}
section
def AW.mono{c:Code}(h:AW P E nt c S Q)(d:∀e S,Q e S->Q' e S):AW P E nt c S Q':=λB a w r=>
 vz (h B a w r) λe a w ⟨B',S',h1,h2⟩=>⟨B',S',h1,d _ _ h2⟩
def G4(h:Q .normal S):AW P E nt .skip S Q:=λB a w r=>wp_skip ⟨B,S,r,h⟩
def MJ(h:Q .ret S):AW P E nt .ret S Q:=λB a w r=>wp_ret ⟨B,S,r,h⟩
def G7{id:Nat}(h:Q (.exit id) S):AW P E nt (.exit id) S Q:=λB a w r=>wp_exit ⟨B,S,r,h⟩
def Ij{x y:Code}(h:AW P E nt x S (mC (λS'=>AW P E nt y S' Q) Q)):AW P E nt (.seq x y) S Q:=λB a w r=>
 wp_seq (vz (h B a w r) λe a w ⟨B',S',b,d⟩=>by
  cases e with
  |normal=>exact d B' a w b
  |outgrown=>exact d.elim
  |exit id=>exact⟨B',S',b,d⟩
  |goto l=>exact⟨B',S',b,d⟩
  |ret=>exact⟨B',S',b,d⟩
  |panic c=>exact⟨B',S',b,d⟩)
def CQ{id:Nat}{c:Code}(h:AW P E nt c S (lj id Q)):AW P E nt (.block id c) S Q:=λB a w r=>
 wp_block (vz (h B a w r) λe a w ⟨B',S',h1,h2⟩=>by
  cases e with
  |exit d=>
   exact cj
  |normal=>exact⟨B',S',h1,h2⟩
  |outgrown=>exact⟨B',S',h1,h2⟩
  |goto l=>exact⟨B',S',h1,h2⟩
  |ret=>exact⟨B',S',h1,h2⟩
  |panic c=>exact⟨B',S',h1,h2⟩)
def ajx{c:Operand}{x y:Code}(b:Bool)(u:kv S.t c=some (.v (.bool b)))(d:b=true->AW P E nt x S Q)(e:b=false->AW P E nt y S Q):AW P E nt (.cond c x y) S Q:=λB a w r=>
 wp_cond_split (r.od u) (λhb=>d hb B a w r) (λhb=>e hb B a w r)
def acd{id:Nat}(h:lM P E nt ops ops.toList S [] (λS' _=>Q .normal S')):AW P E nt (.region id ops false) S Q:=λB a w r=>by
 refine wp_region ?_;have:=Hi (P:=P) (Q:=λe W w'=>∃B' S',mg E nt B' S'.t S'.h W w'/\Q e S') (λS rs F B a w r=>⟨B,S,r,F⟩) ops.toList 0 S [] B a w O h r;rw[Me];simpa using this
def ajw{id:Nat}(T:P.follows .mixedOrders=true)(h:lM P E nt ops ops.toList S [] (λS' rs=>ly ops rs=true/\Q .normal S')):AW P E nt (.region id ops true) S Q:=λB a w r=>
 wp_region_any T (ND (Q:=λe W w'=>∃B' S',mg E nt B' S'.t S'.h W w'/\Q e S') (λS rs F=>⟨F.1,λB a w r=>⟨B,S,r,F.2⟩⟩) h r.drew)
end
mutual
def mO:AV->Bool
 | .v _=>true
 | .agg _ fs=>sL fs
 | .arr _ _ _=>true
 | .ref _=>true
 | .sl none _ _=>true
 | .sl (some _) _ _=>false
 | .ptr _ _ _=>false
 | .seg _ _ _ _ _ _=>false
 | .mz vs=>sL vs
 | .fn _ a b=>sL a&&sL b
 | .ifc _ x=>mO x
 | .own _ _ _ _=>false
 | .raw _ _ _=>true
 | .hv _=>false
def sL:List AV->Bool
 | []=>true
 |x::l=>mO x&&sL l
end
section
variable {H':Hp}
mutual
theorem pQ:∀(x:AV),mO x=true-> ∀{cs:List Value},Rd U w x B H cs->Rd U w x B' H' cs
 | .v x,_,_,h=>e9
 | .agg n fs,d,_,h=>by
  simp only[Rd]at h⊢;exact⟨h.1,Ut fs (by simpa[mO]using d) h.2⟩
 | .arr m n G,_,_,h=>e9
 | .ref x,_,_,h=>e9
 | .sl none n G,_,_,h=>e9
 | .sl (some t) n G,d,_,_=>fh
 | .ptr _ _ _,d,_,_=>fh
 | .seg _ _ _ _ _ _,d,_,_=>fh
 | .mz _,_,_,h=>fc
 | .fn f a b,d,_,h=>by
  simp only[Rd]at h⊢;simp only[mO,l5]at d;obtain⟨c1,c2,h1,h2,h3⟩:=h;exact⟨c1,c2,h1,rz a d.1 h2,rz b d.2 h3⟩
 | .ifc t x,d,_,h=>by
  simp only[Rd]at h⊢;obtain⟨c,h1,h2⟩:=h;exact⟨c,pQ x (by simpa[mO]using d) h1,h2⟩
 | .own _ _ _ _,d,_,h=>fh
 | .raw _ _ _,_,_,h=>e9
 | .hv _,d,_,h=>fh
theorem Ut:∀(G:List AV),sL G=true-> ∀{cs:List Value},qQ U w G B H cs->qQ U w G B' H' cs
 | [],_,_,h=>fd
 |x::G,d,_,h=>by
  simp only[qQ]at h⊢;simp only[sL,l5]at d;obtain⟨c1,c2,h1,h2,h3⟩:=h;exact⟨c1,c2,h1,pQ x d.1 h2,Ut G d.2 h3⟩
theorem rz:∀(G:List AV),sL G=true-> ∀{cs:List Value},oe U w G B H cs->oe U w G B' H' cs
 | [],_,_,h=>ff
 |x::G,d,_,h=>by
  simp only[oe]at h⊢;simp only[sL,l5]at d;obtain⟨c,vs,h1,h2,h3⟩:=h;exact⟨c,vs,h1,pQ x d.1 h2,rz G d.2 h3⟩
end
def t4:∀(x:AV) {cs:List Value},Rd U w x B0 H0 cs->Rd U w x B H cs:=λx cs h=>
 n6 (nK.refl U w) (λ_ _ _ h=>h) x ⟨λg b h _=>by simp[H0,pH]at h,λg h=>by simp[H0,pH]at h,λt n len A cap h=>by obtain⟨e,k,h,_⟩:=h;simp[H0]at h,λg n len k v h=>by obtain⟨e,G,h,_⟩:=h;simp[H0]at h,λg h=>by simp[H0]at h⟩ h
def G1{x:AV}(h:qJ U w B0 H0 x v):qJ U w B H x v:=
 vE (nK.refl U w) (λ_ _ _ h=>h) ⟨λg b h _=>by simp[H0,pH]at h,λg h=>by simp[H0,pH]at h,λt n len A cap h=>by obtain⟨e,k,h,_⟩:=h;simp[H0]at h,λg n len k v h=>by obtain⟨e,G,h,_⟩:=h;simp[H0]at h,λg h=>by simp[H0]at h⟩ h
def Be(n:∀b o,U' b o->U b o){x:AV}{v:Value}(h:qJ U w B H x v):qJ U' w B H x v:=
 vE (nK.refl U w) (λb o _ h=>n b o h) ⟨λ_ _ _ h=>h,λ_ h=>h,λ_ _ _ _ _ h=>h,λ_ _ _ _ _ h=>h,λ_ h=>⟨h,rfl⟩⟩ h
end
variable {len cap:Nat}
section
def Ei.ext{t:Nat}{A:Option Addr}(h:Ei w B H t n len A cap)(e:pr w w'):Ei w' B H t n len A cap:=by
 obtain⟨ty,k,a,c,l⟩:=h;refine⟨ty,k,a,c,λx=>⟨(l x).1,λb hb=>?_⟩⟩;obtain⟨C,cur,D,P⟩:=(l x).2 b hb;exact⟨C,cur,e.heap D,P⟩
def qt.ext(e:pr w w'):qt w w' B B H H:=⟨λ_ _ _ h=>h,λ_ h=>h,λ_ _ _ _ _ h=>h.ext e,sC (nK.oD (U:=λ_ _=>False) e) (λ_ _ _ _ h=>⟨h,rfl⟩),λ_ h=>⟨h,rfl⟩⟩
def Ih.ext(l:Ih E w)(e:pr w w'):Ih E w':=
 ⟨e.os.trans l.os,e.tape.trans l.tape,e.output.trans l.output,oG l.size e.size,λk x L j=>(e.block k (wx x l.size)).trans (l.block k x L j),l.evo.trans (nK.oD e)⟩
def mg.ext(r:mg E nt B T H a w)(e:pr w w'):mg E nt B T H a w':=⟨r.nt,r.df,λs x h=>by
 obtain⟨v,d,f⟩:=r.tmp s x h;exact⟨v,d,vE (nK.oD e) (λ_ _ _ h=>h) (qt.ext e) f⟩,λg bx h=>by
 have hb:=r.box g bx h;cases bx with
 |var x=>
  obtain⟨b,cs,t,d,f,m,A⟩:=hb;exact⟨b,cs,t,d,e.heap f,n6 (nK.oD e) (λ_ _ _ h=>h) x (qt.ext e) m,A⟩
 |froz x=>
  obtain⟨b,cs,d,f,m,A⟩:=hb;exact⟨b,cs,d,e.row f,m,n6 (nK.oD e) (λ_ _ _ h=>h) x (qt.ext e) A⟩
 |hid=>exact hb
 |ext M=>exact⟨hb.1,hb.2.go O O (λl b j=>e.block b (r.fx.lt l b j)) (nK.oD e) (λ_ _ _ h=>h)⟩
 |tail ty n k=>
  obtain⟨o,C,d⟩:=hb;refine⟨o,C,d.imp id ?_⟩;rintro⟨b,cur,cap,i,k2,k3⟩;exact⟨b,cur,cap,i,e.heap k2,k3⟩
 |own ty n G=>
  obtain⟨o,C,d⟩:=hb;refine⟨o,C,d.imp id ?_⟩;rintro⟨b,cur,cap,c,i,k2,k3,p,F,y,q,U⟩;exact⟨b,cur,cap,c,i,e.heap k2,k3,p,F,y,nr (nK.oD e) (λ_ _ _ h=>h) n G (qt.nj _ _) q,U⟩,r.x3,r.inj,r.left.ext e,r.qa,r.fx.go O e.size λ_ _ d f=>.inl ⟨d,f⟩⟩
def am2(E:su):kI E B0 H0=λb o=>b<E.w0.heap.size/\E.X b o/\ ¬E.E3 b:=by
 funext b o;simp[kI,B0]
end
def mG(P:Program)(f:FuncId)(args:List AV)(r:AV):Prop:=
 ∀(U:u0) (w:World) (vs:List Value),oe U w args B0 H0 vs->Calls P f vs.toArray w λe w'=>∃v,e= .returned v/\qJ (λb o=>b<w.heap.size/\U b o) w' B0 H0 r v/\pr w w'
def rY:Nat->List AV->List (Nat×AV)
 |_,[]=> []
 |i,x::l=>(i,x)::rY (i+1) l
def Wk(H:Hp)(x y:AV):Prop:=∀U w B c,Rd U w x B H c->Rd U w y B0 H0 c/\m9 x c=m9 y c
def Wk.data{x:AV}(h:mO x=true):Wk H x x:=λU w B c I=>⟨pQ x h I,rfl⟩
def Wk.tok{t:Option Nat}:Wk H (.sl t n G) (.sl none n G):=λU w B c I=>by
 simp only[Rd]at I⊢;obtain⟨A,cap,a,b,k,C,_⟩:=I;refine⟨⟨A,cap,a,b,k,C,λt s=>by cases s⟩,?_⟩;subst a;rfl
def Wk.nil:Wk H (.v (.slice none 0 0)) (.sl none n []):=λU w B c I=>by
 simp only[Rd]at I⊢;obtain⟨_,rfl⟩:=I;exact⟨⟨none,0,rfl,kK _,kO _,λh=>absurd h ki,λt s=>by cases s⟩,rfl⟩
inductive BL (H:Hp):List AV->List AV->Prop
 |nil:BL H [] []
 |cons {x y:AV} {G J:List AV} (h:Wk H x y) (t:BL H G J):BL H (x::G) (y::J)
variable {J:List AV}
def Wk.agg(h:BL H G J):Wk H (.agg n G) (.agg n J):=λU w B c I=>by
 simp only[Rd]at I⊢;obtain⟨a,b⟩:=I;refine⟨⟨a,?_⟩,rfl⟩;clear a
 induction h generalizing c with
 |nil=>simpa[qQ]using b
 |cons j _ y=>
  simp only[qQ]at b⊢;obtain⟨c1,c2,e,f,k2⟩:=b;exact⟨c1,c2,e,(j _ _ _ _ f).1,y _ k2⟩
def BL.Yi(h:BL H G J){vs:List Value}(I:oe U w G B H vs):oe U w J B0 H0 vs:=by
 induction h generalizing vs with
 |nil=>simpa[oe]using I
 |cons j _ y=>
  simp only[oe]at I⊢;obtain⟨c,V,e,f,k2⟩:=I;obtain⟨k3,l⟩:=j _ _ _ _ f;exact⟨c,V,by rw[e,l],k3,y k2⟩
def na:AV->Bool
 | .agg _ _=>true
 | .arr _ _ _=>true
 |_=>false
def lE:AV->Nat
 | .agg n _=>n
 | .arr m _ _=>m
 |_=>1
def nJ{x:AV}{c:List Value}(h:Rd U w x B H c):c.length=lE x:=by
 cases x<;>simp only[Rd]at h<;>simp only[lE]
 case v=>rw[h.2];rfl
 case agg=>exact h.1
 case arr=>exact h.1
 case ptr=>obtain⟨_,b,_,rfl⟩:=h;rfl
 case ref=>obtain⟨b,off,c,rfl,_⟩:=h;rfl
 case sl=>obtain⟨A,cap,rfl,_⟩:=h;rfl
 case seg=>obtain⟨_,b,_,_,_,rfl⟩:=h;rfl
 case fn=>obtain⟨c1,c2,rfl,_⟩:=h;rfl
 case ifc=>obtain⟨c,_,rfl⟩:=h;rfl
 case own=>obtain⟨v,_,rfl⟩:=h;rfl
 case raw=>rw[h.2];rfl
 case hv=>rw[h.2.2];rfl
def tZ{x:AV}{c:List Value}(h:Rd U w x B H c):(na x=true->m9 x c= .agg c.toArray)/\(na x=false->c= [m9 x c]):=by
 cases x<;>simp only[Rd]at h<;>simp only[na]
 case v=>obtain⟨_,rfl⟩:=h;simp[m9]
 case agg=>simp[m9]
 case arr=>simp[m9]
 case ptr=>obtain⟨_,b,_,rfl⟩:=h;simp[m9]
 case ref=>obtain⟨b,off,c,rfl,_⟩:=h;simp[m9]
 case sl=>obtain⟨A,cap,rfl,_⟩:=h;simp[m9]
 case seg=>obtain⟨_,b,_,_,_,rfl⟩:=h;simp[m9]
 case fn=>obtain⟨c1,c2,rfl,_⟩:=h;simp[m9]
 case ifc=>obtain⟨c,_,rfl⟩:=h;simp[m9]
 case own=>obtain⟨v,_,rfl⟩:=h;simp[m9]
 case raw=>obtain⟨_,rfl⟩:=h;simp[m9]
 case hv=>obtain⟨_,_,rfl⟩:=h;simp[m9]
def ai2:TypeDesc->Bool
 | .struct _=>true
 | .array _ _=>true
 |_=>false
def zg(P:Program)(t:TypeId)(B:Bool)(n:Nat):Prop:=
 ∃d,P.underlying t=some d/\ai2 d=B/\(P.info? t).map (·.size)=some n
theorem pX{t:TypeId}{B:Bool}(s:zg P t B n){b off:Nat}{w:World}{cs:List Value}(h:mQ w b off n=some cs.toArray)(a:B=false->n=1):
 (loadVar t ⟨b,off,none⟩).run P w= .ok (if B then .agg cs.toArray else cs.headD undef) w:=by
 obtain⟨d,hu,o,hi⟩:=s;cases B
 .obtain rfl:=a O
  have x:(isAgg t).run P w= .ok false w:=by
   unfold isAgg;rw[Sem.run_bind,lu hu w];cases d<;>simp_all[ai2]
  obtain⟨p,u⟩:=zr h;have i:=u 0 kh
  obtain⟨v,rfl⟩:∃v,cs= [v]:=by
   match cs,p with
   | [v],_=>exact⟨v,rfl⟩
  have m:w.cell? ⟨b,off,none⟩=some v:=by simpa using i
  simp[loadVar,Sem.run_bind,x,load,Sem.run,m]
 .simp only[oQ];exact xN hu (by cases d<;>simp_all[ai2]) hi h
def Rm(P:Program)(S:St):ResultVar->AV->Prop
 | .tmp t,y=>∃x,S.t t=some x/\(∀G,x≠ .mz G)/\Wk S.h x y
 | .cell a t,y=>∃g x,S.t a=some (.ptr g 0 [])/\S.h g=some (.var x)/\zg P t (na x) (lE x)/\Wk S.h x y
def ab4(P:Program)(S:St):List ResultVar->List AV->Prop
 | [],[]=>True
 |r::rs,y::J=>Rm P S r y/\ab4 P S rs J
 | [],_::_=>False
 |_::_,[]=>False
def Ai:List AV->AV
 | [x]=>x
 |G=>.mz G
section
def adJ(r:mg E nt B S.t S.h a w){v:ResultVar}{y:AV}(h:Rm P S v y):∃c,(ve a.tmps v).run P w= .ok (m9 y c) w/\Rd (kI E B S.h) w y B0 H0 c:=by
 cases v with
 |tmp t=>
  obtain⟨x,d,e,k⟩:=h;obtain⟨u,A,D⟩:=r.tmp t x d;rw[kJ e]at D;obtain⟨c,R,rfl⟩:=D;obtain⟨U,m⟩:=k _ _ _ _ R;exact cQ
 |cell n t=>
  obtain⟨g,x,d,e,k,A⟩:=h;obtain⟨u,D,R⟩:=r.tmp n _ d;rw[kJ ki]at R;obtain⟨c,U,rfl⟩:=R;simp only[Rd]at U;obtain⟨_,b,m,rfl⟩:=U;obtain⟨b',cs,ty,f,k2,k3,_⟩:=r.box g _ e;rw[m]at f;injection f with f;subst f;have i:=nJ k3;have T:mQ w b 0 (lE x)=some cs.toArray:=fj;obtain⟨l,F⟩:=A _ _ _ _ k3;exact aE
theorem Sq(r:mg E nt B S.t S.h a w):∀(vs:List ResultVar) (J:List AV),ab4 P S vs J-> ∃K:List Value,(vs.mapM (ve a.tmps)).run P w= .ok K w/\K.length=vs.length/\oe (kI E B S.h) w J B0 H0 K
 | [],[],_=>⟨[],rfl,rfl,by simp[oe]⟩
 |v::vs,y::J,h=>by
  obtain⟨b,d⟩:=h;obtain⟨c,e,k2⟩:=adJ r b;obtain⟨K,k3,l,F⟩:=Sq r vs J d;exact dp
 | [],_::_,h=>h.elim
 |_::_,[],h=>h.elim
end
def FL{β:Type}(f:α->Sem β)(l:List α)(P:Program)(w:World)(J:List β)(h:(l.mapM f).run P w= .ok J w):(l.toArray.mapM f).run P w= .ok J.toArray w:=by
 rw[List.mapM_toArray,map_eq_pure_bind,Sem.run_bind,h];rfl
theorem CD:∀(args:List AV) (i k:Nat),kV k (rY i args)=if i<=k then args[k- i]? else none
 | [],i,k=>by simp[rY,kV]
 |x::l,i,k=>by
  simp only[rY,kV];cases hb:Nat.beq i k
  .have g:i≠k:=λe=>by subst e;simp at hb
   simp only[cond_false];rw[CD l (i+1) k];by_cases h:i<=k
   .rw[kx kh,kx h];have:k- i=(k-(i+1))+1:=eY;rw[this,Xc]
   .rw[ku kh,ku h]
  .obtain rfl:=mi hb;simp
theorem yS{U:u0}{w:World}{B:nE}{H:Hp}:∀{G:List AV} {vs:List Value},oe U w G B H vs->G.length=vs.length/\ ∀(i:Nat) (x:AV),G[i]?=some x-> ∃v,vs[i]?=some v/\ ∃c,Rd U w x B H c/\v=m9 x c
 | [],vs,h=>by simp only[oe]at h;subst h;simp
 |x::G,vs,h=>by
  simp only[oe]at h;obtain⟨c,V,rfl,a,b⟩:=h;obtain⟨e,k2⟩:=yS b;refine⟨by simp[e],λi y hi=>?_⟩;cases i with
  |zero=>simp at hi;subst hi;exact⟨_,rfl,c,a,rfl⟩
  |succ i=>simpa using k2 i y jz
def oV{x:AV}{c:List Value}(h:Rd U w x B H c):∀G,x≠ .mz G:=by
 rintro G rfl;simp[Rd]at h
variable {f:FuncId}{args:List AV}{r:AV}{rv:List ResultVar}
theorem kR{c:Code}(C:P.funcs[f]?=some fn)(i:fn.body=some c)(N:fn.ntmps=nt)(hrv:fn.results=rv.toArray)(F:args.length<=nt)(J:List AV)(G:Ai J=r)
 (h:∀E,(∀b,¬E.E3 b)->AW P E nt c ⟨rY 0 args,[]⟩ (λe S'=>(e= .normal∨e= .ret)/\ab4 P S' rv J)):mG P f args r:=by
 have hrv':fn.results.toList=rv:=by rw[hrv]
 subst N;subst hrv';clear hrv;intro U w vs Y;subst G;obtain⟨m,t⟩:=yS Y
 let E:su:=⟨w,U,λ_=>none,λ_ _=>rfl,[],λ_=>False⟩
 have S:∀b,¬E.E3 b:=λb ⟨g,k,h⟩=>fk;have eU:kI E B0 H0=λb o=>b<w.heap.size/\U b o/\ ¬E.E3 b:=am2 E
 have r0:mg E fn.ntmps B0 (St.t ⟨rY 0 args,[]⟩) (St.h ⟨rY 0 args,[]⟩) {tmps:=vs.toArray++Array.replicate (fn.ntmps- vs.toArray.size) undef,defers:= []} w:=by
  have Z:(St.h ⟨rY 0 args,[]⟩)=H0:=by funext k;rfl
  rw[Z];refine⟨by simp;omega,rfl,λs x q=>?_,λg bx h=>by simp[H0]at h,λg _=>rfl,λg g' b h=>by simp[H0,nR]at h,⟨rfl,rfl,rfl,kK _,λk _ _ _=>rfl,nK.refl _ _⟩,λ_ _=>rfl,⟨λ_ _ h=>kd,λ_ _ h=>kd,λ_ _ _ h=>kd,λ_ _ _ h=>kd⟩⟩;have X:kV s (rY 0 args)=some x:=q;rw[CD]at X;simp only[kO,oQ,Nat.sub_zero]at X;obtain⟨v,a,c',d,p⟩:=t s x X;have hsl:s<vs.length:=(mS.1 a).1;refine⟨v,?_,?_⟩
  .rw[AI (by simpa using hsl)];simpa using a
  .rw[eU];exact Be (λb o h=>h.2.1) (by rw[kJ (oV d)];exact⟨c',d,p⟩)
 refine calls_of_wp C i (vz (h E S B0 _ w r0) ?_);rintro e W w' ⟨B',S',V,L,hres⟩;obtain⟨M,j,k2,k3⟩:=Sq V _ _ hres;have n:pr w w':=⟨V.left.os,V.left.tape,V.left.output,V.left.size,λk A=>V.left.block k A (S k) (λh=>h)⟩
 have hfin:∃v,(results fn W.tmps).run P w'= .ok v w'/\ ∃v',Ending.returned v= .returned v'/\qJ (λb o=>b<w.heap.size/\U b o) w' B0 H0 (Ai J) v'/\pr w w':=by
  have T:=FL _ _ _ _ _ j;rw[zd]at T;rw[vm,Sem.run_bind,T];obtain⟨R,m2⟩:=yS k3;by_cases a:M.length=1
  .obtain⟨u,rfl⟩:=CJ.1 a;obtain⟨y,rfl⟩:=CJ.1 (R.trans a);refine⟨u,by simp,u,rfl,?_,n⟩;obtain⟨v,p,c',D,K⟩:=m2 0 y O;simp at p;subst p
   show qJ (λb o=>b<w.heap.size/\U b o) w' B0 H0 y u
   exact Be (U:=kI E B' S'.h) (λb o h=>.inl ⟨h.1,h.2,S b⟩) (by rw[kJ (oV D)];exact⟨c',D,K⟩)
  .refine⟨.tuple M.toArray,by simp[a],_,rfl,?_,n⟩
   have I:Ai J= .mz J:=by
    match J,R with
    | [],_=>rfl
    | [y],R=>exact absurd R.symm a
    |y::z::l,_=>rfl
   rw[I,mW];have:=Be (U:=kI E B' S'.h) (U':=λb o=>b<w.heap.size/\U b o) (w:=w') (B:=B0) (H:=H0) (x:=.mz J) (v:=.tuple M.toArray) (λb o h=>.inl ⟨h.1,h.2,S b⟩) (by rw[mW];exact⟨M,rfl,k3⟩);rw[mW]at this;exact this
 obtain⟨v,a,d⟩:=hfin;rcases L with rfl|rfl
 .exact⟨V.df,v,a,d⟩
 .exact⟨V.df,v,a,d⟩
def kL{c:Code}(z:P.funcs[f]?=some fn)(d:fn.body=some c)(N:fn.ntmps=nt)(g:fn.results=rv.toArray)(B:args.length<=nt)(J:List AV)(F:Ai J=r)
 (h:∀E,(∀b,¬E.E3 b)->(!true)=false->(!false)=true->AW P E nt c ⟨rY 0 args,[]⟩ (λe S'=>(e= .normal∨e= .ret)/\ab4 P S' rv J)):mG P f args r:=kR z d N g B J F λE S=>h E S O O
def mv{o:Oper}(u:∀s∈o.looksAt ops,T' s=T s){x:Operand}(j:x∈o.op.operands.toList):kv T' x=kv T x:=by
 cases x with
 |tmp t=>exact u t (List.mem_append_left _ (Xd.2 ⟨.tmp t,j,rfl⟩))
 |_=>rfl
variable {ty:TypeId}{pos:String}{af:Array Edge}{gd:Option (Nat×Bool)}
variable {op:Op}{rh:List Nat}
variable {x:Operand}
variable {y:Operand}
variable {t':TypeId}
variable {k':IntKind}
variable {p:List Nat}
section
def lO{x:AV}(n:lK nt d=true)
 (h:∀B T' H' a w,mg E nt B T' H' a w->(∀y∈op.operands.toList,kv T' y=kv T y)->(∀g∈rh,H' g=H g)->
  ∃v,(execOp a.eval ⟨d,op,ty,pos,af,gd⟩).run P w= .ok (.value v) w/\qJ (kI E B H') w B H' x v):kE P E nt ops ⟨d,op,ty,pos,af,gd⟩ T H rh ⟨x,[]⟩:=by
 intro T' H' s D _ B a w r K Q G;obtain⟨v,b,c⟩:=h B T' H' a w r (λy F=>mv s F) D;unfold Oper.wp;rw[b];exact G B _ w (r.put n c)
def Yr{v:AV}(n:lK nt d=true)(j:kv T x=some v):kE P E nt ops ⟨d,.move x,ty,pos,af,gd⟩ T H [] ⟨v,[]⟩:=
 lO n λB T' H' a w r s D=>⟨a.eval x,by simp[execOp],r.eval ((s x js).trans j)⟩
def abi{v:AV}(n:lK nt d=true)(j:kv T x=some v):kE P E nt ops ⟨d,.assign x,ty,pos,af,gd⟩ T H [] ⟨v,[]⟩:=
 lO n λB T' H' a w r s D=>⟨a.eval x,by simp[execOp],r.eval ((s x js).trans j)⟩
def aba{c:Operand}{v:AV}(n:lK nt d=true)(u:kv T c=some (.v (.bool true)))(j:kv T x=some v):kE P E nt ops ⟨d,.pick c x y,ty,pos,af,gd⟩ T H [] ⟨v,[]⟩:=
 lO n λB T' H' a w r s D=>⟨a.eval x,by have:=r.od ((s c js).trans u);simp[execOp,this,asBool],r.eval ((s x js).trans j)⟩
def abb{c:Operand}{v:AV}(n:lK nt d=true)(u:kv T c=some (.v (.bool false)))(F:kv T y=some v):kE P E nt ops ⟨d,.pick c x y,ty,pos,af,gd⟩ T H [] ⟨v,[]⟩:=
 lO n λB T' H' a w r s D=>⟨a.eval y,by have:=r.od ((s c js).trans u);simp[execOp,this,asBool],r.eval ((s y js).trans F)⟩
def V4{vs:List AV}{v:AV}(n:lK nt d=true)(j:kv T x=some (.mz vs))(y:vs[i]?=some v):kE P E nt ops ⟨d,.extract x i,ty,pos,af,gd⟩ T H [] ⟨v,[]⟩:=
 lO n λB T' H' a w r s D=>by have h:=r.eval ((s x js).trans j);rw[mW]at h;obtain⟨J,b,e⟩:=h;obtain⟨f,k2⟩:=yS e;obtain⟨u,k,c,A,F⟩:=k2 i v y;refine⟨u,?_,by rw[kJ (oV A)];exact⟨c,A,F⟩⟩;simp[execOp,b,Instr.extract,k]
def th{J:BinOp}{t:TypeId}{q u e:Value}(n:lK nt d=true)(j:kv T x=some (.v q))(F:kv T y=some (.v u))
 (I:∀w,(do eqGuard J t x y q u;binOp J t q u:Sem Value).run P w= .ok e w) (X:sB e=true):kE P E nt ops ⟨d,.binOp J t x y t',ty,pos,af,gd⟩ T H [] ⟨.v e,[]⟩:=
 lO n λB T' H' a w r s D=>⟨e,by have b:=r.od ((s x js).trans j);have c:=r.od ((s y js).trans F);simp only[execOp,b,c];rw[Sem.run_bind,I w];rfl,by rw[nM];exact⟨X,rfl⟩⟩
section
variable {t:TypeId}{a b:Int}
def aej{c:Int}(n:lK nt d=true)(j:kv T x=some (.v (.int k a)))(F:kv T y=some (.v (.int k b)))(u:k.wrap (a+b)=c):kE P E nt ops ⟨d,.binOp .add t x y t',ty,pos,af,gd⟩ T H [] ⟨.v (.int k c),[]⟩:=
 th n j F (λw=>by subst u;simp[eqGuard,binOp,Op.intArith]) rfl
def akT{c:Int}(n:lK nt d=true)(j:kv T x=some (.v (.int k a)))(F:kv T y=some (.v (.int k b)))(u:k.wrap (a- b)=c):kE P E nt ops ⟨d,.binOp .sub t x y t',ty,pos,af,gd⟩ T H [] ⟨.v (.int k c),[]⟩:=
 th n j F (λw=>by subst u;simp[eqGuard,binOp,Op.intArith]) rfl
def ad9{c:Int}(n:lK nt d=true)(j:kv T x=some (.v (.int k a)))(F:kv T y=some (.v (.int k b)))(u:k.wrap (a*b)=c):kE P E nt ops ⟨d,.binOp .mul t x y t',ty,pos,af,gd⟩ T H [] ⟨.v (.int k c),[]⟩:=
 th n j F (λw=>by subst u;simp[eqGuard,binOp,Op.intArith]) rfl
def aiy{a b:Int}(h: -9223372036854775808<=a+b/\a+b<=9223372036854775807):IntKind.i64.wrap (a+b)=a+b:=CI _ h
def aiu{a b:Int}(h: -9223372036854775808<=a- b/\a- b<=9223372036854775807):IntKind.i64.wrap (a- b)=a- b:=CI _ h
def aix{a b:Int}(h: -9223372036854775808<=a*b/\a*b<=9223372036854775807):IntKind.i64.wrap (a*b)=a*b:=CI _ h
def akV{c:Int}(n:lK nt d=true)(j:kv T x=some (.v (.int k a)))(F:kv T y=some (.v (.int k b)))(i:b≠0)(u:k.wrap (a.tdiv b)=c):kE P E nt ops ⟨d,.binOp .quo t x y t',ty,pos,af,gd⟩ T H [] ⟨.v (.int k c),[]⟩:=
 th n j F (λw=>by subst u;simp[eqGuard,binOp,Op.intDiv,i]) rfl
def t6{c:Int}(n:lK nt d=true)(j:kv T x=some (.v (.int k a)))(F:kv T y=some (.v (.int k b)))(i:b≠0)(u:a.tmod b=c):kE P E nt ops ⟨d,.binOp .rem t x y t',ty,pos,af,gd⟩ T H [] ⟨.v (.int k c),[]⟩:=
 th n j F (λw=>by subst u;simp[eqGuard,binOp,Op.intDiv,i]) rfl
def aiw{a b:Int}(h:0<=a/\a<=9223372036854775807/\1<=b):IntKind.i64.wrap (a.tdiv b)=a/b:=by
 rw[Int.tdiv_eq_ediv_of_nonneg h.1];have c:0<=a/b:=Int.ediv_nonneg h.1 kh;have d:a/b<=a:=Int.ediv_le_self _ h.1;exact CI _ ⟨by omega,by omega⟩
def aiv{a b:Int}(h:0<=a):a.tmod b=a%b:=af5 h
def akZ(n:lK nt d=true)(j:kv T x=some (.v (.int k a)))(F:kv T y=some (.v (.int k b))):kE P E nt ops ⟨d,.binOp .lss t x y t',ty,pos,af,gd⟩ T H [] ⟨.v (.bool (decide (a<b))),[]⟩:=
 th n j F (λw=>by simp[eqGuard,binOp,Op.intCmp]) rfl
def ak0(n:lK nt d=true)(j:kv T x=some (.v (.int k a)))(F:kv T y=some (.v (.int k b))):kE P E nt ops ⟨d,.binOp .leq t x y t',ty,pos,af,gd⟩ T H [] ⟨.v (.bool (decide (a<=b))),[]⟩:=
 th n j F (λw=>by simp[eqGuard,binOp,Op.intCmp]) rfl
def ak2(n:lK nt d=true)(j:kv T x=some (.v (.int k a)))(F:kv T y=some (.v (.int k b))):kE P E nt ops ⟨d,.binOp .gtr t x y t',ty,pos,af,gd⟩ T H [] ⟨.v (.bool (decide (b<a))),[]⟩:=
 th n j F (λw=>by simp[eqGuard,binOp,Op.intCmp]) rfl
def ak3(n:lK nt d=true)(j:kv T x=some (.v (.int k a)))(F:kv T y=some (.v (.int k b))):kE P E nt ops ⟨d,.binOp .geq t x y t',ty,pos,af,gd⟩ T H [] ⟨.v (.bool (decide (b<=a))),[]⟩:=
 th n j F (λw=>by simp[eqGuard,binOp,Op.intCmp]) rfl
def ak4(n:lK nt d=true)(j:kv T x=some (.v (.int k a)))(F:kv T y=some (.v (.int k b))):kE P E nt ops ⟨d,.binOp .eql t x y t',ty,pos,af,gd⟩ T H [] ⟨.v (.bool (decide (a=b))),[]⟩:=
 th n j F (λw=>by simp[eqGuard,binOp,Op.intCmp];rfl) O
def akX(n:lK nt d=true)(j:kv T x=some (.v (.int k a)))(F:kv T y=some (.v (.int k b))):kE P E nt ops ⟨d,.binOp .neq t x y t',ty,pos,af,gd⟩ T H [] ⟨.v (.bool (decide (a≠b))),[]⟩:=
 th n j F (λw=>by simp[eqGuard,binOp,Op.intCmp,bne];rfl) O
end
def Ix{t:TypeId}(s:P.underlying t=some .bool)(n:Nat)(a b:Bool)(w:World):(Op.equalIn (n+1) t (.bool a) (.bool b)).run P w= .ok (a==b) w:=by simp[Op.equalIn,lu s]
def aee{t:TypeId}{a b:Bool}(s:P.underlying t=some .bool)(n:lK nt d=true)(j:kv T x=some (.v (.bool a)))(F:kv T y=some (.v (.bool b))):kE P E nt ops ⟨d,.binOp .eql t x y t',ty,pos,af,gd⟩ T H [] ⟨.v (.bool (decide (a=b))),[]⟩:=
 th n j F (λw=>by have:(Op.equal t (.bool a) (.bool b)).run P w= .ok (a==b) w:=Ix s 9999 a b w;simp[eqGuard,binOp,this];rfl) O
def ad8{t:TypeId}{a b:Bool}(s:P.underlying t=some .bool)(n:lK nt d=true)(j:kv T x=some (.v (.bool a)))(F:kv T y=some (.v (.bool b))):kE P E nt ops ⟨d,.binOp .neq t x y t',ty,pos,af,gd⟩ T H [] ⟨.v (.bool (decide (a≠b))),[]⟩:=
 th n j F (λw=>by have:(Op.equal t (.bool a) (.bool b)).run P w= .ok (a==b) w:=Ix s 9999 a b w;simp[eqGuard,binOp,this];cases a<;>cases b<;>rfl) O
def akW{t:TypeId}{p:Bool}(n:lK nt d=true)(j:kv T x=some (.v (.bool p))):kE P E nt ops ⟨d,.unOp .not t x,ty,pos,af,gd⟩ T H [] ⟨.v (.bool (!p)),[]⟩:=
 lO n λB T' H' a w r s D=>⟨.bool (!p),by have b:=r.od ((s x js).trans j);simp[execOp,b,Op.unary],by rw[nM];exact⟨O,rfl⟩⟩
def vp{s t:TypeId}{n:Int}{c:Int}(p:∃u,P.underlying s=some u)(C:P.underlying t=some (.int k'))(o:lK nt d=true)(j:kv T x=some (.v (.int k n)))(y:k'.wrap n=c):kE P E nt ops ⟨d,.convert s t x,ty,pos,af,gd⟩ T H [] ⟨.v (.int k' c),[]⟩:=
 lO o λB T' H' a w r v D=>⟨.int k' c,by have b:=r.od ((v x js).trans j);obtain⟨u,hu⟩:=p;subst y;simp[execOp,b,convert,lu hu,lu C,Conv.intToInt],by rw[nM];exact⟨O,rfl⟩⟩
def ml{H:Hp}{x:AV}(j:∀G,x≠ .mz G)(h:qJ U w B H x v)(N:na x=false):Rd U w x B H [v]:=by
 rw[kJ j]at h;obtain⟨c,a,rfl⟩:=h;have:=(tZ a).2 N;rw[<-this];exact a
def ak1{t:TypeId}{tok:Option Nat}(C:P.underlying t=some (.slice e))(o:lK nt d=true)(j:kv T x=some (.sl tok n G)):
 kE P E nt ops ⟨d,.call {callee:=.builtin .len,args:= #[x],argTypes:= #[t]},ty,pos,af,gd⟩ T H [] ⟨.v (.int .i64 G.length),[]⟩:=
 lO o λB T' H' a w r s D=>⟨.int .i64 G.length,by have h:=ml ki (r.eval ((s x iV).trans j)) O;simp only[Rd]at h;obtain⟨A,cap,b,_⟩:=h;injection b with b;simp[execOp,resolve,invoke,builtin,b,Builtin.len_,lu C,goInt],by rw[nM];exact⟨O,rfl⟩⟩
def VX{t:TypeId}(C:P.underlying t=some (.slice e))(o:lK nt d=true)(j:kv T x=some (.seg g off n p len cap)):
 kE P E nt ops ⟨d,.call {callee:=.builtin .len,args:= #[x],argTypes:= #[t]},ty,pos,af,gd⟩ T H [] ⟨.v (.int .i64 len),[]⟩:=
 lO o λB T' H' a w r s D=>⟨.int .i64 len,by have h:=ml ki (r.eval ((s x iV).trans j)) O;simp only[Rd]at h;obtain⟨_,b,_,_,_,c⟩:=h;injection c with c;simp[execOp,resolve,invoke,builtin,c,Builtin.len_,lu C,goInt],by rw[nM];exact⟨O,rfl⟩⟩
def VW{t:TypeId}{s:ByteArray}(C:P.underlying t=some .string)(n:lK nt d=true)(j:kv T x=some (.v (.string s))):
 kE P E nt ops ⟨d,.call {callee:=.builtin .len,args:= #[x],argTypes:= #[t]},ty,pos,af,gd⟩ T H [] ⟨.v (.int .i64 s.size),[]⟩:=
 lO n λB T' H' a w r u D=>⟨.int .i64 s.size,by have h:=r.od ((u x iV).trans j);simp[execOp,resolve,invoke,builtin,h,Builtin.len_,lu C,goInt],by rw[nM];exact⟨O,rfl⟩⟩
def akY{t:TypeId}{p q:Int}(n:lK nt d=true)(j:kv T x=some (.v (.int k p)))(F:kv T y=some (.v (.int k q))):
 kE P E nt ops ⟨d,.call {callee:=.builtin .min,args:= #[x,y],argTypes:= #[t,t']},ty,pos,af,gd⟩ T H [] ⟨.v (.int k (if q<p then q else p)),[]⟩:=
 lO n λB T' H' a w r s D=>⟨.int k (if q<p then q else p),by have b:=r.od ((s x iV).trans j);have c:=r.od ((s y iV).trans F);simp[execOp,resolve,invoke,builtin,b,c,Builtin.min_,Builtin.min2],by rw[nM];exact⟨O,rfl⟩⟩
end
variable {j:Nat}{bx:Bx}
section
variable {H':Hp}
def qY{o:Obj}(h:w.heap[b]?=some o):b<w.heap.size:=(yf.1 h).1
def mg.qp(r:mg E nt B T H a w){g b:Nat}{bx:Bx}(h:H g=some bx)(f:B g=some b):b<w.heap.size:=by
 have d:=r.box g bx h;cases bx with
 |var x=>obtain⟨b',cs,t,i,k2,_⟩:=d;rw[f]at i;injection i with i;subst i;exact qY k2
 |froz x=>obtain⟨b',cs,i,k2,_⟩:=d;rw[f]at i;injection i with i;subst i;exact HB k2
 |tail e n k=>
  rcases d.2.2 with⟨i,_⟩|⟨b',cur,cap,i,k2,_⟩
  .rw[f]at i;cases i
  .rw[f]at i;injection i with i;subst i;exact qY k2
 |own e n G=>
  rcases d.2.2 with⟨i,_⟩|⟨b',cur,cap,c,i,k2,_⟩
  .rw[f]at i;cases i
  .rw[f]at i;injection i with i;subst i;exact qY k2
 |hid=>rw[show B g=none from d]at f;cases f
 |ext M=>rw[show B g=none from d.1.2]at f;cases f
def mg.w7(r:mg E nt B T H a w){b o:Nat}(h:kI E B H b o):b<w.heap.size:=by
 rcases h with⟨h,_⟩|⟨l,h⟩|⟨g,hb,h⟩
 .exact wx h r.left.size
 .exact r.fx.lt l b h
 .cases t:H g with
  |none=>rw[t]at h;exact h.elim
  |some bx=>exact r.qp t hb
theorem mg.move(r:mg E nt B T H a w)(z:B'.fx=B.fx)(D:B'.hv=B.hv)(R:∀l b,B.fx l=some b->w'.heap[b]?=w.heap[b]?)(I:∀g b,nR (H' g)=true->B' g=some b->(nR (H g)=true/\B g=some b)∨w.heap.size<=b)(u:nK (kI E B H) w w')(q:∀b o,b<w.heap.size->kI E B' H' b o->kI E B H b o)(U:qt w w' B B' H H')(left:Ih E w')
 (L:∀g bx,H' g=some bx->Ie E B' H' w' g bx∨(H g=some bx/\B' g=B g/\ ∀b,nR (some bx)=true->B g=some b->w'.heap[b]?=w.heap[b]?))
 (K:∀g,H' g=none->H g=none/\B' g=none) (J:∀g g' b,nR (H' g)=true->nR (H' g')=true->B' g=some b->B' g'=some b->g=g'):mg E nt B' T H' a w':=⟨r.nt,r.df,λs x h=>by
 obtain⟨v,d,f⟩:=r.tmp s x h;exact⟨v,d,vE u q U f⟩,λg bx h=>by
 rcases L g bx h with d|⟨d,f,m⟩
 .exact d
 .have hb:=r.box g bx d;cases bx with
  |var x=>
   obtain⟨b,cs,t,i,k2,k3,p⟩:=hb;exact⟨b,cs,t,f.trans i,(m b O i).trans k2,n6 u q x U k3,p⟩
  |froz x=>
   obtain⟨b,cs,i,k2,k3,p⟩:=hb;exact⟨b,cs,f.trans i,u.row k2 k3,zz q k2 k3,n6 u q x U p⟩
  |hid=>exact f.trans hb
  |ext M=>exact⟨⟨hb.1.1,f.trans hb.1.2⟩,hb.2.go z D R u q⟩
  |tail e n k=>
   obtain⟨j,C,hb⟩:=hb;refine⟨j,f▸C,?_⟩;rcases hb with⟨i,k2⟩|⟨b,cur,cap,i,k2,k3⟩
   .exact .inl ⟨f.trans i,k2⟩
   .exact .inr ⟨b,cur,cap,f.trans i,(m b O i).trans k2,k3⟩
  |own e n G=>
   obtain⟨j,C,hb⟩:=hb;refine⟨j,f▸C,?_⟩;rcases hb with⟨i,k2⟩|⟨b,cur,cap,c,i,k2,k3,p,F,y,A,V⟩
   .exact .inl ⟨f.trans i,k2⟩
   .exact .inr ⟨b,cur,cap,c,f.trans i,(m b O i).trans k2,k3,p,F,y,nr u q n G (qt.nj _ _) A,V⟩,λg h=>(K g h).2,J,left,λg h=>r.qa g (K g h).1,r.fx.go z u.size I⟩
structure uX(w w':World)(b:Nat):Prop where
 os:w'.os=w.os
 tape:w'.tape=w.tape
 output:w'.output=w.output
 size:w'.heap.size=w.heap.size
 other:∀k,k≠b->w'.heap[k]?=w.heap[k]?
def uX.evo(t:uX w w' b){cs cs':Array Value}{ty:TypeId}{m:Nat×Nat}(h:w.heap[b]?=some (.cells cs ty m))(q:w'.heap[b]?=some (.cells cs' ty m))(p:cs'.size=cs.size)(u:∀o,¬U b o->cs'[o]?=cs[o]?):nK U w w':=by
 refine⟨yd t.size.symm,λk c t' f x=>?_⟩;by_cases K:k=b
 .subst K;rw[h]at x;injection x with x;injection x with a d l;subst a d l;exact⟨cs',q,p,u⟩
 .exact⟨c,(t.other k K).trans x,rfl,λ_ _=>rfl⟩
def uX.left(t:uX w w' b)(l:Ih E w){cs cs':Array Value}{ty:TypeId}{n:Nat×Nat}(h:w.heap[b]?=some (.cells cs ty n))(q:w'.heap[b]?=some (.cells cs' ty n))(p:cs'.size=cs.size)(u:∀o,o<o0->cs'[o]?=cs[o]?)(f:EY E b o0):Ih E w':=
 ⟨t.os.trans l.os,t.tape.trans l.tape,t.output.trans l.output,by rw[t.size];exact l.size,λk x L j=>by
  rcases f with f|⟨_,f,_⟩
  .exact(t.other k kh).trans (l.block k x L j)
  .exact(t.other k (λe=>L (e▸f))).trans (l.block k x L j),⟨by rw[t.size];exact l.size,λk c r i x=>by
  obtain⟨c1,a,d,m⟩:=l.evo.cell k c r i x;by_cases K:k=b
  .subst K;rw[h]at a;injection a with a;injection a with P g R;subst P g R;refine⟨cs',q,p.trans d,λo U=>?_⟩;rcases f with f|⟨_,_,f⟩
   .have:=qY x;omega
   .rcases Ba o o0 with h4|h4
    .exact(u o h4).trans (m o U)
    .exact absurd (f o h4) U
  .exact⟨c1,(t.other k K).trans a,d,m⟩⟩⟩
def zE(t:nR (H g)=nR (some bx)):nR (l9 H g bx j)=nR (H j):=by
 unfold l9;split
 .rename_i h;subst h;exact t.symm
 .rfl
def mg.store(r:mg E nt B T H a w){g b:Nat}{x x':AV}{cs cs':List Value}{ty:TypeId}(v:H g=some (.var x))(f:B g=some b)(z:w.heap[b]?=some (.cells cs.toArray ty (0,0)))
 (u:uX w w' b) (M:w'.heap[b]?=some (.cells cs'.toArray ty (0,0))) (m:cs'.length=cs.length) (q:Rd (kI E B H) w x' B H cs'):mg E nt B T (l9 H g (.var x')) a w':=by
 have L:∀b' o,kI E B (l9 H g (.var x')) b' o↔kI E B H b' o:=by
  intro b' o;unfold kI;refine uQ rq (uQ rq (qO λj=>rK λ_=>?_));by_cases h:j=g
  .subst h;rw[kB,v]
  .rw[kF _ _ h]
 have W:∀o,kI E B H b o:=λo=>.inr (.inr ⟨g,f,by rw[v];trivial⟩);have K:nK (kI E B H) w w':=u.evo z M j8 (λo h=>absurd (W o) h);have N:nR (H g)=true:=by rw[v];rfl
 have U:qt w w' B B H (l9 H g (.var x')):=by
  refine⟨λ_ _ _ h=>h,λj h=>?_,λt n len A cap h=>?_,sC K (λg' e' R J h=>?_),λj h=>?_⟩
  .unfold l9;split
   .rfl
   .exact h
  .obtain⟨e,k,c,d,s⟩:=h;have G:t≠g:=λe'=>by rw[e',v]at c;cases c
   refine⟨e,k,by rw[kF _ _ G];exact c,d,λy=>⟨(s y).1,λb' F=>?_⟩⟩;obtain⟨i,cur,k2,k3⟩:=(s y).2 b' F;have S:b'≠b:=λe'=>G (r.inj t g b jZ N (e'▸F) f);exact⟨i,cur,(u.other b' S).trans k2,k3⟩
  .have G:g'≠g:=λe'=>by rw[e',v]at h;cases h
   exact⟨(kF _ _ G).trans h,rfl⟩
  .have G:j≠g:=λe'=>by rw[e',v]at h;cases h
   exact⟨(kF _ _ G).trans h,rfl⟩
 have V:EY E b 0/\Ks E g 0 (some b):=by
  obtain⟨b',_,_,i,_,_,D⟩:=r.box g _ v;rw[f]at i;injection i with i;subst i;exact D
 refine r.move O O (λl b' m=>u.other b' λe=>r.fx.out l b' g m N (e▸f)) (λj b' c d=>.inl ⟨by rw[zE j0]at c;exact c,d⟩) K (λb' o _ h=>(L b' o).1 h) U (u.left r.left z M j8 (λo h=>absurd h (Qx o)) V.1) (λj bx h=>?_) (λj h=>?_) (λj I b' c d s C=>?_)
 .by_cases p:j=g
  .subst p;rw[kB]at h;injection h with h;subst h;exact .inl ⟨b,cs',ty,f,M,n6 K (λb' o _ h=>(L b' o).1 h) x' U q,V⟩
  .rw[kF _ _ p]at h;refine .inr ⟨h,rfl,λb' P F=>u.other b' λe'=>p (r.inj j g b (by rw[h];exact P) N (e'▸F) f)⟩
 .by_cases p:j=g
  .subst p;rw[kB]at h;cases h
  .rw[kF _ _ p]at h;exact⟨h,r.x3 j h⟩
 .rw[zE j0]at c d;exact r.inj j I b' c d s C
def vT(C:∀j p b,H j=some p->B j=some b->b<n):∀b o,b<n->kI E (B.E2 g n) (l9 H g bx) b o->kI E B H b o:=by
 intro b o hb h;rcases h with h|h|⟨j,a,c⟩
 .exact .inl h
 .exact .inr (.inl h)
 .by_cases i:j=g
  .subst i;rw[nq]at a;injection a with a;omega
  .rw[nU _ _ i]at a;rw[kF _ _ i]at c;exact .inr (.inr ⟨j,a,c⟩)
def mg.new(r:mg E nt B T H a w){g:Nat}{bx:Bx}{o:Obj}(u:H g=none)(p:Ie E (B.E2 g w.heap.size) (l9 H g bx) (w.alloc o) g bx):mg E nt (B.E2 g w.heap.size) T (l9 H g bx) a (w.alloc o):=by
 have Z:∀j y b,H j=some y->B j=some b->b<w.heap.size:=λj y b c d=>r.qp c d
 have V:qt w (w.alloc o) B (B.E2 g w.heap.size) H (l9 H g bx):=by
  refine⟨λj b c d=>?_,λj h=>?_,λt n len A cap h=>?_,sC (nK.oD (U:=λ_ _=>False) ((pr.refl w).alloc o)) (λg' e' R J h=>?_),λj h=>?_⟩
  .have m:j≠g:=λe=>by rw[e,u]at c;cases c
   rw[nU _ _ m];exact d
  .have m:j≠g:=λe=>by rw[e,u]at h;cases h
   rw[kF _ _ m];exact h
  .obtain⟨e,k,c,d,q⟩:=h;have m:t≠g:=λe=>fm;refine⟨e,k,by rw[kF _ _ m];exact c,d,?_⟩;rw[nU _ _ m];refine λx=>⟨(q x).1,λb hb=>?_⟩;obtain⟨f,cur,k2,k3⟩:=(q x).2 b hb;exact⟨f,cur,(zG w o b (qY k2)).trans k2,k3⟩
  .have s:g'≠g:=λe'=>by rw[e',u]at h;cases h
   exact⟨(kF _ _ s).trans h,nU _ _ s⟩
  .have s:j≠g:=λe'=>by rw[e',u]at h;cases h
   exact⟨(kF _ _ s).trans h,rfl⟩
 refine r.move O O (λl b i=>zG w o b (r.fx.lt l b i)) (λj b c d=>?_) (nK.oD ((pr.refl w).alloc o)) (vT Z) V (r.left.ext ((pr.refl w).alloc o)) (λj y h=>?_) (λj h=>?_) (λj v b c d q C=>?_)
 .by_cases m:j=g
  .subst m;rw[nq]at d;injection d with d;subst d;exact .inr (kK _)
  .rw[kF _ _ m]at c;rw[nU _ _ m]at d;exact .inl ⟨c,d⟩
 .by_cases m:j=g
  .subst m;rw[kB]at h;injection h with h;subst h;exact .inl p
  .rw[kF _ _ m]at h;exact .inr ⟨h,nU _ _ m,λb _ hb=>zG w o b (Z j y b h hb)⟩
 .by_cases m:j=g
  .subst m;rw[kB]at h;cases h
  .rw[kF _ _ m]at h;rw[nU _ _ m];exact⟨h,r.x3 j h⟩
 .have K:∀j,j≠g->nR (l9 H g bx j)=true->(B.E2 g w.heap.size) j=some b->b<w.heap.size:=by
   intro j m i hb;rw[kF _ _ m]at i;rw[nU _ _ m]at hb;cases D:H j with
   |none=>rw[D]at i;cases i
   |some y=>exact Z j y b D hb
  by_cases m:j=g
  .by_cases S:v=g
   .rw[m,S]
   .have:=K v S d C;subst m;rw[nq]at q;injection q with q;omega
  .by_cases S:v=g
   .have:=K j m c q;subst S;rw[nq]at C;injection C with C;omega
   .rw[kF _ _ m]at c;rw[nU _ _ m]at q;rw[kF _ _ S]at d;rw[nU _ _ S]at C;exact r.inj j v b c d q C
def mg.akN(r:mg E nt B T H a w){t n k k':Nat}{e:TypeId}{o:Obj}(u:H t=some (.tail e n k))(x:k<k')(m:Ie E (B.E2 t w.heap.size) (l9 H t (.tail e n k')) (w.drew.alloc o) t (.tail e n k')):mg E nt (B.E2 t w.heap.size) T (l9 H t (.tail e n k')) a (w.drew.alloc o):=by
 have Z:∀j z b,H j=some z->B j=some b->b<w.heap.size:=λj z b c d=>r.qp c d;have F:pr w (w.drew.alloc o):=(pr.refl w).drew.alloc o
 have V:qt w (w.drew.alloc o) B (B.E2 t w.heap.size) H (l9 H t (.tail e n k')):=by
  refine⟨λj b c d=>?_,λj h=>?_,λt' S len A cap h=>?_,sC (nK.oD (U:=λ_ _=>False) F) (λg' e' S J h=>?_),λj h=>?_⟩
  .have i:j≠t:=λe=>by rw[e,u]at c;cases c
   rw[nU _ _ i];exact d
  .have i:j≠t:=λe=>by rw[e,u]at h;cases h
   rw[kF _ _ i];exact h
  .obtain⟨e',q,c,d,p⟩:=h;by_cases i:t'=t
   .subst i;rw[u]at c;injection c with c;injection c with P s R;subst P s R;exact ep
   .refine⟨e',q,by rw[kF _ _ i];exact c,d,?_⟩;rw[nU _ _ i];refine λx=>⟨(p x).1,λb hb=>?_⟩;obtain⟨f,cur,k2,k3⟩:=(p x).2 b hb;exact⟨f,cur,F.heap k2,k3⟩
  .have v:g'≠t:=λe'=>by rw[e',u]at h;cases h
   exact⟨(kF _ _ v).trans h,nU _ _ v⟩
  .have v:j≠t:=λe'=>by rw[e',u]at h;cases h
   exact⟨(kF _ _ v).trans h,rfl⟩
 refine r.move O O (λl b g=>F.block b (r.fx.lt l b g)) (λj b c d=>?_) (nK.oD F) (λb o hb h=>vT Z b o hb h) V (r.left.ext F) (λj z h=>?_) (λj h=>?_) (λj y b c d p C=>?_)
 .by_cases i:j=t
  .subst i;rw[nq]at d;injection d with d;subst d;exact .inr (kK _)
  .rw[kF _ _ i]at c;rw[nU _ _ i]at d;exact .inl ⟨c,d⟩
 .by_cases i:j=t
  .subst i;rw[kB]at h;injection h with h;subst h;exact .inl m
  .rw[kF _ _ i]at h;refine .inr ⟨h,nU _ _ i,λb _ hb=>?_⟩;have G:=Z j z b h hb;exact F.block b G
 .by_cases i:j=t
  .subst i;rw[kB]at h;cases h
  .rw[kF _ _ i]at h;rw[nU _ _ i];exact⟨h,r.x3 j h⟩
 .have K:∀j,j≠t->nR (l9 H t (.tail e n k') j)=true->(B.E2 t w.heap.size) j=some b->b<w.heap.size:=by
   intro j i g hb;rw[kF _ _ i]at g;rw[nU _ _ i]at hb;cases D:H j with
   |none=>rw[D]at g;cases g
   |some z=>exact Z j z b D hb
  by_cases i:j=t
  .by_cases W:y=t
   .rw[i,W]
   .have:=K y W d C;subst i;rw[nq]at p;injection p with p;omega
  .by_cases W:y=t
   .have:=K j i c p;subst W;rw[nq]at C;injection C with C;omega
   .rw[kF _ _ i]at c;rw[nU _ _ i]at p;rw[kF _ _ W]at d;rw[nU _ _ W]at C;exact r.inj j y b c d p C
def mg.room(r:mg E nt B T H a w){t n k k' b cap:Nat}{e:TypeId}{G cur':Array Value}(v:H t=some (.tail e n k))(y:k<k')(f:B t=some b)(D:w.heap[b]?=some (.cells G e (0,0)))(s:G.size=cap*n)(x:k'<=cap)(U:cap<=maxLen)
 (u:uX w w' b) (Y:w'.heap[b]?=some (.cells cur' e (0,0))) (i:cur'.size=G.size) (hold:∀o,o<k*n->cur'[o]?=G[o]?):mg E nt B T (l9 H t (.tail e n k')) a w':=by
 have hlive:nR (H t)=true:=by rw[v];rfl
 have X:=r.box t _ v;have hn:0<n:=X.1
 have hent:EY E b (k*n):=by
  rcases X.2.2 with⟨g,_⟩|⟨b',_,_,g,_,_,_,_,F⟩
  .rw[f]at g;cases g
  .rw[f]at g;injection g with g;subst g;exact F
 have Z:∀b' o,kI E B (l9 H t (.tail e n k')) b' o->kI E B H b' o:=by
  rintro b' o (h|h|⟨j,c,d⟩)
  .exact .inl h
  .exact .inr (.inl h)
  .refine .inr (.inr ⟨j,c,?_⟩);by_cases m:j=t
   .subst m;rw[kB]at d;rw[v];have:k*n<=k'*n:=mH n kh
    show k*n<=o
    have h2':k'*n<=o:=d;omega
   .rwa[kF _ _ m]at d
 have N:nK (kI E B H) w w':=u.evo D Y i (λo h=>by
  refine hold o ?_;rcases Ba o (k*n)with h'|h'
  .exact h'
  .exact absurd (.inr (.inr ⟨t,f,by rw[v];exact h'⟩)) h)
 have W:qt w w' B B H (l9 H t (.tail e n k')):=by
  refine⟨λ_ _ _ h=>h,λj h=>?_,λt' S len A L h=>?_,sC N (λg' e' S J h=>?_),λj h=>?_⟩
  .have m:j≠t:=λe=>by rw[e,v]at h;cases h
   rw[kF _ _ m];exact h
  .obtain⟨e',q,c,d,p⟩:=h;by_cases m:t'=t
   .subst m;rw[v]at c;injection c with c;injection c with P z R;subst P z R;exact ep
   .refine⟨e',q,by rw[kF _ _ m];exact c,d,λy=>⟨(p y).1,λb' I=>?_⟩⟩;obtain⟨g,G,k2,k3⟩:=(p y).2 b' I;have hbb:b'≠b:=λe'=>m (r.inj t' t b jZ hlive (e'▸I) f);exact⟨g,G,(u.other b' hbb).trans k2,k3⟩
  .have K:g'≠t:=λe'=>by rw[e',v]at h;cases h
   exact⟨(kF _ _ K).trans h,rfl⟩
  .have K:j≠t:=λe'=>by rw[e',v]at h;cases h
   exact⟨(kF _ _ K).trans h,rfl⟩
 refine r.move O O (λl b' i=>u.other b' λe=>r.fx.out l b' t i hlive (e▸f)) (λj b' c d=>.inl ⟨by rw[zE j0]at c;exact c,d⟩) N (λb' o _ h=>Z b' o h) W (u.left r.left D Y i hold hent) (λj V h=>?_) (λj h=>?_) (λj M b' c d p C=>?_)
 .by_cases m:j=t
  .subst m;rw[kB]at h;injection h with h;subst h;exact .inl ⟨hn,X.2.1.grow y,.inr ⟨b,cur',cap,f,Y,by rw[i];exact s,x,U,hent.mono (mH n kh)⟩⟩
  .rw[kF _ _ m]at h;exact .inr ⟨h,rfl,λb' hlv I=>u.other b' λe'=>m (r.inj j t b (by rw[h];exact hlv) hlive (e'▸I) f)⟩
 .by_cases m:j=t
  .subst m;rw[kB]at h;cases h
  .rw[kF _ _ m]at h;exact⟨h,r.x3 j h⟩
 .rw[zE j0]at c d;exact r.inj j M b' c d p C
def rC{f:Nat->Option α}{k:Nat}{v:α}(h:f k=some v):l9 f k v=f:=by
 funext j;unfold l9;split
 .rename_i e;subst e;exact h.symm
 .rfl
end
theorem oi{U:u0}{w:World}{n:Nat}{B:nE}{H:Hp}:∀{G J:List AV} {c d:List Value},ov U w n G B H c->ov U w n J B H d->ov U w n (G++J) B H (c++d)
 | [],J,c,d,a,b=>by simp only[ov]at a;subst a;simpa using b
 |x::G,J,c,d,a,b=>by
  simp only[ov]at a;obtain⟨c1,c2,rfl,hn,k,A⟩:=a;rw[Xg];simp only[ov];exact⟨c1,c2++d,by simp,hn,k,oi A b⟩
theorem lG{U:u0}{w:World}{n:Nat}{B:nE}{H:Hp}:∀{G:List AV} {c:List Value},ov U w n G B H c->c.length=G.length*n
 | [],c,h=>fo
 |x::G,c,h=>by
  simp only[ov]at h;obtain⟨c1,c2,rfl,hn,k,A⟩:=h;have:=lG A;rw[lA,sc,sb];omega
mutual
theorem EX{U:u0}{w:World}:∀(x:AV) {B:nE} {H:Hp} {c:List Value},Rd U w x B H c-> ∀v∈c,v.oneCell'=true
 | .v x,_,_,c,h=>by simp only[Rd]at h;obtain⟨h1,rfl⟩:=h;simpa using HE h1
 | .agg n fs,_,_,c,h=>by simp only[Rd]at h;exact ZO fs h.2
 | .arr m n G,_,_,c,h=>by simp only[Rd]at h;exact vR n G h.2
 | .ptr _ _ _,_,_,c,h=>by simp only[Rd]at h;obtain⟨_,b,_,rfl⟩:=h;simp[Value.oneCell']
 | .ref _,_,_,c,h=>by simp only[Rd]at h;obtain⟨b,off,c',rfl,_⟩:=h;simp[Value.oneCell']
 | .sl _ _ _,_,_,c,h=>by simp only[Rd]at h;obtain⟨A,cap,rfl,_⟩:=h;simp[Value.oneCell']
 | .seg _ _ _ _ _ _,_,_,c,h=>by simp only[Rd]at h;obtain⟨_,b,_,_,_,rfl⟩:=h;simp[Value.oneCell']
 | .mz _,_,_,c,h=>fc
 | .fn _ _ _,_,_,c,h=>by simp only[Rd]at h;obtain⟨c1,c2,rfl,_⟩:=h;simp[Value.oneCell']
 | .ifc _ _,_,_,c,h=>by simp only[Rd]at h;obtain⟨c1,_,rfl⟩:=h;simp[Value.oneCell']
 | .own _ _ _ _,_,_,c,h=>by
  simp only[Rd]at h;obtain⟨v,⟨_,_,_,_,h1,_⟩,rfl⟩:=h;simpa using h1
 | .raw _ _ x,_,_,c,h=>by simp only[Rd]at h;obtain⟨h1,rfl⟩:=h;simpa using h1
 | .hv _,_,_,c,h=>by simp only[Rd]at h;obtain⟨_,h1,rfl⟩:=h;simpa using h1
theorem ZO{U:u0}{w:World}:∀(G:List AV) {B:nE} {H:Hp} {c:List Value},qQ U w G B H c-> ∀v∈c,v.oneCell'=true
 | [],_,_,c,h=>by simp only[qQ]at h;subst h;simp
 |x::G,_,_,c,h=>by
  simp only[qQ]at h;obtain⟨c1,c2,rfl,h1,h2⟩:=h;intro v hv;rcases rJ.1 hv with hv|hv
  .exact EX x h1 v hv
  .exact ZO G h2 v hv
theorem vR{U:u0}{w:World}(n:Nat):∀(G:List AV) {B:nE} {H:Hp} {c:List Value},ov U w n G B H c-> ∀v∈c,v.oneCell'=true
 | [],_,_,c,h=>fo
 |x::G,_,_,c,h=>by
  simp only[ov]at h;obtain⟨c1,c2,rfl,_,h1,h2⟩:=h;intro v hv;rcases rJ.1 hv with hv|hv
  .exact EX x h1 v hv
  .exact vR n G h2 v hv
end
def pg{c:List Value}(h:mQ w b off n=some c.toArray):∀j u,c[j]?=some u->w.cell? ((⟨b,off,none⟩:Addr).add j)=some u:=by
 intro j u hu;obtain⟨a,d⟩:=zr h
 have i:j<n:=by have:=(mS.1 hu).1;simp at a;omega
 have M:(⟨b,off,none⟩:Addr).add j=⟨b,off+j,none⟩:=e6;rw[M,d j i];simpa using hu
def Nu(P:Program)(E:su)(B:nE)(H:Hp)(w:World)(tx:TypeId)(n:Nat)(v:Value)(J:List AV):Prop:=
 ∃f,Src P n tx v J.length f w/\ov (kI E B H) w n J B0 H0 f
def ajm{tx:TypeId}{tok:Option Nat}(x:P.underlying tx=some (.slice e))(h:Rd (kI E B H) w (.sl tok n J) B H [v]):Nu P E B H w tx n v J:=by
 simp only[Rd]at h;obtain⟨A,cap,a,d,k,C,_⟩:=h;injection a with a;subst a;cases J with
 |nil=>
  cases A with
  |none=>exact⟨[],Src.ofNil w x cap,by simp[ov]⟩
  |some m=>exact⟨[],Src.ofSlice w x m 0 cap [] ki ki ki,by simp[ov]⟩
 |cons y J=>
  obtain⟨b,off,c,rfl,f,k2,k3⟩:=C ki;exact⟨c,Src.ofSlice w x _ _ cap c (lG k3) (pg f) (vR n _ k3),k3⟩
def AD(s:ByteArray):List AV:=s.data.toList.map λb=>.v (.int .u8 b.toNat)
inductive TI where
 |word
 |st (n:Nat) (fs:List (Nat×Nat×Bool))
 |arr (n len es:Nat) (ea:Bool) (e:TypeId)
 |sl (e:TypeId) (es bytes:Nat) (ea:Bool)
def TI.sa:TI->Bool×Nat
 | .word=>(false,1)
 | .st n _=>(true,n)
 | .arr n _ _ _ _=>(true,n)
 | .sl _ _ _ _=>(false,1)
def FOk(P:Program):List (Nat×TypeId)->List (Nat×Nat×Bool)->Prop
 | [],[]=>True
 |(o,t)::a,(o',s,g)::b=>o=o'/\zg P t g s/\FOk P a b
 | [],_::_=>False
 |_::_,[]=>False
theorem FOk.at{P:Program}:∀{l:List (Nat×TypeId)} {fs:List (Nat×Nat×Bool)},FOk P l fs-> ∀(i o s:Nat) (g:Bool),fs[i]?=some (o,s,g)-> ∃t,l[i]?=some (o,t)/\zg P t g s
 | [],[],_,i,o,s,g,h=>fq
 |(o0,u)::a,(o1,V,v)::b,w,i,o,s,g,h=>by
  obtain⟨c,d,k⟩:=w;cases i with
  |zero=>
   simp only[List.getElem?_cons_zero,mr,pq]at h;obtain⟨rfl,rfl,rfl⟩:=h;exact⟨u,by simp[c],d⟩
  |succ i=>simpa using k.at i o s g jE
 | [],_::_,h,_,_,_,_,_=>h.elim
 |_::_,[],h,_,_,_,_,_=>h.elim
def Xu(P:Program)(t:TypeId):TI->Prop
 | .word=>zg P t false 1
 | .st n fs=>zg P t true n/\ ∃F:Array Field,P.underlying t=some (.struct F)/\FOk P (F.toList.map λf=>(f.offset,f.type)) fs
 | .arr n len es ea e=>zg P t true n/\P.underlying t=some (.array len e)/\zg P e ea es
 | .sl e es bytes ea=>zg P t false 1/\P.underlying t=some (.slice e)/\zg P e ea es/\ ∃i z,P.info? e=some i/\i.zero=some z/\i.size=es/\i.bytes=bytes/\z.cells.size=es
structure ZL(P:Program) where
 ti:TypeId->Option TI
 ok:∀t i,ti t=some i->Xu P t i
def ZL.sa(B:ZL P)(t:TypeId):Option (Bool×Nat):=(B.ti t).map TI.sa
def ZL.u5(B:ZL P){t:TypeId}{g:Bool}{n:Nat}(h:B.sa t=some (g,n)):zg P t g n:=by
 unfold ZL.sa at h;cases hi:B.ti t with
 |none=>rw[hi]at h;cases h
 |some i=>
  rw[hi]at h;have:=B.ok t i hi;cases i<;>simp only[Option.map_some,TI.sa,mr,pq]at h<;>obtain⟨rfl,rfl⟩:=h
  .exact this
  .exact this.1
  .exact this.1
  .exact this.1
def lC{t:TypeId}{g:Bool}(h:zg P t g n)(w:World):(sizeOf t).run P w= .ok n w:=by
 obtain⟨d,_,_,hi⟩:=h;cases c:P.info? t with
 |none=>rw[c]at hi;cases hi
 |some i=>
  have:i.size=n:=by simpa[c]using hi
  simp[sizeOf,typeInfo,c,this]
variable {F:Array Field}
def Da{fs:List (Nat×Nat×Bool)}(A:FOk P (F.toList.map λf=>(f.offset,f.type)) fs)(i o s:Nat)(g:Bool)(h:fs[i]?=some (o,s,g)):∃f,F[i]?=some f/\f.offset=o/\zg P f.type g s:=by
 obtain⟨j,e,k2⟩:=A.at i o s g h;rw[oI]at e;cases z:F.toList[i]? with
 |none=>rw[z]at e;cases e
 |some f=>
  rw[z]at e;simp only[Option.map_some,mr,pq]at e;obtain⟨rfl,rfl⟩:=e;exact⟨f,by simpa using z,rfl,k2⟩
def am8{t:Nat}{l:List (Nat×TypeId)}{fs:List (Nat×Nat×Bool)}(a:zg P t true n)(b:P.underlying t=some (.struct F))(k:F.toList.map (λf=>(f.offset,f.type))=l)(A:FOk P l fs):Xu P t (.st n fs):=⟨a,F,b,by rw[k];exact A⟩
def agJ(P:Program):List (Nat×TI)->Prop
 | []=>True
 |(t,i)::l=>Xu P t i/\agJ P l
theorem Ti{P:Program}:∀{l:List (Nat×TI)},agJ P l-> ∀t i,kV t l=some i->Xu P t i
 | [],_,t,i,h=>fk
 |(j,x)::l,g,t,i,h=>by
  simp only[kV]at h;cases hb:Nat.beq j t
  .rw[hb]at h;exact Ti g.2 t i h
  .rw[hb]at h;simp only[cond_true,mr]at h;subst h;rw[<-mi hb];exact g.1
def te:List AV->Nat
 | []=>0
 |x::l=>lE x+te l
def aby(fs:List (Nat×Nat×Bool))(y:AV)(f:Nat):Option (Nat×AV):=
 match fs[f]?,y with
 |some (o,s,_),.agg _ J=>match J[f]? with
  |some z=>bif Nat.beq o (te (J.take f))&&Nat.beq (lE z) s&&Nat.blt 0 s then some (o,z)else none
  |none=>none
 |_,_=>none
variable {z:AV}
def Oz{fs:List (Nat×Nat×Bool)}{y:AV}{f o:Nat}(h:aby fs y f=some (o,z)):∃n J g,y= .agg n J/\J[f]?=some z/\fs[f]?=some (o,lE z,g)/\o=te (J.take f)/\0<lE z:=by
 unfold aby at h;split at h
 .rename_i o' s g n J a;split at h
  .rename_i z' b;cases hb:(Nat.beq o' (te (J.take f))&&Nat.beq (lE z') s&&Nat.blt 0 s)
   .rw[hb]at h;cases h
   .rw[hb]at h;simp only[cond_true,mr,pq]at h;obtain⟨rfl,rfl⟩:=h;simp only[l5]at hb;obtain⟨⟨A,Z⟩,b3⟩:=hb;have P:=mi A;have c:=mi Z;have R:0<s:=by simpa using b3
    subst c;exact⟨n,J,g,rfl,b,a,P,R⟩
  .cases h
 .cases h
theorem MG{U:u0}{w:World}{B:nE}{H:Hp}:∀{J:List AV} {c:List Value} {f:Nat} {z:AV},qQ U w J B H c->J[f]?=some z-> ∃c1 c2 c3,c=c1++c2++c3/\c1.length=te (J.take f)/\Rd U w z B H c2/\
 ∀z' M,Rd U w z' B H M->qQ U w (J.set f z') B H (c1++M++c3)
 | [],_,_,_,_,h=>fq
 |y::J,c,0,z,I,h=>by
  simp only[qQ]at I;obtain⟨c1,c2,rfl,a,b⟩:=I;simp at h;subst h;refine⟨[],c1,c2,rfl,rfl,a,λz' M k=>?_⟩;simp only[List.set_cons_zero,List.nil_append,qQ];exact⟨M,c2,rfl,k,b⟩
 |y::J,c,f+1,z,I,h=>by
  simp only[qQ]at I;obtain⟨c1,c2,rfl,a,b⟩:=I;obtain⟨W,A,Z,rfl,e,k2,k3⟩:=MG b jE;refine⟨c1++W,A,Z,by simp,by simp[te,e,nJ a],k2,λz' M k=>?_⟩;simp only[List.set_cons_succ,qQ];exact⟨c1,W++M++Z,by simp,a,k3 z' M k⟩
theorem Rn{U:u0}{w:World}{n:Nat}{B:nE}{H:Hp}:∀{J:List AV} {c:List Value} {f:Nat} {z:AV},ov U w n J B H c->J[f]?=some z-> ∃c1 c2 c3,c=c1++c2++c3/\c1.length=f*n/\c2.length=n/\Rd U w z B H c2/\
 ∀z' M,Rd U w z' B H M->M.length=n->ov U w n (J.set f z') B H (c1++M++c3)
 | [],_,_,_,_,h=>fq
 |y::J,c,0,z,I,h=>by
  simp only[ov]at I;obtain⟨c1,c2,rfl,hn,a,b⟩:=I;simp at h;subst h;refine⟨[],c1,c2,rfl,by simp,hn,a,λz' M k A=>?_⟩;simp only[List.set_cons_zero,List.nil_append,ov];exact⟨M,c2,rfl,A,k,b⟩
 |y::J,c,f+1,z,I,h=>by
  simp only[ov]at I;obtain⟨c1,c2,rfl,hn,a,b⟩:=I;obtain⟨W,C,Z,rfl,e,k2,k3,l⟩:=Rn b jE;refine⟨c1++W,C,Z,by simp,by rw[lA,e,hn,sb];omega,k2,k3,λz' M k A=>?_⟩;simp only[List.set_cons_succ,ov];exact⟨c1,W++M++Z,by simp,hn,a,l z' M k A⟩
def sU:List Nat->AV->Option AV
 | [],x=>some x
 |i::p,.agg _ J=>match J[i]? with
  |some y=>sU p y
  |none=>none
 |i::p,.arr _ _ J=>match J[i]? with
  |some y=>sU p y
  |none=>none
 |_::_,_=>none
def tj:List Nat->AV->Nat
 | [],_=>0
 |i::p,.agg _ J=>te (J.take i)+tj p (J.getD i (.v undef))
 |i::p,.arr _ n J=>i*n+tj p (J.getD i (.v undef))
 |_::_,_=>0
def xM(v:AV):List Nat->AV->Option AV
 | [],_=>some v
 |i::p,.agg n J=>match J[i]? with
  |some y=>(xM v p y).map λz=>.agg n (J.set i z)
  |none=>none
 |i::p,.arr m n J=>match J[i]?,mO v with
  |some y,true=>(xM v p y).map λz=>.arr m n (J.set i z)
  |_,_=>none
 |_::_,_=>none
theorem wz{U:u0}{w:World}{B:nE}{H:Hp}:∀(p:List Nat) {x:AV} {c:List Value} {y:AV},Rd U w x B H c->sU p x=some y-> ∃c1 c2 c3,c=c1++c2++c3/\c1.length=tj p x/\Rd U w y B H c2/\
 ∀v X c',xM v p x=some X->Rd U w v B H c'->c'.length=c2.length->Rd U w X B H (c1++c'++c3)
 | [],x,c,y,I,h=>by
  simp only[sU,mr]at h;subst h;exact⟨[],c,[],by simp,rfl,I,λv X c' a b _=>by simp only[xM,mr]at a;subst a;simpa using b⟩
 |i::p,.agg n J,c,y,I,h=>by
  simp only[Rd]at I;obtain⟨hn,I⟩:=I;simp only[sU]at h;cases F:J[i]? with
  |none=>rw[F]at h;cases h
  |some z=>
   rw[F]at h;obtain⟨c1,c2,c3,rfl,e,k2,k3⟩:=MG I F;obtain⟨W,C,Z,rfl,M,m2,q⟩:=wz p k2 h;refine⟨c1++W,C,Z++c3,by simp,by simp[tj,e,M,F],m2,λv X c' a b k=>?_⟩;simp only[xM,F,s9]at a;obtain⟨z',A,rfl⟩:=a;have D:=k3 z' _ (q v z' c' A b k);simp only[Rd];refine⟨by simp at hn⊢;omega,?_⟩;simpa using D
 |i::p,.arr m n J,c,y,I,h=>by
  simp only[Rd]at I;obtain⟨T,I⟩:=I;simp only[sU]at h;cases F:J[i]? with
  |none=>rw[F]at h;cases h
  |some z=>
   rw[F]at h;obtain⟨c1,c2,c3,rfl,e,kn,k2,k3⟩:=Rn I F;obtain⟨W,C,Z,rfl,M,m2,q⟩:=wz p k2 h;refine⟨c1++W,C,Z++c3,by simp,by simp[tj,e,M,F],t4 _ m2,λv X c' a b k=>?_⟩;simp only[xM,F]at a;cases o:mO v with
   |false=>rw[o]at a;cases a
   |true=>
    rw[o]at a;simp only[s9]at a;obtain⟨z',A,rfl⟩:=a;have D:=k3 z' _ (q v z' c' A (pQ v o b) k) (by simp at kn⊢;omega);simp only[Rd];refine⟨by simp at T⊢;omega,?_⟩;simpa using D
 |_::_,.v _,_,_,_,h=>ft
 |_::_,.ptr _ _ _,_,_,_,h=>ft
 |_::_,.ref _,_,_,_,h=>ft
 |_::_,.sl _ _ _,_,_,_,h=>ft
 |_::_,.seg _ _ _ _ _ _,_,_,_,h=>ft
 |_::_,.mz _,_,_,_,h=>ft
 |_::_,.fn _ _ _,_,_,_,h=>ft
 |_::_,.ifc _ _,_,_,_,h=>ft
 |_::_,.own _ _ _ _,_,_,_,h=>ft
 |_::_,.raw _ _ _,_,_,_,h=>ft
 |_::_,.hv _,_,_,_,h=>by simp[sU]at h
def CZ{x:AV}{c:List Value}(h:Rd U w x B H c):(if na x then Value.agg c.toArray else c.headD undef)=m9 x c:=by
 cases j:na x
 .have L:=(tZ h).2 j;rw[L];simp;have:m9 x [m9 x c]=m9 x c:=by rw[<-L]
  exact this.symm▸rfl
 .simp[(tZ h).1 j]
variable {c1 c2 c3:List Value}
variable {ix:Operand}{es:Nat}{ea:Bool}
variable {sz:Nat}{ag:Bool}
variable {tn:Nat}
section
variable (tb:ZL P)
theorem NQ{x:AV}:na x=false->lE x=1:=by cases x<;>simp[na,lE]
theorem ss(b off n:Nat):(⟨b,off,none⟩:Addr).add n=⟨b,off+n,none⟩:=by unfold Addr.add;split<;>simp_all
theorem Ad(h:mQ w b off (c1++c2++c3).length=some (c1++c2++c3).toArray):mQ w b (off+c1.length) c2.length=some c2.toArray:=by
 rw[yx h c1.length c2.length (by simp<;>omega)];unfold mD;rw[kx (by simp<;>omega)]
 congr 1
 apply sr;simp[List.extract_eq_take_drop,DL,GV]
theorem SN{t:TypeId}{y:AV}(n:lK nt d=true)(j:kv T x=some (.ref y))(o:tb.sa t=some (na y,lE y)):kE P E nt ops ⟨d,.load t x,ty,pos,af,gd⟩ T H [] ⟨y,[]⟩:=
 lO n λB T' H' a w r s D=>by have h:=ml ki (r.eval ((s x js).trans j)) O;simp only[Rd]at h;obtain⟨b,off,c,e,f,k,A⟩:=h;injection e with e;have I:=pX (tb.u5 o) (by rw[<-nJ A];exact f) NQ;rw[CZ A]at I;refine⟨m9 y c,?_,by rw[kJ (oV A)];exact⟨c,t4 y A,rfl⟩⟩;simp[execOp,e,Instr.loadAt,Instr.sureAddr,I]
theorem V1{s:TypeId}{f o:Nat}{fs:List (Nat×Nat×Bool)}{y:AV}(p:lK nt d=true)(k:kv T x=some (.ref y))(t:tb.ti s=some (.st n fs))(A:aby fs y f=some (o,z)):
 kE P E nt ops ⟨d,.fieldAddr s x f,ty,pos,af,gd⟩ T H [] ⟨.ref z,[]⟩:=
 lO p λB T' H' a w r u D=>by
  have h:=ml ki (r.eval ((u x js).trans k)) O;simp only[Rd]at h;obtain⟨b,off,c,e,i,l,C⟩:=h;injection e with e;obtain⟨m,J,g,rfl,j,k2,k3,G⟩:=Oz A;simp only[Rd]at C;obtain⟨c1,c2,c3,rfl,M,m2,_⟩:=MG C.2 j;obtain⟨_,F,hu,hF⟩:=tb.ok s _ t;obtain⟨U,R,L,N⟩:=Da hF f o (lE z) g k2;have v:=lC N w;have I:lE z≠0:=eY;refine⟨.pointer (some ⟨b,off+o,none⟩),?_,?_⟩
  .simp[execOp,e,Instr.fieldAt,lu hu,R,Instr.sureAddr,fieldPlace,v,I,L,ss]
  .rw[kJ ki];refine⟨[_],?_,rfl⟩;simp only[Rd];refine⟨b,off+o,c2,rfl,?_,λq S K=>l q kh jY,m2⟩;rw[k3,<-M];exact Ad i
theorem abe{t:TypeId}{bytes:Nat}{tok:Option Nat}{i:Int}{y:AV}(p:lK nt d=true)(s:tb.ti t=some (.sl e es bytes ea))(n:kv T x=some (.sl tok es G))(hi:kv T ix=some (.v (.int k i)))
 (z:0<=i) (F:G[i.toNat]?=some y):kE P E nt ops ⟨d,.indexAddr t x ix,ty,pos,af,gd⟩ T H [] ⟨.ref y,[]⟩:=
 lO p λB T' H' a w r u D=>by
  have h:=ml ki (r.eval ((u x js).trans n)) O;have m:=r.od ((u ix js).trans hi);simp only[Rd]at h;obtain⟨A,cap,f,g,o,C,_⟩:=h;injection f with f;have Z:i.toNat<G.length:=(mS.1 F).1;obtain⟨b,off,c,rfl,j,k2,k3⟩:=C kh;obtain⟨c1,c2,c3,rfl,M,N,m2,_⟩:=Rn k3 F;obtain⟨_,hu,L,_⟩:=tb.ok t _ s;have v:=lC L w;have I:i<(G.length:Int):=eY;have l:=lG k3;refine⟨.pointer (some ⟨b,off+i.toNat*es,none⟩),?_,?_⟩
  .simp[execOp,f,m,Instr.indexAt,lu hu,asIntOf,v,z,I,ss]
  .rw[kJ ki];refine⟨[_],?_,rfl⟩;simp only[Rd];refine⟨b,off+i.toNat*es,c2,rfl,?_,λq K J=>k2 q kh (by simp at l;omega),m2⟩;rw[<-M];rw[<-l]at j;exact Ad j
def Ga:Bx->Option AV
 | .var x=>some x
 | .froz x=>some x
 | .tail _ _ _=>none
 | .own _ _ _=>none
 | .hid=>none
 | .ext _=>none
theorem aiU(r:mg E nt B T H a w){g b:Nat}{bx:Bx}{x:AV}(u:H g=some bx)(j:Ga bx=some x)(c:B g=some b):∃cs,mQ w b 0 cs.length=some cs.toArray/\Rd (kI E B H) w x B H cs:=by
 have h:=r.box g bx u;cases bx with
 |var y=>
  obtain⟨b',cs,t,f,k2,k3,_⟩:=h;rw[c]at f;injection f with f;subst f
  simp only[Ga,mr]at j;subst j;exact⟨cs,by rw[mX k2];exact pC _ _ ki,k3⟩
 |froz y=>
  obtain⟨b',cs,f,k2,_,l⟩:=h;rw[c]at f;injection f with f;subst f
  simp only[Ga,mr]at j;subst j;exact⟨cs,k2,l⟩
 |tail e n k=>simp[Ga]at j
 |own e n G=>simp[Ga]at j
 |hid=>simp[Ga]at j
 |ext M=>simp[Ga]at j
theorem SO{t:TypeId}{y:AV}(n:lK nt d=true)(j:kv T x=some (.ptr g off p))(u:H g=some bx)(f:Ga bx=some y)(X:sU p y=some z)(U:tj p y=off)(o:tb.sa t=some (na z,lE z)):
 kE P E nt ops ⟨d,.load t x,ty,pos,af,gd⟩ T H [g] ⟨z,[]⟩:=
 lO n λB T' H' a w r s D=>by have h:=ml ki (r.eval ((s x js).trans j)) O;simp only[Rd]at h;obtain⟨_,b,c,e⟩:=h;injection e with e;obtain⟨cs,i,k2⟩:=aiU r ((D g ki).trans u) f c;obtain⟨c1,c2,c3,rfl,M,m2,_⟩:=wz p k2 X;have S:=Ad i;rw[oa,M,U]at S;have I:=pX (tb.u5 o) (by rw[<-nJ m2];exact S) NQ;rw[CZ m2]at I;refine⟨m9 z c2,?_,by rw[kJ (oV m2)];exact⟨c2,m2,rfl⟩⟩;simp[execOp,e,Instr.loadAt,Instr.sureAddr,I]
theorem V3{s:TypeId}{f o:Nat}{fs:List (Nat×Nat×Bool)}(q:lK nt d=true)(j:kv T x=some (.ptr g off p))(t:tb.ti s=some (.st n fs))(z:fs[f]?=some (o,sz+1,ag)):
 kE P E nt ops ⟨d,.fieldAddr s x f,ty,pos,af,gd⟩ T H [] ⟨.ptr g (off+o) (p++[f]),[]⟩:=
 lO q λB T' H' a w r u D=>by
  have h:=ml ki (r.eval ((u x js).trans j)) O;simp only[Rd]at h;obtain⟨y,b,c,e⟩:=h;injection e with e;obtain⟨_,F,hu,hF⟩:=tb.ok s _ t;obtain⟨v,C,I,G⟩:=Da hF f o (sz+1) ag z;have i:=lC G w;refine⟨.pointer (some ⟨b,off+o,none⟩),?_,?_⟩
  .simp[execOp,e,Instr.fieldAt,lu hu,C,Instr.sureAddr,fieldPlace,i,I,ss]
  .rw[kJ ki];exact⟨_,by simp only[Rd];exact⟨y,b,c,rfl⟩,rfl⟩
theorem V0{t:TypeId}{i:Int}(n:lK nt d=true)(o:tb.ti t=some (.arr tn len es ea e))(m:kv T x=some (.ptr g off p))(hi:kv T ix=some (.v (.int k i)))
 (u:0<=i) (j:i<(len:Int)):kE P E nt ops ⟨d,.indexAddr t x ix,ty,pos,af,gd⟩ T H [] ⟨.ptr g (off+i.toNat*es) (p++[i.toNat]),[]⟩:=
 lO n λB T' H' a w r s D=>by
  have h:=ml ki (r.eval ((s x js).trans m)) O;have l:=r.od ((s ix js).trans hi);simp only[Rd]at h;obtain⟨y,b,c,f⟩:=h;injection f with f;obtain⟨_,hu,L⟩:=tb.ok t _ o;have q:=lC L w;refine⟨.pointer (some ⟨b,off+i.toNat*es,none⟩),?_,?_⟩
  .simp[execOp,f,l,Instr.indexAt,lu hu,asIntOf,q,u,j,ss,Instr.sureAddr]
  .rw[kJ ki];exact⟨_,by simp only[Rd];exact⟨y,b,c,rfl⟩,rfl⟩
end
variable {old z':AV}
variable {ats:Array TypeId}
variable {tk:Nat}{yv:Value}
variable {s:Operand}{src:AV}
section
variable (tb:ZL P)
def lS:AV->Bool
 | .mz _=>false
 |_=>true
theorem l6{x:AV}(h:lS x=true):∀G,x≠ .mz G:=by rintro G rfl;simp[lS]at h
theorem oC{e:Eff}(n:lK nt d=true)
 (h:∀B T' H' a w,mg E nt B T' H' a w->(∀y∈op.operands.toList,kv T' y=kv T y)->(∀g∈rh,H' g=H g)->(∀p∈e.wr,H' p.1=H p.1)->
  ∃v w' B',(execOp a.eval ⟨d,op,ty,pos,af,gd⟩).run P w= .ok (.value v) w'/\mg E nt B' T' (nA H' e.wr) a w'/\qJ (kI E B' (nA H' e.wr)) w' B' (nA H' e.wr) e.val v):kE P E nt ops ⟨d,op,ty,pos,af,gd⟩ T H rh e:=by
 intro T' H' s D f B a w r K Q G;obtain⟨v,w',B',b,c,k⟩:=h B T' H' a w r (λy F=>mv s F) D f;unfold Oper.wp;rw[b];exact G B' _ w' (c.put n k)
theorem vo{H:Hp}{x:AV}{c:List Value}(h:Rd U w x B H c):(m9 x c).cells=c.toArray:=by
 cases j:na x
 .have L:=(tZ h).2 j
  have T:m9 x c∈c:=by
   generalize y:m9 x c=v at L;rw[L];simp
  have a:=EX x h (m9 x c) T
  have:(m9 x c).cells= #[m9 x c]:=by
   generalize m9 x c=v at a;cases v<;>simp[Value.oneCell']at a<;>rfl
  rw[this];generalize y:m9 x c=v at L;rw[L]
 .rw[(tZ h).1 j];rfl
theorem wc{t:TypeId}{g:Bool}(s:zg P t g n){b off:Nat}{w:World}{C:Array Value}{R:TypeId}{v:Value}{c:List Value}(y:v.cells=c.toArray)(e:w.heap[b]?=some (.cells C R (0,0)))(i:c.length=n)(N:off+n<=C.size)(a:∀u∈c,u.oneCell'=true):
 (storeVar t ⟨b,off,none⟩ v).run P w= .ok () (mw w b off c.toArray):=by
 have o:=ux P b R c off 0 C w jJ kh a;have d:v.cells.toList=c:=by rw[y]
 have f:=lC s w;have p:v.cells.size=n:=by rw[y];simpa using i
 simp only[storeVar,Sem.run_bind,f,Result.andThen_ok,p,ne_eq,not_true,rL,d];simpa using o
theorem oZ:uX w (mw w b off cs) b:=⟨O,rfl,rfl,Ce ..,λk x=>yA x⟩
theorem KZ{c':List Value}(h:c'.length=c2.length):lY (c1++c2++c3).toArray c1.length c'.toArray=(c1++c'++c3).toArray:=by
 unfold lY;apply sr;simp[DL,GV,h]
theorem nX{t:TypeId}{v:AV}(n:lK nt d=true)(k:kv T x=some (.ptr g off p))(F:kv T y=some v)(u:H g=some (.var z))(X:sU p z=some old)(U:tj p z=off)(A:xM v p z=some z')
 (o:tb.sa t=some (na v,lE v)) (C:lE v=lE old) (N:lS v=true):kE P E nt ops ⟨none,.store t x y,ty,pos,af,gd⟩ T H [] ⟨.mz [],[(g,.var z')]⟩:=by
 intro T' H' s D l B a w r K Q G;have h:=ml ki (r.eval ((mv s js).trans k)) O;have J:=r.eval ((mv s (x:=y) js).trans F);rw[kJ (l6 N)]at J;obtain⟨c',S,I⟩:=J;simp only[Rd]at h;obtain⟨_,b,e,f⟩:=h;injection f with f;have Y:H' g=some (.var z):=(l (g,.var z') ki).trans u;obtain⟨b',cs,V,i,k2,k3,m⟩:=r.box g _ Y;rw[e]at i;injection i with i;subst i
 obtain⟨c1,c2,c3,rfl,M,m2,q⟩:=wz p k3 X;have j:c'.length=c2.length:=by rw[nJ S,nJ m2,C]
 have R:=wc (tb.u5 o) (off:=off) (v:=a.eval y) (c:=c') (by rw[I];exact vo S) k2 (nJ S) (by rw[<-U,<-M,<-nJ S,j];simp<;>omega) (EX v S);unfold Oper.wp
 have L:(execOp a.eval ⟨none,.store t x y,ty,pos,af,gd⟩).run P w= .ok .skip (mw w b off c'.toArray):=by simp[execOp,f,Instr.storeAt,Instr.sureAddr,R]
 rw[L];refine G B _ _ ?_;have:=r.store (x':=z') (cs':=c1++c'++c3) Y e k2 (oZ (off:=off) (cs:=c'.toArray)) (by rw[mB k2,<-U,<-M,KZ j]) (by simp[j]) (q v z' c' A S j);exact this
def lB(P:Program)(t:TypeId)(z:AV):Prop:=∃i N,P.info? t=some i/\i.zero=some N/\ ∀U w,Rd U w z B0 H0 N.cells.toList
theorem aei(n:lK nt d=true)(f:lB P e z)(t:H g=none):kE P E nt ops ⟨d,.alloc e,ty,pos,af,gd⟩ T H [] ⟨.ptr g 0 [],[(g,.var z)]⟩:=
 oC n λB T' H' a w r s D j=>by
  obtain⟨i,N,b,c,k⟩:=f;have X:H' g=none:=(j (g,.var z) ki).trans t;refine⟨.pointer (some ⟨w.heap.size,0,none⟩),w.alloc (.cells N.cells e),(B.E2 g w.heap.size),?_,r.new X ?_,?_⟩
  .simp[execOp,Instr.alloc,zeroValue,typeInfo,b,c,newVar,newRow]
  .exact⟨w.heap.size,N.cells.toList,e,kB _ _ _,by rw[o8],t4 z (k _ _),.inl r.left.size,Ks.none (r.qa _ X)⟩
  .rw[kJ ki];exact⟨[_],by simp only[Rd];exact⟨by simp[nA,kB,pH],w.heap.size,kB _ _ _,rfl⟩,rfl⟩
theorem ak5(q:lK nt d=true)(o:kv T x=some z)(N:lS z=true)(u:H g=none):kE P E nt ops ⟨d,.box e x,ty,pos,af,gd⟩ T H [] ⟨.ptr g 0 [],[(g,.var z)]⟩:=
 oC q λB T' H' a w r s D v=>by
  have X:H' g=none:=(v (g,.var z) ki).trans u;have C:=r.eval ((s x js).trans o);rw[kJ (l6 N)]at C;obtain⟨c,f,i⟩:=C;have Z:∀j G b,H' j=some G->B j=some b->b<w.heap.size:=λj G b f i=>r.qp f i
  have V:qt w (w.alloc (.cells c.toArray e)) B (B.E2 g w.heap.size) H' (l9 H' g (.var z)):=by
   refine⟨λj b f i=>?_,λj h=>?_,λt n len A cap h=>?_,sC (nK.oD (U:=λ_ _=>False) ((pr.refl w).alloc _)) (λg' e' R J h=>?_),λj h=>?_⟩
   .have m:j≠g:=λe=>by rw[e,X]at f;cases f
    rw[nU _ _ m];exact i
   .have m:j≠g:=λe=>by rw[e,X]at h;cases h
    rw[kF _ _ m];exact h
   .obtain⟨e,k,f,i,p⟩:=h;have m:t≠g:=λe=>by rw[e,X]at f;cases f
    refine⟨e,k,by rw[kF _ _ m];exact f,i,?_⟩;rw[nU _ _ m];refine λy=>⟨(p y).1,λb hb=>?_⟩;obtain⟨l,cur,k2,k3⟩:=(p y).2 b hb;exact⟨l,cur,(zG w _ b (qY k2)).trans k2,k3⟩
   .have F:g'≠g:=λe'=>by rw[e',X]at h;cases h
    exact⟨(kF _ _ F).trans h,nU _ _ F⟩
   .have F:j≠g:=λe'=>by rw[e',X]at h;cases h
    exact⟨(kF _ _ F).trans h,rfl⟩
  refine⟨.pointer (some ⟨w.heap.size,0,none⟩),w.alloc (.cells c.toArray e),(B.E2 g w.heap.size),?_,r.new X ?_,?_⟩
  .simp[execOp,Instr.box,newVar,newRow,i,vo f]
  .exact⟨w.heap.size,c,e,kB _ _ _,by rw[o8],n6 (nK.oD ((pr.refl w).alloc _)) (vT Z) z V f,.inl r.left.size,Ks.none (r.qa _ X)⟩
  .rw[kJ ki];exact⟨[_],by simp only[Rd];exact⟨by simp[nA,kB,pH],w.heap.size,kB _ _ _,rfl⟩,rfl⟩
theorem ah2{args:Array Operand}{y:AV}(n:lK nt d=true)(A:P.funcs[f]?=some fn)(j:fn.body.isSome=true)(S:(fn.name== "runtime.NumGoroutine")=false)
 (k:args.toList.map (kv T)=G.map some) (u:mG P f J y) (q:∀H',BL H' G J) (N:G.all lS=true):kE P E nt ops ⟨d,.call {callee:=.value (.func f),args:=args,argTypes:=ats},ty,pos,af,gd⟩ T H [] ⟨y,[]⟩:=by
 intro T' H' s _ _ B a w r K Q F
 have X:∀(l:List Operand) (zs:List AV),(∀o∈l,o∈args.toList)->l.map (kv T)=zs.map some->(∀z∈zs,∀M,z≠ .mz M)->oe (kI E B H') w zs B H' (l.map a.eval):=by
  intro l
  induction l with
  |nil=>
   intro zs _ h _;have:zs= []:=by simpa using h.symm
   subst this;simp[oe]
  |cons o l D=>
   intro zs U h hn;cases zs with
   |nil=>simp at h
   |cons z zs=>
    simp only[nc,List.cons.injEq]at h;have V:=r.eval ((mv s (x:=o) (by simp[Op.operands,Call.operands];right;simpa using U o oO)).trans h.1);rw[kJ (hn z oO)]at V;obtain⟨c,g,i⟩:=V;simp only[nc,oe];exact⟨c,_,by rw[i],g,D zs (λo V=>U o (nV _ V)) h.2 (λz p=>hn z (nV _ p))⟩
 have W:∀z∈G,∀M,z≠ .mz M:=λz p=>l6 (mq.1 N z p);have g:=(q H').Yi (X args.toList G (λ_ h=>h) k W);have i:=u _ w _ g;unfold Oper.wp
 have L:(execOp a.eval ⟨d,.call {callee:=.value (.func f),args:=args,argTypes:=ats},ty,pos,af,gd⟩).run P w= .ok (.enter f (args.toList.map a.eval).toArray) w:=by
  have t:fn.body≠none:=fu;have I:fn.name≠ "runtime.NumGoroutine" :=by simpa using S
  have R:(args.toList.map a.eval).toArray=args.map a.eval:=fv;rw[R];simp[execOp,resolve,Deferred.ofValue,Act.eval,invoke,callFunc,A,I,t]
 rw[L];refine rM i ?_;rintro e w' ⟨v,rfl,m,C⟩;exact F B _ w' ((r.ext C).put n (G1 (Be (λb o h=>⟨r.w7 h,h⟩) m)))
theorem oM(w:World)(b o:Nat)(vs:List Value){C:Array Value}{R:TypeId}(c:w.heap[b]?=some (.cells C R (0,0)))(z:o+vs.length<=C.size)(a:∀v∈vs,v.oneCell'=true):
 (storeCells ⟨b,o,none⟩ vs).run P w= .ok () (mw w b o vs.toArray):=by
 have:=ux P b R vs o 0 C w jK kh a;simpa using this
theorem B5{t tx ty:TypeId}{i:TypeInfo}(s:P.underlying t=some (.slice e))(hi:P.info? e=some i){b F f n:Nat}{x:Value}{news:List Value}(o:Src P i.size tx x n news w)(v:F+n<=f)
 {C:Array Value} {R:TypeId} (c:w.heap[b]?=some (.cells C R (0,0))) (z:F*i.size+news.length<=C.size):
 (Builtin.append_ #[t,tx] ty #[.slice (some ⟨b,0,none⟩) F f,x]).run P w= .ok (.slice (some ⟨b,0,none⟩) (F+n) f) (mw w b (F*i.size) news.toArray):=by
 have M:=oM (P:=P) w b (F*i.size) news c z o.one;have N:=ss b 0 (F*i.size);rw[oa]at N;rcases o.kind with⟨e',hk⟩|hk<;>simp[Builtin.append_,lu s,lu hk,sizeOf,typeInfo,hi,o.len,v,o.cells,N,M]
theorem EL{t tx ty:TypeId}{bytes:Nat}{sv:Value}(r:mg E nt B T H a w)(s:tb.ti t=some (.sl e es bytes ea))(h:Rd (kI E B H) w (.sl (some tk) es G) B H [sv])(hg':H tk=some (.tail e es G.length))
 (hsrc:Nu P E B H w tx es yv J) (hfit:∀c,c<G.length+J.length->Builtin.nextslicecap (G.length+J.length) c*bytes<=281474976710656) (hlen2:G.length+J.length<=9223372036854775807):
 ∃v w' B',(Builtin.append_ #[t,tx] ty #[sv,yv]).run P w= .ok v w'/\mg E nt B' T (l9 H tk (.tail e es (G.length+J.length))) a w'/\Rd (kI E B' (l9 H tk (.tail e es (G.length+J.length)))) w' (.sl (some tk) es (G++J)) B' (l9 H tk (.tail e es (G.length+J.length))) [v]:=by
 have K:=h;obtain⟨news,hS,hN⟩:=hsrc;obtain⟨_,hu,_,i,z,hi,y,his,hib,hzs⟩:=tb.ok t _ s;subst his hib;have hnl:=lG hN;simp only[Rd]at h;obtain⟨A,cap,d,f,p,C,N⟩:=h;injection d with d;obtain⟨e',k,X,m2,m3⟩:=N tk O;rw[hg']at X;injection X with X;injection X with M L Y;subst M Y;obtain⟨n1,n2⟩:=m3 O;have hfl:J.length=0->J= []:=pE;by_cases U:J.length=0
 .obtain rfl:=hfl U;obtain rfl:news= []:=pE jy;have I:=Q8 (P:=P) w t tx ty e i hu hi A G.length cap f yv hS;refine⟨_,w,B,by rw[d];exact I,?_,?_⟩
  .simp only[List.length_nil,Nat.add_zero];rw[rC hg'];exact r
  .simp only[List.length_nil,Nat.add_zero,oT];rw[rC hg',<-d];exact K
 .have hpos:=(r.box tk _ hg').1;have htie:=(r.box tk _ hg').2.1;have hbox:=(r.box tk _ hg').2.2;have h63:((G.length+J.length:Nat):Int)<=9223372036854775807:=eY;have hcmax:∀c,grownCap w (G.length+J.length) c e<=maxLen:=λc=>DK w _ c e jp
  have fresh:∀(olds:List Value) (c:Nat),c<G.length+J.length->ov (kI E B H) w i.size G B0 H0 olds->
   (Builtin.firstCells i.size G.length (.slice A G.length c)).run P w.drew= .ok olds.toArray w.drew->cap=c-> ∃v w' B',(Builtin.append_ #[t,tx] ty #[sv,yv]).run P w= .ok v w'/\mg E nt B' T (l9 H tk (.tail e i.size (G.length+J.length))) a w'/\
    Rd (kI E B' (l9 H tk (.tail e i.size (G.length+J.length)))) w' (.sl (some tk) i.size (G++J)) B' (l9 H tk (.tail e i.size (G.length+J.length))) [v]:=by
   intro olds c u hO hold hcap;subst hcap;have hol:=lG hO;have I:=Q7 (P:=P) w t tx ty e i z hu hi y A G.length cap olds hold yv J.length news hS u h63 (hfit _ kh);have hge:=DJ w (G.length+J.length) cap e
   have hsz:((olds++news).toArray++Builtin.zeroCells z.cells (grownCap w (G.length+J.length) cap e-(G.length+J.length))).size=grownCap w (G.length+J.length) cap e*i.size:=by
    simp only[xo,xn,lA,GU,hzs,hol,hnl,<-lZ]
    congr 1;omega
   have hrow:mQ (w.drew.alloc (.cells ((olds++news).toArray++Builtin.zeroCells z.cells (grownCap w (G.length+J.length) cap e-(G.length+J.length))) e)) w.heap.size 0 ((G++J).length*i.size)=some (olds++news).toArray:=by
    refine(mX (b:=w.heap.size) (o8 w.drew _)).trans ?_;unfold mD;have hl2:(G++J).length*i.size=(olds++news).length:=fw;rw[kx (by rw[hsz,lA];have:=mH i.size hge;omega),hl2]
    congr 1
    apply sr;simp;exact eu
   have hreg:=r.akN (k':=G.length+J.length) (o:=.cells ((olds++news).toArray++Builtin.zeroCells z.cells (grownCap w (G.length+J.length) cap e-(G.length+J.length))) e) hg' kh
    ⟨hpos,htie.grow kh,.inr ⟨w.heap.size,_,grownCap w (G.length+J.length) cap e,kB _ _ _,o8 w.drew _,hsz,hge,hcmax cap,.inl r.left.size⟩⟩
   refine⟨_,_,_,by rw[d];exact I,hreg,?_⟩;simp only[Rd];have hsub:∀b o,b<w.heap.size->kI E (B.E2 tk w.heap.size) (l9 H tk (.tail e i.size (G.length+J.length))) b o->kI E B H b o:=vT λj bj b d f=>r.qp d f;have hext:pr w (w.drew.alloc (.cells ((olds++news).toArray++Builtin.zeroCells z.cells (grownCap w (G.length+J.length) cap e-(G.length+J.length))) e)):=(pr.refl w).drew.alloc _;refine⟨some ⟨w.heap.size,0,none⟩,grownCap w (G.length+J.length) cap e,by simp,by simpa using hge,hcmax cap,λ_=>⟨w.heap.size,0,olds++news,rfl,hrow,λo _ V hun=>?_,?_⟩,λt' ht'=>?_⟩
   .have Z:=hreg.left.size;rcases hun with⟨hlt',_⟩|⟨l,m⟩|⟨j,hj1,hj2⟩
    .have:=r.left.size;omega
    .have:=r.fx.lt l _ m;omega
    .by_cases n:j=tk
     .subst n;rw[kB]at hj2;have hj2':(G.length+J.length)*i.size<=o:=hj2;simp at V;omega
     .rw[nU _ _ n]at hj1;rw[kF _ _ n]at hj2;cases D:H j with
      |none=>rw[D]at hj2;exact hj2
      |some bj=>have:=r.qp D hj1;omega
   .exact oi (nr (nK.oD hext) hsub _ G (qt.nj _ _) hO) (nr (nK.oD hext) hsub _ J (qt.nj _ _) hN)
   .injection ht' with ht';subst ht';refine⟨e,G.length+J.length,kB _ _ _,by simp,λ_=>⟨λhn=>?_,λb hb=>?_⟩⟩
    .rw[nq]at hn;cases hn
    .rw[nq]at hb;injection hb with hb;subst hb;exact⟨O,_,o8 w.drew _,hsz⟩
  obtain⟨olds,hO,W⟩:∃olds,ov (kI E B H) w i.size G B0 H0 olds/\ ∀b,B tk=some b->mQ w b 0 (G.length*i.size)=some olds.toArray:=by
   by_cases K:G.length=0
   .obtain rfl:G= []:=pE K;refine⟨[],by simp[ov],λb hb=>?_⟩;obtain⟨_,cur,g,_⟩:=n2 b hb;rw[mX g];unfold mD;rw[kx ki];simp
   .obtain⟨b,off,c,hA,g,k2,k3⟩:=C kh;refine⟨c,k3,λb' hb'=>?_⟩;obtain⟨hA',_⟩:=n2 b' hb';rw[hA]at hA';injection hA' with hA';injection hA' with R x;subst R x;exact g
  have hol:=lG hO;rcases hbox with⟨hbn,hk0⟩|⟨b,cur0,cap0,hb,hcur0,_,_,_,hbw⟩
  .obtain⟨hA,hc0⟩:=n1 hbn;obtain rfl:G= []:=pE hk0;obtain rfl:olds= []:=pE (by simpa using hol);exact fresh [] cap jY hO (by rw[hA];simp[Builtin.firstCells]) rfl
  .obtain⟨hA,cur,hcur,hcs⟩:=n2 b hb;have hrow0:=W b hb;by_cases hroom:G.length+J.length<=cap
   .have hfit:G.length*i.size+news.length<=cur.size:=by rw[hnl,hcs,<-lZ];exact mH _ hroom
    have I:=B5 (P:=P) (ty:=ty) hu hi hS hroom hcur hfit;have hput:=mB (off:=G.length*i.size) (cs:=news.toArray) hcur;have hsp:(lY cur (G.length*i.size) news.toArray).size=cur.size:=oL _ _ _ jx;have hge:∀o,o<G.length*i.size->(lY cur (G.length*i.size) news.toArray)[o]?=cur[o]? :=λo V=>by rw[mn jx,ku kh]
    have hrm:=r.room (k':=G.length+J.length) hg' kh hb hcur hcs hroom p oZ hput hsp hge;refine⟨_,_,B,by rw[d,hA];exact I,hrm,?_⟩
    have hsub:∀b' o,b'<w.heap.size->kI E B (l9 H tk (.tail e i.size (G.length+J.length))) b' o->kI E B H b' o:=by
     rintro b' o _ (h|h|⟨j,hj1,hj2⟩)
     .exact .inl h
     .exact .inr (.inl h)
     .refine .inr (.inr ⟨j,hj1,?_⟩);by_cases n:j=tk
      .subst n;rw[kB]at hj2;rw[hg'];have h':(G.length+J.length)*i.size<=o:=hj2;have:G.length*i.size<=(G.length+J.length)*i.size:=mH _ kh
       show G.length*i.size<=o
       omega
      .rwa[kF _ _ n]at hj2
    have hevo:nK (kI E B H) w (mw w b (G.length*i.size) news.toArray):=oZ.evo hcur hput hsp λo V=>by
     rcases Ba o (G.length*i.size)with h'|h'
     .exact hge o h'
     .exact absurd (.inr (.inr ⟨tk,hb,by rw[hg'];exact h'⟩)) V
    simp only[Rd];refine⟨some ⟨b,0,none⟩,cap,by simp,by simpa using hroom,p,λ_=>⟨b,0,olds++news,rfl,?_,λo _ V hun=>?_,?_⟩,λt' ht'=>?_⟩
    .rw[mX hput];rw[mX hcur]at hrow0;obtain⟨S,r2,r3⟩:=o3 hrow0;have hl2:(G++J).length*i.size=(olds++news).length:=fw;unfold mD;rw[kx (by rw[hsp,hl2];simp;omega)]
     congr 1
     apply qB;intro q;rw[w4,hsp];by_cases F:q<(olds++news).length
     .rw[kx i5,oa,mn jx];by_cases hq2:q<G.length*i.size
      .have:=r3 q hq2;rw[oa]at this;rw[ku kh,this];simp[QQ,show q<olds.length by omega]
      .rw[kx (by simp at F⊢;omega)];simp[QQ,show¬q<olds.length by omega,hol];intro h';omega
     .rw[ku i5,ru jL]
    .have hblt:=qY hcur;rcases hun with⟨hlt',_,hne'⟩|⟨l,m⟩|⟨j,hj1,hj2⟩
     .rcases hbw with hbw|hbw
      .omega
      .exact hne' hbw.2.1
     .exact r.fx.out l b tk m (by rw[hg'];rfl) hb
     .by_cases n:j=tk
      .subst n;rw[kB]at hj2;have hj2':(G.length+J.length)*i.size<=o:=hj2;simp at V;omega
      .rw[kF _ _ n]at hj2;cases D:H j with
       |none=>rw[D]at hj2;exact hj2
       |some bj=>
        rw[D]at hj2;refine n (r.inj j tk b ?_ (by rw[hg'];rfl) hj1 hb);rw[D];cases bj<;>first|rfl|exact hj2.elim
    .exact oi (nr hevo hsub _ G (qt.nj _ _) hO) (nr hevo hsub _ J (qt.nj _ _) hN)
    .injection ht' with ht';subst ht';refine⟨e,G.length+J.length,kB _ _ _,by simp,λ_=>⟨λhn=>?_,λb' hb'=>?_⟩⟩
     .rw[hb]at hn;cases hn
     .rw[hb]at hb';injection hb' with hb';subst hb';exact⟨O,_,hput,by rw[hsp];exact hcs⟩
   .refine fresh olds cap kh hO ?_ O;rw[hA];exact xm (P:=P) w.drew i.size G.length ⟨b,0,none⟩ G.length cap olds (by rw[hol]) (by simpa using pg hrow0)
theorem NJ(t:H g=none)(c:B g=none){b o:Nat}:kI E B (l9 H g bx) b o↔kI E B H b o:=by
 unfold kI;refine uQ rq (uQ rq (qO λj=>rK λi=>?_));by_cases h:j=g
 .subst h;rw[c]at i;cases i
 .rw[kF _ _ h]
theorem mg.token(r:mg E nt B T H a w){g n:Nat}{e:TypeId}(u:H g=none)(D:0<n):mg E nt B T (l9 H g (.tail e n 0)) a w:=by
 have hb:=r.x3 g u
 have U:qt w w B B H (l9 H g (.tail e n 0)):=by
  refine⟨λ_ _ _ h=>h,λj h=>?_,λt n len A cap h=>?_,sC (nK.refl (λ_ _=>False) w) (λg' e' R J h=>?_),λj h=>?_⟩
  .have i:j≠g:=λe=>by rw[e,u]at h;cases h
   rw[kF _ _ i];exact h
  .obtain⟨e',k,c,d⟩:=h;have i:t≠g:=λe=>fm;exact⟨e',k,by rw[kF _ _ i];exact c,d⟩
  .have m:g'≠g:=λe'=>by rw[e',u]at h;cases h
   exact⟨(kF _ _ m).trans h,rfl⟩
  .have m:j≠g:=λe'=>by rw[e',u]at h;cases h
   exact⟨(kF _ _ m).trans h,rfl⟩
 refine r.move O O (λ_ _ _=>rfl) (λj b c d=>.inl ⟨by rw[kF _ _ (λe=>by rw[e,hb]at d;cases d)]at c;exact c,d⟩) (nK.refl _ w) (λb o _ h=>(NJ u hb).1 h) U r.left (λj q h=>?_) (λj h=>?_) (λj p b c d l C=>?_)
 .by_cases i:j=g
  .subst i;rw[kB]at h;injection h with h;subst h;exact .inl ⟨D,Ks.none (r.qa _ u),.inl ⟨hb,rfl⟩⟩
  .rw[kF _ _ i]at h;exact .inr ⟨h,rfl,λ_ _ _=>rfl⟩
 .by_cases i:j=g
  .subst i;rw[kB]at h;cases h
  .rw[kF _ _ i]at h;exact⟨h,r.x3 j h⟩
 .have m:∀j,B j=some b->j≠g:=λj h e=>by rw[e,hb]at h;cases h
  rw[kF _ _ (m j l)]at c;rw[kF _ _ (m p C)]at d;exact r.inj j p b c d l C
theorem Og(u:H g=some (.tail e n 0))(c:B g=none):Rd U w (.sl (some g) n []) B H [.slice none 0 0]:=by
 simp only[Rd];refine⟨none,0,rfl,kK _,kO _,λh=>absurd h ki,λt s=>?_⟩;injection s with s;subst s;exact⟨e,0,u,kK _,λ_=>⟨λ_=>⟨O,rfl⟩,λb f=>by rw[c]at f;cases f⟩⟩
theorem Nu.congr{H':Hp}{tx:TypeId}(h:Nu P E B H w tx n v J)(d:∀b o,kI E B H' b o->kI E B H b o):Nu P E B H' w tx n v J:=by
 obtain⟨f,a,c⟩:=h;exact⟨f,a,nr (nK.refl _ w) (λb o _ h=>d b o h) n J (qt.nj _ _) c⟩
def yR(P:Program)(tx:TypeId)(n:Nat)(src:AV)(J:List AV):Prop:=∀E B H w v,qJ (kI E B H) w B H src v->Nu P E B H w tx n v J
theorem uz{tx:TypeId}{bytes:Nat}{tok:Option Nat}(o:tb.ti tx=some (.sl e es bytes ea)):yR P tx es (.sl tok es J) J:=λE B H w v h=>
 ajm (tb.ok tx _ o).2.1 (ml ki h O)
theorem Oa{t tx:TypeId}{bytes:Nat}(n:lK nt d=true)(o:tb.ti t=some (.sl e es bytes ea))(j:kv T s=some (.sl (some tk) es G))(y:H tk=some (.tail e es G.length))
 (F:kv T x=some src) (I:yR P tx es src J) (N:∀c,c<G.length+J.length->Builtin.nextslicecap (G.length+J.length) c*bytes<=281474976710656) (i:G.length+J.length<=9223372036854775807):
 kE P E nt ops ⟨d,.call {callee:=.builtin .append,args:= #[s,x],argTypes:= #[t,tx]},ty,pos,af,gd⟩ T H [tk] ⟨.sl (some tk) es (G++J),[(tk,.tail e es (G.length+J.length))]⟩:=
 oC n λB T' H' a w r u D g=>by have X:H' tk=some (.tail e es G.length):=(D tk ki).trans y;have h:=ml ki (r.eval ((u s iV).trans j)) O;obtain⟨v,w',B',b,f,k⟩:=EL tb (ty:=ty) r o h X (I E B H' w _ (r.eval ((u x iV).trans F))) N i;refine⟨v,w',B',by simp[execOp,resolve,invoke,builtin,b],f,?_⟩;rw[kJ ki];exact⟨[v],k,rfl⟩
theorem M5{t tx:TypeId}{bytes:Nat}(n:lK nt d=true)(p:tb.ti t=some (.sl e (es+1) bytes ea))(k:kv T s=some (.v (.slice none 0 0)))(y:H tk=none)
 (F:kv T x=some src) (I:yR P tx (es+1) src J) (U:J.length*bytes<=140737488355328) (q:J.length<=9223372036854775807):
 kE P E nt ops ⟨d,.call {callee:=.builtin .append,args:= #[s,x],argTypes:= #[t,tx]},ty,pos,af,gd⟩ T H [] ⟨.sl (some tk) (es+1) J,[(tk,.tail e (es+1) J.length)]⟩:=
 oC n λB T' H' a w r u D i=>by
  have X:H' tk=none:=(i (tk,.tail e (es+1) J.length) ki).trans y;have hb:=r.x3 tk X;have h:=r.od ((u s iV).trans k);have m:=(I E B H' w _ (r.eval ((u x iV).trans F))).congr (H':=l9 H' tk (.tail e (es+1) 0)) (λb o h=>(NJ X hb).1 h);obtain⟨v,w',B',f,g,l⟩:=EL tb (ty:=ty) (G:= []) (r.token (e:=e) X (qh es)) p (Og (kB _ _ _) hb) (kB _ _ _) m (λc z=>Bb z jM) (by simpa using q)
  have A:l9 (l9 H' tk (.tail e (es+1) 0)) tk (.tail e (es+1) (([]:List AV).length+J.length))=l9 H' tk (.tail e (es+1) J.length):=by
   funext j;simp only[l9,List.length_nil,oa];split<;>rfl
  rw[A]at g l;refine⟨v,w',B',by simp[execOp,resolve,invoke,builtin,h,f],g,?_⟩;rw[kJ ki];exact⟨[v],by rw[EM]at l;exact l,rfl⟩
end
def DR:B8 0#8=0:=by rw[rB];rfl
def qM:w5 0#64=0:=by rw[oJ];rfl
def ZW(x:BitVec 8):(B8 x==0)=decide (x=0#8):=by rw[<-DR,agI]
def ajv(x:BitVec 8):(B8 x !=0)= !decide (x=0#8):=by rw[bne,ZW]
attribute [go_sem] DR qM ZW ajv
@[irreducible] def tN(x:Vector (BitVec 8) n):Array Value:=x.toArray.map λb=>.int .u8 (B8 b)
def CH(x:Vector (BitVec 8) n):tN x=x.toArray.map λb=>.int .u8 (B8 b):=by unfold tN;rfl
def pV(x:Vector (BitVec 8) n):(tN x).size=n:=by rw[CH];simp
def T0(x:Vector (BitVec 8) n):mA (tN x)=true:=by
 rw[CH];unfold mA;rw[Array.all_map,Array.all_eq_true];intro i hi;rfl
def tM(x:Vector (BitVec 8) n)(i:Nat)(h:i<n):(tN x)[i]?=some (.int .u8 (B8 x[i])):=by
 rw[CH];simp[h]
def vy(n:Nat):tN (Vector.replicate n 0#8)=(List.replicate n (Value.int .u8 0)).toArray:=by
 rw[CH];simp[DR]
def I8(a b:Array Value):mA (a++b)=(mA a&&mA b):=by unfold mA;rw[Array.all_append]
def I7(v:Value):mA #[v]=v.oneCell':=by unfold mA;simp
def Fp(a b:Array Value)(off n:Nat)(h:off+n<=a.size):mD (a++b) off n=mD a off n:=by
 unfold mD;rw[kx iZ,kx h]
 congr 1
 apply qB;intro k;rw[w4,w4,xo];by_cases w:k<n
 .rw[kx kh,kx kh,AI kh]
 .rw[ku kh,ku kh]
def Ev(a b:Array Value)(off n:Nat)(h:a.size<=off):mD (a++b) off n=mD b (off- a.size) n:=by
 unfold mD;rw[xo];by_cases w:off+n<=a.size+b.size
 .rw[kx w,kx kh]
  congr 1
  apply qB;intro k;rw[w4,w4,xo];by_cases w:k<n
  .rw[kx kh,kx kh,Q6 kh];congr 1;omega
  .rw[ku kh,ku kh]
 .rw[ku w,ku kh]
def Af(a:Array Value)(n:Nat)(h:a.size=n):mD a 0 n=some a:=pC a n h
def Es(a b cs:Array Value)(off:Nat)(h:off+cs.size<=a.size):lY (a++b) off cs=lY a off cs++b:=by
 apply qB;intro k;rw[mn iZ,Kq,Kq,oL _ _ _ h,mn h];by_cases w:k<a.size
 .rw[kx w,kx w]
 .rw[ku w,ku w,ku kh]
def DW(a b cs:Array Value)(off:Nat)(h:a.size<=off)(c:off+cs.size<=a.size+b.size):lY (a++b) off cs=a++lY b (off- a.size) cs:=by
 apply qB;intro k;rw[mn iZ,Kq,Kq,mn kh];by_cases w:k<a.size
 .rw[kx w,kx w,ku kh]
 .rw[ku w,ku w];by_cases l:off<=k/\k<off+cs.size
  .rw[kx l,kx kh];congr 1;omega
  .rw[ku l,ku kh]
@[irreducible] def zK(a b:Array Value):Array Value:=a++b
def q5(a b:Array Value):zK a b=a++b:=by unfold zK;rfl
@[irreducible] def Cw(v:Value):Array Value:= #[v]
def sZ(v:Value):Cw v= #[v]:=by unfold Cw;rfl
def qe(a b:Array Value):(zK a b).size=a.size+b.size:=by rw[q5];simp
def qd(v:Value):(Cw v).size=1:=by rw[sZ];rfl
def FA(a b:Array Value):mA (zK a b)=(mA a&&mA b):=by rw[q5,I8]
def Fz(v:Value):mA (Cw v)=v.oneCell':=by rw[sZ,I7]
def aiQ(v:Value):(Cw v)[0]?=some v:=by rw[sZ];rfl
def uC(a b:Array Value)(off n:Nat)(h:off+n<=a.size):mD (zK a b) off n=mD a off n:=by rw[q5,Fp _ _ _ _ h]
def tW(a b:Array Value)(off n:Nat)(h:a.size<=off):mD (zK a b) off n=mD b (off- a.size) n:=by rw[q5,Ev _ _ _ _ h]
def tV(a b cs:Array Value)(off:Nat)(h:off+cs.size<=a.size):lY (zK a b) off cs=zK (lY a off cs) b:=by rw[q5,q5,Es _ _ _ _ h]
def sV(a b cs:Array Value)(off:Nat)(h:a.size<=off)(c:off+cs.size<=a.size+b.size):lY (zK a b) off cs=zK a (lY b (off- a.size) cs):=by rw[q5,q5,DW _ _ _ _ h c]
def LH{c:Array Value}(h:mD c i 1=some (Cw v)):c[i]?=some v:=by have:=(o3 h).2.2 0 kh;rw[vA,aiQ]at this;exact this
def Ab(c cs:Array Value)(h:cs.size=c.size):lY c 0 cs=cs:=ug c cs h
def vG(s:Array Value)(i:Nat)(v:Value)(h:i<s.size):lY s i #[v]=s.setIfInBounds i v:=by
 apply qB;intro k;rw[mn jY,CL];by_cases w:i=k
 .subst w;rw[kx ki,kx O,kx h];simp
 .rw[ku jY,ku w]
def w6{t:TypeId}{z:Value}(h:(P.info? t).map (λi=>(i.zero,i.size))=some (some z,n)):(P.info? t).bind (·.zero)=some z:=by
 cases c:P.info? t with
 |none=>rw[c]at h;cases h
 |some i=>rw[c]at h;simp at h;simpa using h.1
@[irreducible] def lW(l:List (BitVec 8)):ByteArray:=⟨(l.map UInt8.ofBitVec).toArray⟩
def tq(s:ByteArray):List (BitVec 8):=s.data.toList.map (·.toBitVec)
def nH(l:List (BitVec 8)):lW l=⟨(l.map UInt8.ofBitVec).toArray⟩:=by unfold lW;rfl
def L5(l:List (BitVec 8)):tq (lW l)=l:=by
 unfold tq lW;simp[Function.comp_def]
def rG(l:List (BitVec 8)):(lW l).size=l.length:=by
 rw[nH];show(Array.size _)=_;simp
def rT(s:ByteArray):(tq s).length=s.size:=by
 show _=s.data.size
 unfold tq;simp
def TP{l m:List (BitVec 8)}:lW l=lW m↔l=m:=⟨λh=>by rw[<-L5 l,h,L5],λh=>by rw[h]⟩
def TO:lW []= .empty:=by rw[nH];rfl
def be(x:BitVec 8):Array Value:= #[.int .u8 (B8 x)]
def CF:uo be 1:=⟨λ_=>rfl,λ_=>by simp[be,mA,Value.oneCell'],by omega⟩
def Qe(l:List (BitVec 8)):qc be l=l.map λx=>Value.int .u8 (B8 x):=by
 induction l with
 |nil=>rfl
 |cons x l y=>rw[nc,<-y];rfl
def aaT{o m:Nat}{b:Vector (BitVec 8) m}(h:mQ w g o m=some (tN b))(i:Nat)(hi:i<m):mQ w g (o+i*1) 1=some (be b[i]):=by
 rw[uR];refine Iy ?_;exact B9 h hi (tM b i hi)
def Ac{o m:Nat}{b:Vector (BitVec 8) m}(h:mQ w g o m=some (tN b))(n cap:Nat)(B:n<=m)(u:n<=cap)(T:cap<=maxLen):Sl be 1 w (.slice (some ⟨g,o,none⟩) n cap) (b.toList.take n):=by have j:(b.toList.take n).length=n:=fy;refine⟨some ⟨g,o,none⟩,cap,by rw[j],by rw[j];exact u,T,λ_=>⟨g,o,rfl,HB h,λi hi=>?_⟩⟩;rw[aaT h i kh];simp
def MC.row{α:Type}{enc:α->Array Value}{n:Nat}(x:uo enc n){w:World}{A:Option Addr}{G:List α}(h:MC enc n w A G)(l:0<G.length):∃b off,A=some ⟨b,off,none⟩/\b<w.heap.size/\mQ w b off (G.length*n)=some (qc enc G).toArray:=by
 obtain⟨b,off,rfl,hb,H⟩:=h l;refine⟨b,off,rfl,hb,?_⟩;have hn:=x.pos;have g:=H (G.length- 1) kh;unfold mQ at g⊢;split at g
 .rename_i c t fr u;have a:=o3 g;have T:(G.length- 1)*n+n=G.length*n:=by rw[<-sb];congr 1;omega
  unfold mD;rw[kx kh]
  congr 1
  apply qB;intro j;rw[w4];by_cases i:j<G.length*n
  .have hi:j/n<G.length:=(Xh hn).2 i;have m:j%n<n:=AK _ hn;have o:j/n*n+j%n=j:=e7;have d:=H (j/n) hi;unfold mQ at d;rw[u]at d;have k:=(o3 d).2.2 (j%n) m;rw[kx kh];rw[ye,o]at k;rw[k];have B:=zH x G (j/n) (j%n) hi m;rw[o]at B;simpa using B.symm
  .rw[ku kh,ru (by simp[sK x];omega)]
 .cases g
def Na{enc:α->Array Value}(w:uo enc n)(G:List α):mA (qc enc G).toArray=true:=by
 unfold mA;rw[List.all_toArray,mq];exact Tz w G
theorem K2{src B:TypeId}(p:P.underlying src=some (.slice e))(L:P.underlying e=some (.int .u8))(o:P.underlying B=some .string){w:World}{v:Value}{G:List (BitVec 8)}(h:Sl be 1 w v G):
 (convert src B v).run P w= .ok (.string (lW G)) w:=by
 rw[nH];obtain⟨A,cap,rfl,c,d,Y⟩:=h;rw[Q5 w src B e A G.length cap p L o]
 have z:∀(l:List (BitVec 8)) (s:ByteArray),((l.map B8).foldl (λr n=>r.push (UInt8.ofNat n.toNat)) s)=⟨s.data++(l.map UInt8.ofBitVec).toArray⟩:=by
  intro l
  induction l with
  |nil=>intro s;simp
  |cons x l y=>
   intro s;rw[nc,GS,y]
   have:UInt8.ofNat (B8 x).toNat=UInt8.ofBitVec x:=by
    rw[rB,pP];apply UInt8.toNat_inj.1;simp
   rw[this]
   congr 1
   simp[ByteArray.push]
 by_cases i:0<G.length
 .obtain⟨b,off,rfl,hb,H⟩:=MC.row CF Y i;have g:=qv (P:=P) H;rw[uR]at g;rw[GR w ⟨b,off,none⟩ G.length cap (G.map B8) (by rw[g,Qe];simp[Function.comp_def])];rw[z];simp[ByteArray.empty,ByteArray.emptyWithCapacity];rfl
 .obtain rfl:G= []:=pE kh;cases A with
  |none=>simp[Conv.bytesToString,ByteArray.empty,ByteArray.emptyWithCapacity];rfl
  |some a=>
   have g:(loadCells a [].length).run P w= .ok [].toArray w:=Xk (P:=P) w a [] ki;have:=GR (P:=P) w a 0 cap [] jN;rw[Q4,this];rfl
@[irreducible] def By(H:Array TypeId)(ty:TypeId)(vs:Array Value):Sem Value:=Builtin.copy_ H ty vs
@[irreducible] def Qj(H:Array TypeId)(ty:TypeId)(vs:Array Value):Sem Value:=Builtin.copy_ H ty vs
def afG(H:Array TypeId)(ty:TypeId)(vs:Array Value):Builtin.copy_ H ty vs=By H ty vs:=by unfold By;rfl
def MZ{o:Nat}{c:Array Value}{t:TypeId}(h:w.heap[g]?=some (.cells c t fr)):w.setRow g (c.toList.take o++cs.toList++c.toList.drop (o+cs.toList.length)).toArray=mw w g o cs:=by
 unfold mw World.setRow
 congr 1
 apply qB;intro k;simp only[H9];by_cases x:g=k
 .subst x;simp only[h,oQ,Option.map_some];rfl
 .simp[x]
variable {dT sT elem:TypeId}
theorem aaO(d:P.underlying dT=some (.slice elem))(p:(P.info? elem).map (·.size)=some n){w:World}{g o Y V b off F f m:Nat}{cs:Array Value}
 (T:min F Y=m) (G:mQ w b off (m*n)=some cs) (k:∃old,mQ w g o (m*n)=some old) (z:uk w g=true) (a:mA cs=true):
 (By #[dT,sT] ty #[.slice (some ⟨g,o,none⟩) Y V,.slice (some ⟨b,off,none⟩) F f]).run P w= .ok (.int .i64 (m:Int)) (mw w g o cs):=by
 unfold By;obtain⟨old,k⟩:=k;unfold uk at z;split at z
 .rename_i c t fr hb;obtain rfl:fr=(0,0):=by simpa using z
  rw[mX hb]at k;have q:=(o3 k).2.1;have j:=qv (P:=P) G;have r:=(zr G).1
  have M:=run_storeCells_at P g o t cs.toList 0 c w hb jY (λv y=>by
   unfold mA at a;rw[<-QE]at a;exact mq.1 a v y)
  rw[vA,MZ hb]at M;cases e:P.info? elem with
  |none=>rw[e]at p;cases p
  |some i=>
   have hi:i.size=n:=by simpa[e]using p
   have H:Nat.min F Y=m:=T;simp[Builtin.copy_,lu d,Builtin.lenOf,Builtin.firstCells,sizeOf,typeInfo,e,hi,T,H,j,M,goInt]
 .cases z
@[irreducible] def ad6(m:Nat)(src:Option (Array Value))(c:Bool)(w:World)(g o:Nat)(r:Result Value):Result Value:=
 match src with
 |some cs=>if c&&mA cs then .ok (.int .i64 (m:Int)) (mw w g o cs)else r
 |none=>r
def aa9{m:Nat}{o:Nat}{r:Result Value}(h:mA cs=true):ad6 m (some cs) true w g o r= .ok (.int .i64 (m:Int)) (mw w g o cs):=by unfold ad6;simp[h]
def Pv(d:P.underlying dT=some (.slice elem))(p:(P.info? elem).map (·.size)=some n)(w:World)(g o Y V b off F e:Nat):
 (By #[dT,sT] ty #[.slice (some ⟨g,o,none⟩) Y V,.slice (some ⟨b,off,none⟩) F e]).run P w=
  ad6 (min F Y) (mQ w b off (min F Y*n)) ((mQ w g o (min F Y*n)).isSome&&uk w g) w g o ((Qj #[dT,sT] ty #[.slice (some ⟨g,o,none⟩) Y V,.slice (some ⟨b,off,none⟩) F e]).run P w):=by
 unfold ad6;split
 .rename_i cs h;split
  .rename_i c;simp only[l5]at c;obtain⟨⟨k,A⟩,D⟩:=c;obtain⟨old,U⟩:=Option.isSome_iff_exists.1 k;exact aaO d p O h ⟨old,U⟩ A D
  .unfold By Qj;rfl
 .unfold By Qj;rfl
theorem K4(b:P.underlying dT=some (.slice elem))(o:(P.info? elem).map (·.size)=some n)(w:World)(d:Addr)(Y V:Nat)(A:Option Addr)(c:Nat):
 (By #[dT,sT] ty #[.slice (some d) Y V,.slice A 0 c]).run P w= .ok (.int .i64 0) w:=by
 unfold By;cases e:P.info? elem with
 |none=>rw[e]at o;cases o
 |some i=>
  have hi:i.size=n:=by simpa[e]using o
  cases A with
  |none=>simp[Builtin.copy_,lu b,Builtin.lenOf,Builtin.firstCells,sizeOf,typeInfo,e,storeCells,goInt]
  |some a=>
   have g:(loadCells a [].length).run P w= .ok [].toArray w:=Xk (P:=P) w a [] ki;rw[Q4]at g;simp[Builtin.copy_,lu b,Builtin.lenOf,Builtin.firstCells,sizeOf,typeInfo,e,storeCells,goInt,g]
def uN(G:List (BitVec 8)):(qc be G).toArray.size=G.length:=by simp[sK CF]
def TA(G:List (BitVec 8)):mA (qc be G).toArray=true:=Na CF G
def BF{m:Nat}(b:Vector (BitVec 8) m)(G:List (BitVec 8)):Vector (BitVec 8) m:=Vector.ofFn λi=>G[i.1]?.getD b[i.1]
def xQ{m:Nat}(b:Vector (BitVec 8) m)(G:List (BitVec 8))(i:Nat)(h:i<m):(BF b G)[i]=G[i]?.getD b[i]:=by unfold BF;simp
def OJ{m:Nat}(b:Vector (BitVec 8) m)(G:List (BitVec 8))(h:G.length<=m):lY (tN b) 0 (qc be G).toArray=tN (BF b G):=by
 apply qB;intro i;rw[mn (by rw[uN,pV];omega),uN];by_cases T:i<m
 .rw[tM b i T,tM _ i T,xQ];by_cases j:i<G.length
  .rw[kx kh,Qe];simp[j]
  .rw[ku kh];simp[j]
 .rw[ku kh,ru jm,ru jm]
def OI{m:Nat}(b:Vector (BitVec 8) m)(n:Nat)(h:n<=m):mD (tN b) 0 n=some (qc be (b.toList.take n)).toArray:=by
 unfold mD;rw[kx jm]
 congr 1
 apply qB;intro i;rw[w4,Qe];by_cases j:i<n
 .rw[kx jm,oa,tM _ i kh];simp[j,show i<m from by omega]
 .rw[ku jm];simp;omega
def Iu{c part:Array Value}{m:Nat}(h:mD c off m=some cs)(X:part.size<=m):lY c off part=lY c off (lY cs 0 part):=by
 obtain⟨a,b,l⟩:=o3 h;have o:(lY cs 0 part).size=m:=by rw[oL _ _ _ kh];exact a
 apply qB;intro k;rw[mn kh,mn kh,o];by_cases w:off<=k/\k<off+m
 .rw[kx w,mn kh];by_cases I:k<off+part.size
  .rw[kx kh,kx kh];congr 1
  .rw[ku kh,ku kh];have:=l (k- off) kh;rw[show off+(k- off)=k from by omega]at this;exact this
 .rw[ku kh,ku w]
def K5{c:Array Value}{m:Nat}(h:mD c off m=some cs)(n:Nat)(B:n<=m):mD c off n=mD cs 0 n:=by have:=NX h (o:=0) (m:=n) kh;simpa using this
def BX{c:Array Value}{m:Nat}{b:Vector (BitVec 8) m}(h:mD c off m=some (tN b))(i:Nat)(hi:i<m)(x:BitVec 8):lY c (off+i) #[.int .u8 (B8 x)]=lY c off (tN (b.setIfInBounds i x)):=by
 obtain⟨a,d,l⟩:=o3 h;have o:=pV (b.setIfInBounds i x);apply qB;intro k;rw[mn jY,mn kh,o];by_cases w:off<=k/\k<off+m
 .rw[kx w];have hb:=tM (b.setIfInBounds i x) (k- off) kh;rw[hb];by_cases E:k=off+i
  .subst E;rw[kx ki];simp
  .rw[ku jY];have A:=l (k- off) kh;rw[show off+(k- off)=k from by omega,tM _ _ kh]at A;rw[A]
   congr 2
   simp[show¬i=k- off from by omega]
 .rw[ku jY,ku w]
attribute [go_sem] aa9 TA uN
def Xz(P:Program)(d:Nat)(G J:Array Value)(f:Bool×TypeId×Nat)(r:Bool):Prop:=
 f.1=false/\ ∀w,∃a b,(part f.2.1 G f.2.2).run P w= .ok a w/\(part f.2.1 J f.2.2).run P w= .ok b w/\(Op.equalIn d f.2.1 a b).run P w= .ok r w
def BK(P:Program)(d:Nat)(G J:Array Value):List (Bool×TypeId×Nat)->Bool->Prop
 | [],r=>r=true
 |f::fs,r=>∃a b,Xz P d G J f a/\BK P d G J fs b/\r=(a&&b)
section
variable {d:Nat}{G J:Array Value}{t:TypeId}
theorem BK.nil:BK P d G J [] true:=rfl
def BK.cons{f:Bool×TypeId×Nat}{fs:List (Bool×TypeId×Nat)}{a b:Bool}(h:Xz P d G J f a)(k:BK P d G J fs b):BK P d G J (f::fs) (a&&b):=⟨a,b,h,k,rfl⟩
def Xz.int{a b:Int}(e:P.underlying t=some (.int k))(N:G[off]?=some (.int k a))(c:J[off]?=some (.int k b)):Xz P (d+1) G J (false,t,off) (a==b):=
 ⟨O,λw=>⟨.int k a,.int k b,by simp[part,isAgg,lu e,N],by simp[part,isAgg,lu e,c],run_equalIn_int w d t k k a b e⟩⟩
def Xz.bool{a b:Bool}(e:P.underlying t=some .bool)(N:G[off]?=some (.bool a))(c:J[off]?=some (.bool b)):Xz P (d+1) G J (false,t,off) (a==b):=
 ⟨O,λw=>⟨.bool a,.bool b,by simp[part,isAgg,lu e,N],by simp[part,isAgg,lu e,c],run_equalIn_bool w d t a b e⟩⟩
theorem Xz.agg{j:TypeDesc}{a b:Array Value}{r:Bool}(e:P.underlying t=some j)(o:(match j with| .struct _| .array _ _=>true|_=>false)=true)(hi:(P.info? t).map (·.size)=some n)
 (N:mD G off n=some a) (c:mD J off n=some b) (L:∀w,(Op.equalIn d t (.agg a) (.agg b)).run P w= .ok r w):Xz P d G J (false,t,off) r:=by
 refine⟨O,λw=>⟨.agg a,.agg b,?_,?_,L w⟩⟩
 .unfold mD at N;split at N
  .injection N with N;cases f:P.info? t with
   |none=>rw[f]at hi;cases hi
   |some i=>
    have x:i.size=n:=by simpa[f]using hi
    cases j<;>simp_all[part,isAgg,lu e,sizeOf,typeInfo]
  .cases N
 .unfold mD at c;split at c
  .injection c with c;cases f:P.info? t with
   |none=>rw[f]at hi;cases hi
   |some i=>
    have x:i.size=n:=by simpa[f]using hi
    cases j<;>simp_all[part,isAgg,lu e,sizeOf,typeInfo]
  .cases c
def I3:∀(fs:List Field) (N:List (Bool×TypeId×Nat)) (r:Bool),fs.map (fun f=>(f.name== "_",f.type,f.offset))=N→BK P d G J N r→ ∀w,(Op.eqFields d G J fs).run P w= .ok r w:=by
 intro fs
 induction fs with
 |nil=>intro N r t h w;subst t;obtain rfl:r=true:=h;simp[Op.eqFields]
 |cons f fs z=>
  intro N r t h w;subst t;obtain⟨a,b,⟨hn,c⟩,e,rfl⟩:=h;obtain⟨x,y,j,F,H⟩:=c w;have A:f.name≠ "_" :=fz;have hi:=z _ b O e w;rw[Op.eqFields,kx A];cases a<;>simp_all
def yV{N:List (Bool×TypeId×Nat)}{r:Bool}(s:P.underlying t=some (.struct (P.fieldsOf t)))(X:P.stoodInHeld t=false)(z:(P.fieldsOf t).toList.map (fun f=>(f.name== "_",f.type,f.offset))=N)
 (h:BK P d G J N r) (w:World):(Op.equalIn (d+1) t (.agg G) (.agg J)).run P w= .ok r w:=by
 rw[run_equalIn_struct w d t G J s X];exact I3 _ N r z h w
def Nr(x y:Vector (BitVec 8) n):((List.range n).all λi=>B8 (x.getD i 0)==B8 (y.getD i 0))=(x==y):=by
 rw[GI];simp only[mq,EP,H7,agH];constructor
 .intro h;apply A9;intro i hi;have:=h i hi;simpa[Vector.getD,hi]using this
 .rintro rfl i _;rfl
theorem Fo{t:TypeId}(s:P.underlying t=some (.array n e))(L:P.underlying e=some (.int .u8))(p:(P.info? e).map (·.size)=some 1)
 (d:Nat) (x y:Vector (BitVec 8) n) (w:World):(Op.equalIn (d+2) t (.agg (tN x)) (.agg (tN y))).run P w= .ok (x==y) w:=by
 have p:=I2 (P:=P) p w;rw[<-Nr,Me,Op.equalIn];simp only[Sem.run_bind,lu s,Result.andThen_ok,p,Std.Legacy.Range.forIn_eq_forIn_range',Std.Legacy.Range.size,Nat.sub_zero,Nat.add_sub_cancel,Nat.div_one];have g:∀i∈List.range' 0 n 1,i<n:=λi hi=>by simpa using(List.mem_range'_1.1 hi).2
 generalize List.range' 0 n 1=l at g⊢
 induction l with
 |nil=>simp
 |cons i l z=>
  have hi:i<n:=g i ki
  have q:(part e (tN x) (i*1)).run P w= .ok (.int .u8 (B8 (x.getD i 0))) w:=by simp[part,isAgg,lu L,tM x i hi,Vector.getD,hi]
  have r:(part e (tN y) (i*1)).run P w= .ok (.int .u8 (B8 (y.getD i 0))) w:=by simp[part,isAgg,lu L,tM y i hi,Vector.getD,hi]
  have u:(Op.equalIn (d+1) e (.int .u8 (B8 (x.getD i 0))) (.int .u8 (B8 (y.getD i 0)))).run P w= .ok (B8 (x.getD i 0)==B8 (y.getD i 0)) w:=
   run_equalIn_int w d e .u8 .u8 _ _ L
  simp only[List.forIn_cons,Sem.run_bind,q,r,u,Result.andThen_ok,List.all_cons];cases hb:(B8 (x.getD i 0)==B8 (y.getD i 0))
  .simp
  .simp only[Mf,tu,rL,Sem.run_pure,Result.andThen_ok,xl];exact z λj k=>g j (by simp[k])
end
def yH(place:Nat->Option (Nat×Nat))(z:Array Value):List (Nat×Value)->Option (Array Value)
 | []=>some z
 |(i,v)::rest=>
  match place i with
  |none=>none
  |some (off,A)=>if v.cells.size=A/\off+A<=z.size then yH place (lY z off v.cells) rest else none
@[irreducible] def Y1(place:Nat->Option (Nat×Nat))(z:Array Value)(A:Option (Nat×Nat))(vs:Array Value)(N:List (Nat×Value)):Option (Array Value):=
 match A with
 |none=>none
 |some (off,B)=>if vs.size=B/\off+B<=z.size then yH place (lY z off vs) N else none
def WE{place:Nat->Option (Nat×Nat)}{z:Array Value}{A:Nat}{vs:Array Value}{N:List (Nat×Value)}(a:vs.size=A)(b:off+A<=z.size):Y1 place z (some (off,A)) vs N=yH place (lY z off vs) N:=by
 unfold Y1;simp only[a,b,and_self,oQ]
theorem abA(place:Nat->Option (Nat×Nat))(z:Array Value):yH place z []=some z:=rfl
section
variable (place:Nat->Option (Nat×Nat))(cells:Array Value)(i:Nat)(rest:List (Nat×Value))
theorem abB(k:IntKind)(x:Int):yH place cells ((i,.int k x)::rest)=Y1 place cells (place i) #[.int k x] rest:=by unfold Y1;rfl
end
attribute [go_sem] abA abB WE
theorem Qd(z:Array Value)(off:Nat)(vs:List Value):∀(k:Nat),off+k+vs.length<=z.size->
 (vs.zipIdx k).foldl (λcs (p:Value×Nat)=>cs.setIfInBounds (off+p.2) p.1) z=lY z (off+k) vs.toArray:=by
 induction vs generalizing z with
 |nil=>
  intro k h;apply qB;intro i;rw[mn jE];simp;omega
 |cons v vs y=>
  intro k h;simp only[List.length_cons]at h;rw[List.zipIdx_cons,GS,y _ (k+1) jY];apply qB;intro i;rw[mn jY,mn jY];simp only[xn,List.length_cons,AZ,CL];by_cases a:i=off+k
  .subst a;rw[ku kh,kx O,kx kh,kx kh];simp
  .by_cases b:off+k<i/\i<off+k+(vs.length+1)
   .rw[kx kh,kx kh,show i-(off+k)=(i-(off+(k+1)))+1 from by omega,Xc]
   .rw[ku kh,ku kh,ku kh]
def rS{place:Nat->Option (Nat×Nat)}:∀(ps:List (Nat×Value)) (cells out:Array Value),yH place cells ps=some out->Instr.fill place cells ps=some out:=by
 intro ps
 induction ps with
 |nil=>intro cells out h;simpa[yH,Instr.fill]using h
 |cons p ps y=>
  obtain⟨i,v⟩:=p;intro cells out h;rw[yH]at h;rw[Instr.fill];cases X:place i with
  |none=>rw[X]at h;cases h
  |some q=>
   obtain⟨off,z⟩:=q;rw[X]at h;simp only at h⊢;split at h
   .rename_i u;obtain⟨a,b⟩:=u;rw[ku jY];have e:=Qd cells off v.cells.toList 0 jY
    have c:v.cells.zipIdx.foldl (λcs (p:Value×Nat)=>cs.setIfInBounds (off+p.2) p.1) cells=lY cells off v.cells:=by
     rw[<-Array.foldl_toList,Array.toList_zipIdx];simpa using e
    rw[c];exact y _ _ h
   .cases h
@[irreducible] def Qo(t:TypeId)(u:Array (Nat×Value)):Sem Value:=Instr.build t u
theorem NW{t:TypeId}{fs:Array Field}{z:Value}{A:List (Nat×Nat)}{place:Nat->Option (Nat×Nat)}(b:P.underlying t=some (.struct fs))(d:(P.info? t).bind (·.zero)=some z)
 (X:fs.toList.mapM (λf=>(P.info? f.type).map λi=>(f.offset,i.size))=some A) (I:∀i,A.toArray[i]?=place i) (u:List (Nat×Value)) (w:World):
 (IQ t u.toArray).run P w=Ci (yH place z.cells u) w ((Qo t u.toArray).run P w):=by
 unfold Ci IQ;split
 .rename_i cs h;refine run_build w t u.toArray cs ?_;unfold Program.built;cases c:P.info? t with
  |none=>rw[c]at d;cases d
  |some i=>
   have j:i.zero=some z:=by simpa[c]using d
   simp only[b,j,X];rw[show(λx:Nat=>A.toArray[x]?)=place from funext I];exact rS u _ _ h
 .unfold Qo;rfl
def ie(n:Int):Array Value:= #[.int .i64 n]
def anw:uo ie 1:=⟨λ_=>rfl,λ_=>by simp[ie,mA,Value.oneCell'],by omega⟩
theorem ajU(n:Int)(_:(Lit.int .i64 n).wf=true):ie n= #[.int .i64 n]:=rfl
def MC.aj4{G:List (BitVec 8)}(h:∀i (h:i<G.length),mQ w b (off+i*1) 1=some (be G[i])){i:Nat}(hi:i<G.length):w.cell? ⟨b,off+i,none⟩=some (.int .u8 (B8 G[i])):=by have:=aaS (h i hi) kh (v:=.int .u8 (B8 G[i])) O;simpa using this
def I0(w:World)(g:Nat)(cs:Array Value)(t:TypeId):Prop:=w.heap[g]?=some (.cells cs t (0,0))
def I0.lt{t:TypeId}(h:I0 w g cs t):g<w.heap.size:=(yf.1 h).1
def I0.cell{t:TypeId}(h:I0 w g cs t)(i:Nat){v:Value}(y:cs[i]?=some v):w.cell? ⟨g,i,none⟩=some v:=by rw[cell_of_row w g i cs t (0,0) h];exact y
def I0.row{t:TypeId}(h:I0 w g cs t)(off n:Nat):mQ w g off n=mD cs off n:=mX h
def I0.free{w:World}{g:Nat}{cs:Array Value}{t:TypeId}(h:I0 w g cs t):uk w g=true:=by unfold uk;rw[h];rfl
def I0.put{t:TypeId}(h:I0 w g cs t)(o:Nat)(c:Array Value):I0 (mw w g o c) g (lY cs o c) t:=mB h
def I0.ext{t:TypeId}(h:I0 w g cs t)(e:pr w w'):I0 w' g cs t:=e.heap h
def I0.new{t:TypeId}(h:g=w.heap.size):I0 (w.alloc (.cells cs t)) g cs t:=by subst h;exact o8 w _
variable {mx:Option Operand}
variable {vs:List (Nat×AV)}{zs out:List AV}
section
variable (tb:ZL P)
def se(T:Nat->Option AV):Option Operand->Nat->Nat->Prop
 |none,d,n=>n=d
 |some x,_,n=>∃k i,kv T x=some (.v (.int k i))/\i=(n:Int)
theorem zL{d:Nat}:se T none d d:=rfl
theorem sk{d:Nat}(h:kv T x=some (.v (.int k (n:Nat)))):se T (some x) d n:=⟨k,n,h,rfl⟩
theorem aiV{i:Int}{d:Nat}(n:Nat)(h:kv T x=some (.v (.int k i)))(B:i=(n:Int)):se T (some x) d n:=⟨k,i,h,B⟩
theorem uY{U:u0}{w:World}{n:Nat}{B:nE}{H:Hp}:∀(k:Nat) {G:List AV} {c:List Value},ov U w n G B H c->k<=G.length->ov U w n (G.drop k) B H (c.drop (k*n))
 |0,G,c,h,_=>by simpa using h
 |k+1,[],c,h,y=>by simp at y
 |k+1,x::G,c,h,y=>by
  simp only[ov]at h;obtain⟨c1,c2,rfl,hn,_,b⟩:=h;rw[DI];have:=uY k b jH;rw[sb,Q3,<-hn,DL];have e:c1.length+k*c1.length- c1.length=k*n:=by rw[hn];omega
  have i:c1.drop (c1.length+k*c1.length)= []:=ub kh;rw[i,EM,e,hn];exact this
theorem qK{U:u0}{w:World}{n:Nat}{B:nE}{H:Hp}:∀(k:Nat) {G:List AV} {c:List Value},ov U w n G B H c->ov U w n (G.take k) B H (c.take (k*n))
 |0,G,c,h=>by simp[ov]
 |k+1,[],c,h=>by simp only[ov]at h;subst h;simp[ov]
 |k+1,x::G,c,h=>by
  simp only[ov]at h;obtain⟨c1,c2,rfl,hn,a,b⟩:=h;rw[Q2];simp only[ov];refine⟨c1,c2.take (k*n),?_,hn,a,qK k b⟩;rw[sb,Q3,<-hn,GV,pO kh]
  congr 2
  omega
theorem s0{i:Int}{y:Nat}{c:BoundsCode}(hi:i=(n:Int))(h:n<=y):(Instr.sliceBound (.int k i) y c).run P w= .ok n w:=by
 subst hi;have j:(0:Int)<=(n:Int)/\(n:Int)<=(y:Int):=eY;simp[Instr.sliceBound,asIntOf,j]
theorem rH{H':Hp}(r:mg E nt B T' H' a w){isS:Bool}{len cap l h m:Nat}{lo hi mx:Option Operand}(Y:se T' lo 0 l)(C:se T' hi len h)(M:se T' mx cap m)(f:mx.isSome=true->hi.isSome=true)(b:l<=h)(c:h<=m)(n:m<=cap):
 (Instr.sliceBounds isS len cap (lo.map a.eval) (hi.map a.eval) (mx.map a.eval)).run P w= .ok (l,h,m) w:=by
 have ev:∀{x:Operand} {k:IntKind} {i:Int},kv T' x=some (.v (.int k i))->a.eval x= .int k i:=λh=>r.od h;cases mx with
 |none=>
  obtain rfl:m=cap:=M;cases hi with
  |none=>
   obtain rfl:h=len:=C;cases lo with
   |none=>obtain rfl:l=0:=Y;simp[Instr.sliceBounds]
   |some x=>
    obtain⟨k,i,R,d⟩:=Y;simp[Instr.sliceBounds,ev R,s0 d b]
  |some y=>
   obtain⟨k,i,R,d⟩:=C;cases lo with
   |none=>obtain rfl:l=0:=Y;simp[Instr.sliceBounds,ev R,s0 d c]
   |some x=>
    obtain⟨k',v,S,T⟩:=Y;simp[Instr.sliceBounds,ev R,ev S,s0 d c,s0 T b]
 |some z=>
  cases hi with
  |none=>simp at f
  |some y=>
   obtain⟨k,i,R,d⟩:=C;obtain⟨k'',j,W,J⟩:=M;cases lo with
   |none=>obtain rfl:l=0:=Y;simp[Instr.sliceBounds,ev R,ev W,s0 d c,s0 J n]
   |some x=>
    obtain⟨k',v,S,T⟩:=Y;simp[Instr.sliceBounds,ev R,ev S,ev W,s0 d c,s0 T b,s0 J n]
theorem qs{o:Option Operand}{d:Nat}(h:se T o d n)(s:∀y∈o.toList,kv T' y=kv T y):se T' o d n:=by
 cases o with
 |none=>exact h
 |some x=>
  obtain⟨k,i,a,b⟩:=h;exact⟨k,i,(s x ki).trans a,b⟩
theorem V5{t:TypeId}{bytes:Nat}{lo hi:Option Operand}{tok:Option Nat}{l h m:Nat}(n:lK nt d=true)(p:tb.ti t=some (.sl e es bytes ea))(j:kv T x=some (.sl tok es G))(Y:se T lo 0 l)(W:se T hi G.length h)
 (hmx:(mx=none/\m=0)∨se T mx 0 m/\h<=m/\m<=G.length/\mx.isSome=true/\hi.isSome=true) (f:l<=h) (g:h<=G.length):
 kE P E nt ops ⟨d,.slice t x lo hi mx,ty,pos,af,gd⟩ T H [] ⟨.sl none es ((G.take h).drop l),[]⟩:=
 lO n λB T' H' a w r s D=>by
  have I:=ml ki (r.eval ((s x js).trans j)) O;simp only[Rd]at I;obtain⟨A,cap,i,k2,k3,C,_⟩:=I;injection i with i;obtain⟨_,hu,L,_⟩:=tb.ok t _ p;have q:=lC L w;have hlo':=qs Y (T':=T') (λy F=>s y ia);have X:=qs W (T':=T') (λy F=>s y hI)
  obtain⟨M,N,hM2⟩:∃M,(Instr.sliceBounds true G.length cap (lo.map a.eval) (hi.map a.eval) (mx.map a.eval)).run P w= .ok (l,h,M) w/\h<=M/\M<=cap:=by
   rcases hmx with⟨rfl,_⟩|⟨K,Z,b3,b4,b5⟩
   .exact⟨cap,rH r hlo' X (show se T' none cap cap from rfl) ki f kh (kK _),by omega,kK _⟩
   .have hmx':=qs K (T':=T') (λy F=>s y hJ);refine⟨m,rH r hlo' X ?_ (λ_=>b5) f Z kh,Z,by omega⟩;cases mx with
    |none=>simp at b4
    |some z=>exact hmx'
  refine⟨.slice (if M=l then A else A.map (·.add (l*es))) (h- l) (M- l),?_,?_⟩
  .simp[execOp,i,Instr.sliceAt,lu hu,Instr.slice,N,q]
  .rw[kJ ki];refine⟨[_],?_,rfl⟩;simp only[Rd];have U:((G.take h).drop l).length=h- l:=by rw[q8,n5];omega
   refine⟨_,M- l,by rw[U],by rw[U];omega,by omega,λu=>?_,λt s=>by cases s⟩;rw[U]at u;obtain⟨b,off,c,rfl,J,v,V⟩:=C kh;have S:=lG V;have R:l*es+(h- l)*es=h*es:=by rw[<-lZ];congr 1;omega
   have k:h*es<=G.length*es:=mH _ g;refine⟨b,off+l*es,(c.take (h*es)).drop (l*es),?_,?_,λo o1 o2=>v o kh (by rw[U]at o2;omega),uY l (qK h V) i6⟩
   .rw[ku kh];simp[ss]
   .rw[U,yx J (l*es) ((h- l)*es) kh];unfold mD;rw[kx (by simp[S];omega)]
    congr 1
    apply sr;simp only[ZA,List.extract_eq_take_drop];rw[List.drop_take]
    congr 1
    omega
theorem Ez{t:TypeId}{hi:Option Operand}{h:Nat}(n:lK nt d=true)(o:tb.ti t=some (.arr tn (len+1) es ea e))(j:kv T x=some (.ptr g off p))(C:se T hi (len+1) h)(c:h<=len+1)(i:len<9223372036854775807):
 kE P E nt ops ⟨d,.slice t x none hi none,ty,pos,af,gd⟩ T H [] ⟨.seg g off es p h (len+1),[]⟩:=
 lO n λB T' H' a w r s D=>by
  have I:=ml ki (r.eval ((s x js).trans j)) O;simp only[Rd]at I;obtain⟨z,b,f,k2⟩:=I;injection k2 with k2;obtain⟨_,hu,L⟩:=tb.ok t _ o;have k:=lC L w;have u:=qs C (T':=T') (λy F=>s y im);have M:=rH (P:=P) (isS:=false) (len:=len+1) (cap:=len+1) r (show se T' none 0 0 from rfl) u (show se T' none (len+1) (len+1)from rfl) ki (kO _) c (kK _);refine⟨.slice (some ⟨b,off,none⟩) h (len+1),?_,?_⟩
  .simp at M;simp[execOp,k2,Instr.sliceAt,lu hu,Instr.sureAddr,M,k,Addr.add]
  .rw[kJ ki];exact⟨[_],by simp only[Rd];exact⟨z,b,f,by unfold maxLen;omega,c,rfl⟩,rfl⟩
theorem SP{t:TypeId}{m:Nat}{hi:Option Operand}{h:Nat}{y:AV}(n:lK nt d=true)(q:tb.ti t=some (.arr tn (len+1) es ea e))(j:kv T x=some (.ptr g off p))(u:H g=some (.froz y))(X:sU p y=some (.arr m es G))(U:tj p y=off)
 (C:se T hi (len+1) h) (c:h<=len+1) (Y:G.length=len+1) (i:len<9223372036854775807):
 kE P E nt ops ⟨d,.slice t x none hi none,ty,pos,af,gd⟩ T H [g] ⟨.sl none es (G.take h),[]⟩:=
 lO n λB T' H' a w r s D=>by
  have I:=ml ki (r.eval ((s x js).trans j)) O;simp only[Rd]at I;obtain⟨z,b,f,k2⟩:=I;injection k2 with k2;obtain⟨_,hu,L⟩:=tb.ok t _ q;have l:=lC L w;obtain⟨b',cs,A,v,W,R⟩:=r.box g _ ((D g ki).trans u);rw[f]at A;injection A with A;subst A
  obtain⟨c1,c2,c3,rfl,M,m2,_⟩:=wz p R X;have S:=Ad v;rw[oa,M,U]at S;simp only[Rd]at m2;have J:=lG m2.2;have K:=qs C (T':=T') (λy F=>s y im);have N:=rH (P:=P) (isS:=false) (len:=len+1) (cap:=len+1) r (show se T' none 0 0 from rfl) K (show se T' none (len+1) (len+1)from rfl) ki (kO _) c (kK _);refine⟨.slice (some ⟨b,off,none⟩) h (len+1),?_,?_⟩
  .simp at N;simp[execOp,k2,Instr.sliceAt,lu hu,Instr.sureAddr,N,l,Addr.add]
  .rw[kJ ki];refine⟨[_],?_,rfl⟩;simp only[Rd];have V:(G.take h).length=h:=fA;have k:h*es<=G.length*es:=mH _ kh;refine⟨_,len+1,by rw[V],by rw[V];exact c,by unfold maxLen;omega,λ_=>⟨b,off,c2.take (h*es),rfl,?_,λo o1 o2=>?_,qK h m2.2⟩,λt s=>by cases s⟩
   .rw[V];have:=yx S 0 (h*es) kh;rw[vA]at this;rw[this];unfold mD;rw[kx jY]
    congr 1
    apply sr;simp
   .rw[V]at o2;exact W o kh jY
def pL(T:Nat->Option AV):List (Nat×Operand)->Option (List (Nat×AV))
 | []=>some []
 |(i,x)::l=>match kv T x,pL T l with
  |some v,some vs=>bif lS v then some ((i,v)::vs)else none
  |_,_=>none
def um:List (Nat×AV)->List AV->Option (List AV)
 | [],zs=>some zs
 |(i,v)::l,zs=>match zs[i]? with
  |some z=>bif Nat.beq (lE v) (lE z)then um l (zs.set i v)else none
  |none=>none
theorem vU{T':Nat->Option AV}:∀{l:List (Nat×Operand)} {vs:List (Nat×AV)},pL T l=some vs->(∀p∈l,kv T' p.2=kv T p.2)->pL T' l=some vs
 | [],vs,h,_=>h
 |(i,x)::l,vs,h,s=>by
  simp only[pL]at h⊢;rw[s (i,x) ki];cases j:kv T x with
  |none=>rw[j]at h;cases h
  |some v=>
   rw[j]at h;cases g:pL T l with
   |none=>rw[g]at h;cases h
   |some J=>rw[g]at h;rw[vU g (λp X=>s p (nV _ X))];exact h
theorem Cv{B:nE}{T':Nat->Option AV}{H':Hp}{a:Act}{w:World}(r:mg E nt B T' H' a w){place:Nat->Option (Nat×Nat)}:∀(l:List (Nat×Operand)) (vs:List (Nat×AV)) (zs out:List AV) (cells:List Value),pL T' l=some vs->um vs zs=some out->
 (∀i z,zs[i]?=some z->place i=some (te (zs.take i),lE z))->qQ (kI E B H') w zs B H' cells->
 ∃f,yH place cells.toArray (l.map λp=>(p.1,a.eval p.2))=some f.toArray/\qQ (kI E B H') w out B H' f
 | [],vs,zs,out,cells,b,c,_,C=>by
  simp only[pL,mr]at b;subst b;simp only[um,mr]at c;subst c;exact⟨cells,rfl,C⟩
 |(i,x)::l,vs,zs,out,cells,b,c,n,C=>by
  simp only[pL]at b;cases m:kv T' x with
  |none=>rw[m]at b;cases b
  |some v=>
   rw[m]at b;cases g:pL T' l with
   |none=>rw[g]at b;cases b
   |some J=>
    rw[g]at b;cases N:lS v with
    |false=>simp[N]at b
    |true=>
     simp only[N,cond_true,mr]at b;subst b;simp only[um]at c;cases d:zs[i]? with
     |none=>rw[d]at c;cases c
     |some z=>
      rw[d]at c;cases hb:Nat.beq (lE v) (lE z)with
      |false=>simp[hb]at c
      |true=>
       simp only[hb,cond_true]at c;have F:=mi hb;have A:=r.eval m;rw[kJ (l6 N)]at A;obtain⟨c',e,k2⟩:=A;obtain⟨c1,c2,c3,rfl,M,m2,t⟩:=MG C d;have G:c'.length=c2.length:=by rw[nJ e,nJ m2,F]
       have I:=t v c' e
       have L:∀j y,(zs.set i v)[j]?=some y->place j=some (te ((zs.set i v).take j),lE y):=by
        intro j y k
        have K:∀j,te ((zs.set i v).take j)=te (zs.take j):=by
         intro j;clear c n C I t M e m2 G k
         induction zs generalizing i j with
         |nil=>simp
         |cons q zs D=>
          cases i with
          |zero=>
           simp at d;subst d;cases j<;>simp[te,F]
          |succ i=>
           cases j with
           |zero=>simp
           |succ j=>simp[te,D i jO j]
        rw[K];by_cases H:i=j
        .subst H;have Z:i<zs.length:=(mS.1 d).1;rw[vQ Z]at k;injection k with k;subst k;rw[F];exact n i z d
        .rw[DH H]at k;exact n j y k
       obtain⟨f,s,o⟩:=Cv r l J (zs.set i v) out _ g c L I;refine⟨f,?_,o⟩;simp only[nc,yH];rw[n i z d];have u:(a.eval x).cells=c'.toArray:=by rw[k2];exact vo e
       simp only[u];rw[kx ⟨by simp[G,nJ m2],by rw[<-M,<-nJ m2];simp<;>omega⟩,<-M,KZ G];exact s
theorem IF{P:Program}:∀(F:List Field) (fs:List (Nat×Nat×Bool)),FOk P (F.map λf=>(f.offset,f.type)) fs->F.mapM (λf=>(P.info? f.type).map λi=>(f.offset,i.size))=some (fs.map λx=>(x.1,x.2.1))
 | [],[],_=>rfl
 |f::F,(o,s,g)::fs,h=>by
  obtain⟨a,⟨_,_,_,b⟩,k⟩:=h;have y:=IF F fs k
  have E:(P.info? f.type).map (λi=>(f.offset,i.size))=some (f.offset,s):=by
   cases hi:P.info? f.type with
   |none=>rw[hi]at b;cases b
   |some i=>rw[hi]at b;simp at b;simp[b]
  simp only[List.mapM_cons,E,y,nc,<-a];rfl
 | [],_::_,h=>h.elim
 |_::_,[],h=>h.elim
def tF:Nat->List AV->List (Nat×Nat×Bool)->Bool
 |_,[],[]=>true
 |o,z::zs,(o',s,_)::fs=>Nat.beq o o'&&Nat.beq s (lE z)&&tF (o+s) zs fs
 |_,_,_=>false
theorem IA:∀{o:Nat} {zs:List AV} {fs:List (Nat×Nat×Bool)},tF o zs fs=true-> ∀i z,zs[i]?=some z->(fs.map λx=>(x.1,x.2.1))[i]?=some (o+te (zs.take i),lE z)
 |o,[],[],_,i,z,h=>fq
 |o,y::zs,(o',s,g)::fs,w,i,z,h=>by
  simp only[tF,l5]at w;obtain⟨⟨a,b⟩,k⟩:=w;have P:=mi a;have c:=mi b;cases i with
  |zero=>simp at h;subst h;simp[te,P,c]
  |succ i=>
   have:=IA k i z jE;simp only[nc,List.getElem?_cons_succ,this,List.take_succ_cons,te,mr,pq,and_true];omega
 |_,[],_::_,h,_,_,_=>by simp[tF]at h
 |_,_::_,[],h,_,_,_=>by simp[tF]at h
theorem SQ{t:Nat}{fs:List (Nat×Nat×Bool)}{l:List (Nat×Operand)}(o:lK nt d=true)(s:tb.ti t=some (.st n fs))(f:lB P t (.agg n zs))(y:pL T l=some vs)(V:um vs zs=some out)(X:tF 0 zs fs=true):
 kE P E nt ops ⟨d,.build t l.toArray,ty,pos,af,gd⟩ T H [] ⟨.agg n out,[]⟩:=
 lO o λB T' H' a w r u D=>by
  obtain⟨⟨_,L,_,_⟩,F,hu,hF⟩:=tb.ok t _ s;obtain⟨i,N,z1,z2,C⟩:=f;have I:=t4 (B:=B) (H:=H') _ (C (kI E B H') w);simp only[Rd]at I;have S:=vU y (T':=T') (λp X=>u p.2 iR);obtain⟨Z,m,k⟩:=Cv r l vs zs out _ S V (place:=λi=>(fs.map λx=>(x.1,x.2.1))[i]?) (λi z h=>by have:=IA X i z h;simpa using this) I.2
  have hb:P.built t (l.map λp=>(p.1,a.eval p.2))=some Z.toArray:=by
   unfold Program.built;simp only[z1,hu,z2,IF _ _ hF];have:=rS _ _ _ m;simp only[AZ];simpa using this
  have W:Z.length=n:=by
   have R:=I.1
   have:∀{zs:List AV} {c:List Value},qQ (kI E B H') w zs B H' c->c.length=te zs:=by
    intro zs
    induction zs with
    |nil=>intro c h;simp only[qQ]at h;subst h;rfl
    |cons z zs A=>intro c h;simp only[qQ]at h;obtain⟨c1,c2,rfl,e,k2⟩:=h;simp[te,nJ e,A k2]
   rw[this k,<-R,this I.2];clear m k y S hb I X C
   induction vs generalizing zs with
   |nil=>simp only[um,mr]at V;rw[V]
   |cons p vs A=>
    obtain⟨j,v⟩:=p;simp only[um]at V;cases f:zs[j]? with
    |none=>rw[f]at V;cases V
    |some z=>
     rw[f]at V;cases hb:Nat.beq (lE v) (lE z)with
     |false=>simp[hb]at V
     |true=>
      simp only[hb,cond_true]at V;rw[A V];have G:=mi hb;clear A V
      induction zs generalizing j with
      |nil=>simp at f
      |cons q zs J=>
       cases j with
       |zero=>simp at f;subst f;simp[te,G]
       |succ j=>simp[te,J j (by simpa using f)]
  refine⟨.agg Z.toArray,?_,?_⟩
  .have K:=run_build (P:=P) w t (l.map λp=>(p.1,a.eval p.2)).toArray Z.toArray jA;simp only[execOp];have U:(Array.map (λx=>(x.1,a.eval x.2)) l.toArray)=(l.map λp=>(p.1,a.eval p.2)).toArray:=e1;simp only[U,Sem.run_bind,K];rfl
  .rw[kJ ki];exact⟨Z,by simp only[Rd];exact⟨W,k⟩,rfl⟩
end
variable {rs:List MQ}
section
variable {l:List Oper}{T:List (Nat×AV)}{H:List (Nat×Bx)}{d:Nat}
theorem Vg{T:Nat->Option AV}{d:Option Nat}:kN ops ⟨d,op,ty,pos,af,none⟩ T=some true:=rfl
def Vh{T:Nat->Option AV}{d:Option Nat}{b c:Bool}(h:((ops[j]?).bind (·.dst)).bind T=some (.v (.bool c)))(u:c=b):kN ops ⟨d,op,ty,pos,af,some (j,b)⟩ T=some true:=by
 subst u;unfold kN;simp[h]
def ac1{T:Nat->Option AV}{d:Option Nat}{b c:Bool}(h:((ops[j]?).bind (·.dst)).bind T=some (.v (.bool c)))(u:c= !b):kN ops ⟨d,op,ty,pos,af,some (j,b)⟩ T=some false:=by
 subst u;unfold kN;simp[h]
def Jg(S:St)(h:K S rs):lM P E nt ops [] S rs K:=h
def Wv{v:AV}(F:kE P E nt ops ⟨some d,op,ty,pos,af,gd⟩ (St.t ⟨T,H⟩) (St.h ⟨T,H⟩) rh ⟨v,[]⟩)(e:kN ops ⟨some d,op,ty,pos,af,gd⟩ (St.t ⟨T,H⟩)=some true)
 (h:lM P E nt ops l ⟨(d,v)::T,H⟩ (rs++[⟨rh,[]⟩]) K):lM P E nt ops (⟨some d,op,ty,pos,af,gd⟩::l) ⟨T,H⟩ rs K:=⟨⟨T,H⟩,⟨O,rfl⟩,.inl ⟨e,rh,_,F,h⟩⟩
def Wb{v:AV}{b:Bx}(F:kE P E nt ops ⟨some d,op,ty,pos,af,gd⟩ (St.t ⟨T,H⟩) (St.h ⟨T,H⟩) rh ⟨v,[(g,b)]⟩)(e:kN ops ⟨some d,op,ty,pos,af,gd⟩ (St.t ⟨T,H⟩)=some true)
 (h:lM P E nt ops l ⟨(d,v)::T,(g,b)::H⟩ (rs++[⟨rh,[g]⟩]) K):lM P E nt ops (⟨some d,op,ty,pos,af,gd⟩::l) ⟨T,H⟩ rs K:=⟨⟨T,H⟩,⟨O,rfl⟩,.inl ⟨e,rh,_,F,h⟩⟩
def Ws{v:AV}{b:Bx}(F:kE P E nt ops ⟨none,op,ty,pos,af,gd⟩ (St.t ⟨T,H⟩) (St.h ⟨T,H⟩) rh ⟨v,[(g,b)]⟩)(e:kN ops ⟨none,op,ty,pos,af,gd⟩ (St.t ⟨T,H⟩)=some true)
 (h:lM P E nt ops l ⟨T,(g,b)::H⟩ (rs++[⟨rh,[g]⟩]) K):lM P E nt ops (⟨none,op,ty,pos,af,gd⟩::l) ⟨T,H⟩ rs K:=⟨⟨T,H⟩,⟨O,rfl⟩,.inl ⟨e,rh,_,F,h⟩⟩
def sN(e:kN ops ⟨some d,op,ty,pos,af,gd⟩ (St.t ⟨T,H⟩)=some false)(n:lK nt (some d)=true)
 (h:lM P E nt ops l ⟨(d,.mz [])::T,H⟩ (rs++[⟨[],[]⟩]) K):lM P E nt ops (⟨some d,op,ty,pos,af,gd⟩::l) ⟨T,H⟩ rs K:=⟨⟨T,H⟩,⟨O,rfl⟩,.inr ⟨e,n,h⟩⟩
def Was(s:Nat)(y:AV)(p:kV s T=some y){o:Oper}(h:lM P E nt ops (o::l) ⟨(s,y)::T,H⟩ rs K):lM P E nt ops (o::l) ⟨T,H⟩ rs K:=by
 obtain⟨S,⟨a,b⟩,m⟩:=h;refine⟨S,⟨a.trans ?_,b⟩,m⟩
 show(λk=>kV k ((s,y)::T))=λk=>kV k T
 rw[kZ];exact rC p
def ago(s:Nat)(b:Bool){c:Bool}(p:kV s T=some (.v (.bool c)))(u:c=b){o:Oper}(h:lM P E nt ops (o::l) ⟨(s,.v (.bool b))::T,H⟩ rs K):lM P E nt ops (o::l) ⟨T,H⟩ rs K:=by
 subst u;obtain⟨S,⟨a,d⟩,m⟩:=h;refine⟨S,⟨a.trans ?_,d⟩,m⟩
 show(λk=>kV k ((s,AV.v (.bool c))::T))=λk=>kV k T
 rw[kZ];exact rC p
end
mutual
def mR:AV->List Nat
 | .v _=> []
 | .agg _ fs=>ow fs
 | .arr _ _ _=> []
 | .ptr g _ _=> [g]
 | .ref _=> []
 | .sl none _ _=> []
 | .sl (some t) _ _=> [t]
 | .seg g _ _ _ _ _=> [g]
 | .mz vs=>ow vs
 | .fn _ a b=>ow a++ow b
 | .ifc _ x=>mR x
 | .own g _ _ _=> [g]
 | .raw _ _ _=> []
 | .hv g=> [g]
def ow:List AV->List Nat
 | []=> []
 |x::l=>mR x++ow l
end
section
variable {H':Hp}
mutual
theorem v9(hv:B'.hv=B.hv):∀(x:AV),(∀g∈mR x,H' g=H g/\B' g=B g)-> ∀{cs:List Value},Rd U w x B H cs->Rd U w x B' H' cs
 | .v x,_,_,h=>e9
 | .agg n fs,d,_,h=>by
  simp only[Rd]at h⊢;exact⟨h.1,OT hv fs jl h.2⟩
 | .arr m n G,_,_,h=>e9
 | .ref x,_,_,h=>e9
 | .sl none n G,_,_,h=>e9
 | .sl (some t) n G,d,_,h=>by
  simp only[Rd]at h⊢;obtain⟨A,cap,h1,h2,h3,h4,h5⟩:=h;refine⟨A,cap,h1,h2,h3,h4,λt' ht=>?_⟩;injection ht with ht;subst ht;obtain⟨k1,k2⟩:=d t jP;unfold Ei;rw[k1,k2];exact h5 t O
 | .ptr g _ _,d,_,h=>by
  simp only[Rd]at h⊢;obtain⟨k1,k2⟩:=d g jP;rw[k1,k2];exact h
 | .seg g _ _ _ _ _,d,_,h=>by
  simp only[Rd]at h⊢;obtain⟨k1,k2⟩:=d g jP;rw[k1,k2];exact h
 | .mz _,_,_,h=>fc
 | .fn f a b,d,_,h=>by
  simp only[Rd]at h⊢;simp only[mR,rJ]at d;obtain⟨c1,c2,h1,h2,h3⟩:=h;exact⟨c1,c2,h1,DP hv a (λg hg=>d g (.inl hg)) h2,DP hv b (λg hg=>d g (.inr hg)) h3⟩
 | .ifc t x,d,_,h=>by
  simp only[Rd]at h⊢;obtain⟨c,h1,h2⟩:=h;exact⟨c,v9 hv x jl h1,h2⟩
 | .own g _ _ _,d,_,h=>by
  simp only[Rd]at h⊢;obtain⟨k1,k2⟩:=d g jP;unfold rQ at h⊢;rw[k1,k2];exact h
 | .raw _ _ _,_,_,h=>e9
 | .hv g,d,_,h=>by
  simp only[Rd]at h⊢;rw[(d g jP).1,hv];exact h
theorem OT(hv:B'.hv=B.hv):∀(G:List AV),(∀g∈ow G,H' g=H g/\B' g=B g)-> ∀{cs:List Value},qQ U w G B H cs->qQ U w G B' H' cs
 | [],_,_,h=>fd
 |x::G,d,_,h=>by
  simp only[qQ]at h⊢;simp only[ow,rJ]at d;obtain⟨c1,c2,h1,h2,h3⟩:=h;exact⟨c1,c2,h1,v9 hv x (λg hg=>d g (.inl hg)) h2,OT hv G (λg hg=>d g (.inr hg)) h3⟩
theorem DP(hv:B'.hv=B.hv):∀(G:List AV),(∀g∈ow G,H' g=H g/\B' g=B g)-> ∀{cs:List Value},oe U w G B H cs->oe U w G B' H' cs
 | [],_,_,h=>ff
 |x::G,d,_,h=>by
  simp only[oe]at h⊢;simp only[ow,rJ]at d;obtain⟨c,vs,h1,h2,h3⟩:=h;exact⟨c,vs,h1,v9 hv x (λg hg=>d g (.inl hg)) h2,DP hv G (λg hg=>d g (.inr hg)) h3⟩
end
def OS(y:B'.hv=B.hv){x:AV}{v:Value}(d:∀g∈mR x,H' g=H g/\B' g=B g)(h:qJ U w B H x v):qJ U w B' H' x v:=by
 rcases Ec x with⟨G,rfl⟩|hx
 .rw[mW]at h⊢;obtain⟨vs,a,b⟩:=h;exact⟨vs,a,DP y G jl b⟩
 .rw[kJ hx]at h⊢;obtain⟨c,a,b⟩:=h;exact⟨c,v9 y x d a,b⟩
end
def qA:Bx->List Nat
 | .var x=>mR x
 | .froz x=>mR x
 | .tail _ _ _=> []
 | .own _ _ _=> []
 | .hid=> []
 | .ext _=> []
def ajk(T:List (Nat×AV))(H':List (Nat×Bx)):List (Nat×AV)->Prop
 | []=>True
 |(s,x)::l=>kV s T=some x/\(mR x).all (λg=>(kV g H').isSome)=true/\ajk T H' l
def agw(H H':List (Nat×Bx)):List (Nat×Bx)->Prop
 | []=>True
 |(s,x)::l=>kV s H=some x/\(qA x).all (λg=>(kV g H').isSome)=true/\agw H H' l
def ajl(H H':List (Nat×Bx)):Bool:=H.all λp=>Nat.blt p.1 1000||(kV p.1 H').isSome
def Sub(S S':St):Prop:=ajk S.T S'.H S'.T/\agw S.H S'.H S'.H/\ajl S.H S'.H=true
theorem ajk.all{T:List (Nat×AV)}{H':List (Nat×Bx)}:∀{l:List (Nat×AV)},ajk T H' l-> ∀p∈l,kV p.1 T=some p.2/\(mR p.2).all (λg=>(kV g H').isSome)=true
 | [],_,p,h=>fk
 |(s,x)::l,⟨a,b,k⟩,p,h=>by
  rcases mf.1 h with rfl|h
  .exact⟨a,b⟩
  .exact k.all p h
theorem agw.all{H H':List (Nat×Bx)}:∀{l:List (Nat×Bx)},agw H H' l-> ∀p∈l,kV p.1 H=some p.2/\(qA p.2).all (λg=>(kV g H').isSome)=true
 | [],_,p,h=>fk
 |(s,x)::l,⟨a,b,k⟩,p,h=>by
  rcases mf.1 h with rfl|h
  .exact⟨a,b⟩
  .exact k.all p h
theorem mI{α:Type}:∀{l:List (Nat×α)} {k:Nat} {v:α},kV k l=some v->(k,v)∈l
 | [],_,_,h=>fk
 |(j,u)::l,k,v,h=>by
  simp only[kV]at h;cases hb:Nat.beq j k
  .rw[hb]at h;exact nV _ (mI h)
  .rw[hb]at h;simp only[cond_true,mr]at h;rw[<-mi hb,h];exact oO
variable {S':St}
def Sub.rel(h:Sub S S'){B:nE}{a:Act}{w:World}(r:mg E nt B S.t S.h a w):∃B',mg E nt B' S'.t S'.h a w:=by
 obtain⟨I,K,H⟩:=h
 replace I:=I.all
 replace K:=K.all
 have hb:∀g bx,S'.h g=some bx->S.h g=some bx:=λg bx h=>(K (g,bx) (mI h)).1
 let B':nE:=⟨λg=>if(S'.h g).isSome then B g else none,B.fx,B.hv⟩
 have X:∀g,(S'.h g).isSome=true->S'.h g=S.h g/\B' g=B g:=by
  intro g u;refine⟨?_,by simp[B',u]⟩;cases h:S'.h g with
  |none=>rw[h]at u;cases u
  |some bx=>exact(hb g bx h).symm
 have J:∀b o,kI E B' S'.h b o->kI E B S.h b o:=by
  rintro b o (h|h|⟨g,h1,d⟩)
  .exact .inl h
  .exact .inr (.inl h)
  .refine .inr (.inr ⟨g,?_,?_⟩)
   .simp only[B']at h1;split at h1
    .exact h1
    .cases h1
   .cases u:S'.h g with
    |none=>rw[u]at d;exact d.elim
    |some bx=>rw[hb g bx u];rw[u]at d;exact d
 have V:∀{x:AV} {cs:List Value},(∀g∈mR x,(S'.h g).isSome=true)->Rd (kI E B S.h) w x B S.h cs->Rd (kI E B' S'.h) w x B' S'.h cs:=λ{x cs} m h=>
  v9 (B:=B) (B':=B') O x (λg u=>(X g (m g u))) (n6 (nK.refl _ w) (λb o _ h=>J b o h) x ⟨λ_ _ _ h=>h,λ_ h=>h,λ_ _ _ _ _ h=>h,λ_ _ _ _ _ h=>h,λ_ h=>⟨h,rfl⟩⟩ h)
 refine⟨B',r.nt,r.df,λs x q=>?_,λg bx u=>?_,λg u=>by simp[B',u],λg g' b h1 d p A=>?_,r.left,λg u=>?_,r.fx.go O (kK _) λg b h1 d=>.inl ?_⟩
 .obtain⟨h1,d⟩:=I (s,x) (mI q);obtain⟨v,p,A⟩:=r.tmp s x h1;refine⟨v,p,OS (B:=B) (B':=B') O (λg u=>X g ?_) (Be J A)⟩;rw[mq]at d;exact d g u
 .obtain⟨h1,d⟩:=K (g,bx) (mI u);rw[mq]at d;have p:=r.box g bx h1;have y:=(X g j4).2;cases bx with
  |var x=>
   obtain⟨b,cs,t,f,k2,k3,z⟩:=p;exact⟨b,cs,t,y.trans f,k2,V (λg u=>d g u) k3,z⟩
  |froz x=>
   obtain⟨b,cs,f,k2,k3,z⟩:=p;exact⟨b,cs,y.trans f,k2,λo F P R=>k3 o F P (J b o R),V (λg u=>d g u) z⟩
  |hid=>exact y.trans p
  |ext M=>exact⟨⟨p.1.1,y.trans p.1.2⟩,p.2.go O O (λ_ _ _=>rfl) (nK.refl _ w) (λb o _ h=>J b o h)⟩
  |tail e n k=>
   obtain⟨T,Z,f⟩:=p;refine⟨T,?_⟩;rw[y];exact⟨Z,f⟩
  |own e n G=>
   obtain⟨T,Z,f⟩:=p;refine⟨T,?_⟩;rw[y];refine⟨Z,f.imp id ?_⟩;rintro⟨b,cur,cap,c,N,m2,C,L,U,Y,W,m8⟩;exact⟨b,cur,cap,c,N,m2,C,L,U,Y,nr (nK.refl _ w) (λb o _ h=>J b o h) n G (qt.nj _ _) W,m8⟩
 .have i:∀j,nR (S'.h j)=true->nR (S.h j)=true/\B' j=B j:=by
   intro j l;cases D:S'.h j with
   |none=>rw[D]at l;cases l
   |some bx=>exact⟨by rw[hb j bx D,<-D];exact l,(X j (by rw[D];rfl)).2⟩
  obtain⟨f,k2⟩:=i g h1;obtain⟨k3,z⟩:=i g' d;exact r.inj g g' b f k3 (k2▸p) (z▸A)
 .cases D:S.h g with
  |none=>exact r.qa g D
  |some bx=>
   unfold ajl at H;rw[mq]at H;have h1:=H _ (mI D);rw[wu]at h1;rcases h1 with h1|h1
   .exact E.lo g (by simpa using h1)
   .rw[show kV g S'.H=none from u]at h1;cases h1
 .cases D:S'.h g with
  |none=>rw[D]at h1;cases h1
  |some bx=>exact⟨by rw[hb g bx D,<-D];exact h1,(X g (by rw[D];rfl)).2▸d⟩
def lL(E:su)(nt:Nat)(S S':St):Prop:=∀B a w,mg E nt B S.t S.h a w-> ∃B',mg E nt B' S'.t S'.h a w
def lL.sub(h:Sub S S'):lL E nt S S':=λ_ _ _ r=>h.rel r
def lL.same(b:S'.t=S.t)(c:S'.h=S.h):lL E nt S S':=λB a w r=>⟨B,by rw[b,c];exact r⟩
def lL.as{T:List (Nat×AV)}{H:List (Nat×Bx)}(s:Nat)(y:AV)(o:kV s T=some y):lL E nt ⟨T,H⟩ ⟨(s,y)::T,H⟩:=lL.same ((kZ _ _ _).trans (rC o)) O
def lL.token{T:List (Nat×AV)}{H:List (Nat×Bx)}(s g n:Nat)(e:TypeId)(o:kV s T=some (.v (.slice none 0 0)))(t:kV g H=none):lL E nt ⟨T,H⟩ ⟨(s,.sl (some g) (n+1) [])::T,(g,.tail e (n+1) 0)::H⟩:=λB a w r=>by
 have I:=r.token (g:=g) (n:=n+1) (e:=e) t (qh n);refine⟨B,I.nt,I.df,λi x j=>?_,λg' bx h=>?_,λg' h=>?_,λy l b c d=>?_,I.left,λg' h=>?_,?_⟩
 all_goals have F:St.h ⟨(s,AV.sl (some g) (n+1) [])::T,(g,.tail e (n+1) 0)::H⟩=l9 (St.h ⟨T,H⟩) g (.tail e (n+1) 0):=kZ _ _ _
 .have k:St.t ⟨(s,AV.sl (some g) (n+1) [])::T,(g,.tail e (n+1) 0)::H⟩=l9 (St.t ⟨T,H⟩) s (.sl (some g) (n+1) []):=kZ _ _ _;rw[F];rw[k]at j;by_cases h:i=s
  .subst h;rw[kB]at j;injection j with j;subst j;obtain⟨v,c,d⟩:=I.tmp i _ o;rw[nM]at d;refine⟨v,c,?_⟩;rw[kJ ki,d.2];exact⟨[_],Og (kB _ _ _) (r.x3 g t),rfl⟩
  .rw[kF _ _ h]at j;exact I.tmp i x j
 .rw[F]at h⊢;exact I.box g' bx h
 .rw[F]at h;exact I.x3 g' h
 .rw[F]at c d;exact I.inj y l b c d
 .rw[F]at h;exact I.qa g' h
 .rw[F];exact I.fx
variable {ι:Type}
section
variable {c:Code}
def lU(h:lL E nt S S')(k:AW P E nt c S' Q):AW P E nt c S Q:=λB a w r=>by
 obtain⟨B',l⟩:=h B a w r;exact k B' a w l
theorem kU(I:ι->St)(J:ι->Prop)(μ:ι->Nat)(C:ι)(m:J C)(o:lL E nt S (I C))
 (A:∀i,J i->AW P E nt c (I i) (mC (λS'=>∃j,J j/\μ j<μ i/\lL E nt S' (I j)) Q)):AW P E nt (.loop c) S Q:=by
 intro B a w r;obtain⟨B0,r0⟩:=o B a w r
 have R:∀n i,μ i=n->J i-> ∀B a w,mg E nt B (I i).t (I i).h a w-> ∀(b:Frame) (k:List Item) (cs:List Frame),
  ∃e W w',(∃B' S',mg E nt B' S'.t S'.h W w'/\Q e S')/\Arrives P (lone (b.at a (.code c::.inLoop c::k)) cs w) b k cs e W w':=by
  intro n
  induction n using Nat.strongRecOn with
  |_ n y=>
   intro i hn z B a w r b k cs;obtain⟨e,M,K,⟨q,p,N,d⟩,L⟩:=A i z B a w r b (.inLoop c::k) cs;cases e with
   |normal=>
    obtain⟨j,v,Z,u⟩:=d;obtain⟨H,X⟩:=u _ _ _ N;obtain⟨F,G,U,D,V⟩:=y (μ j) (hn▸Z) j O v H M K X b k cs;exact⟨F,G,U,D,.of_steps (Steps.trans L (.one step_inLoop)) V⟩
   |exit id=>exact⟨_,M,K,⟨q,p,N,d⟩,.pass (x:=.inLoop c) O (λ_ _=>.inl ki) L⟩
   |goto l=>exact⟨_,M,K,⟨q,p,N,d⟩,.pass (x:=.inLoop c) O (λ_ _=>.inl ki) L⟩
   |ret=>exact⟨_,M,K,⟨q,p,N,d⟩,.pass (x:=.inLoop c) O (λ_ _=>.inl ki) L⟩
   |panic T=>exact⟨_,M,K,⟨q,p,N,d⟩,.pass (x:=.inLoop c) O (λ_ _=>.inl ki) L⟩
   |outgrown=>exact d.elim
 intro b k cs;obtain⟨e,W,w',d,L⟩:=R _ C O m B0 a w r0 b k cs;exact⟨e,W,w',d,.of_steps (.one step_loop) L⟩
def acb{x y:Code}(I:St->Prop)(h:AW P E nt x S (mC I Q))(k:∀S',I S'->AW P E nt y S' Q):AW P E nt (.seq x y) S Q:=
 Ij (h.mono λe S' c=>by
  cases e with
  |normal=>exact k S' c
  |_=>exact c)
end
theorem Bg{U:u0}{w:World}{n:Nat}{B:nE}{H:Hp}:∀{G:List AV} {c:List Value},qQ U w G B H c->(∀x∈G,lE x=n)->ov U w n G B H c
 | [],c,h,_=>by simpa[qQ,ov]using h
 |x::G,c,h,hn=>by
  simp only[qQ]at h;obtain⟨c1,c2,rfl,a,b⟩:=h;simp only[ov];exact⟨c1,c2,rfl,by rw[nJ a];exact hn x oO,a,Bg b λy F=>hn y (nV _ F)⟩
theorem Ku{U:u0}{w:World}{n:Nat}{B:nE}{H:Hp}:∀{G:List AV} {c:List Value},ov U w n G B H c->qQ U w G B H c
 | [],c,h=>by simpa[qQ,ov]using h
 |x::G,c,h=>by
  simp only[ov]at h;obtain⟨c1,c2,rfl,_,a,b⟩:=h;simp only[qQ];exact⟨c1,c2,rfl,a,Ku b⟩
def BL.rdu(h:BL H G J){c:List Value}(I:ov U w n G B H c):ov U w n J B0 H0 c:=by
 induction h generalizing c with
 |nil=>simpa[ov]using I
 |cons j _ y=>
  simp only[ov]at I⊢;obtain⟨c1,c2,e,s,f,k2⟩:=I;exact⟨c1,c2,e,s,(j _ _ _ _ f).1,y k2⟩
def vY(h:Rd U w z B0 H0 cs.toList)(i:0<cs.size):∀k,ov U w cs.size (List.replicate k z) B0 H0 (madeCells cs (k*cs.size)).toList:=by
 have e:∀k,(madeCells cs (k*cs.size)).toList=(List.replicate k cs.toList).flatten:=by
  intro k
  have x:uo (λ_:Unit=>cs) cs.size:=⟨λ_=>rfl,λ_=>by
   unfold mA;rw[<-QE,mq];exact EX z h,i⟩
  have d:=Kz (enc:=λ_:Unit=>cs) (x0:=()) (z:=.agg cs) x O k;have P:(madeCells cs (k*cs.size))=Builtin.zeroCells cs k:=rfl;rw[P];have a:(Value.agg cs).cells=cs:=rfl;rw[a]at d;rw[d];unfold qc;clear d P a
  induction k with
  |zero=>rfl
  |succ k y=>simp[List.replicate_succ,y]
 intro k;rw[e]
 induction k with
 |zero=>simp[ov]
 |succ k y=>
  simp only[List.replicate_succ,List.flatten_cons,ov];exact⟨cs.toList,_,rfl,by simp,h,y⟩
def YS(a b:Nat)(h:a*b<=140737488355328):(a:Int)*(b:Int)<=281474976710656:=by have:(a:Int)*(b:Int)=((a*b:Nat):Int):=e1;omega
section
variable (tb:ZL P)
theorem mg.newRow(r:mg E nt B T H a w){g es k:Nat}{e:TypeId}{J:List AV}{cs:List Value}{cap:Nat}(u:H g=none)(C:0<es)(F:ov (kI E B H) w es J B0 H0 (cs.take (J.length*es)))(x:J.length=k)(v:cs.length=cap*es)(G:k<=cap)(U:cap<=maxLen):
 mg E nt (B.E2 g w.heap.size) T (l9 H g (.tail e es k)) a (w.alloc (.cells cs.toArray e))/\Rd (kI E (B.E2 g w.heap.size) (l9 H g (.tail e es k))) (w.alloc (.cells cs.toArray e)) (.sl (some g) es J) (B.E2 g w.heap.size) (l9 H g (.tail e es k)) [.slice (some ⟨w.heap.size,0,none⟩) k cap]:=by
 subst x;have Z:∀j n b,H j=some n->B j=some b->b<w.heap.size:=λj n b c d=>r.qp c d;refine⟨r.new u ⟨C,Ks.none (r.qa _ u),.inr ⟨w.heap.size,cs.toArray,cap,kB _ _ _,o8 w _,by simpa using v,G,U,.inl r.left.size⟩⟩,?_⟩;simp only[Rd];have p:J.length*es<=cs.length:=by rw[v];exact mH _ G
 refine⟨_,cap,rfl,G,U,λ_=>⟨w.heap.size,0,cs.take (J.length*es),rfl,?_,λo _ V I=>?_,nr (nK.oD ((pr.refl w).alloc _)) (vT Z) _ J (qt.nj _ _) F⟩,λt s=>?_⟩
 .rw[mX (o8 w _)];unfold mD;rw[kx jF]
  congr 1
  apply sr;simp
 .rcases I with⟨h,_⟩|⟨l,h⟩|⟨j,c,d⟩
  .have:=r.left.size;omega
  .have:=r.fx.lt l _ h;omega
  .by_cases i:j=g
   .subst i;rw[kB]at d;have m:J.length*es<=o:=d;omega
   .rw[nU _ _ i]at c;rw[kF _ _ i]at d;cases D:H j with
    |none=>rw[D]at d;exact d
    |some n=>have:=Z j n _ D c;omega
 .injection s with s;subst s;refine⟨e,J.length,kB _ _ _,kK _,λ_=>⟨(λh=>by rw[nq]at h;cases h),λb hb=>?_⟩⟩;rw[nq]at hb;injection hb with hb;subst hb;exact⟨O,cs.toArray,o8 w _,by simpa using v⟩
theorem abg{t:TypeId}{bytes:Nat}{l:List (Nat×Operand)}(o:lK nt d=true)(q:tb.ti t=some (.sl e (es+1) bytes ea))(m:lB P e z)(C:pL T l=some vs)(W:um vs (List.replicate (len+1) z)=some out)(u:H g=none)
 (F:∀H',BL H' out J) (hsz:out.all (λx=>Nat.beq (lE x) (es+1))=true) (Y:out.length=len+1) (hsmall:Nat.ble ((len+1)*(es+1)) 16777216=true):
 kE P E nt ops ⟨d,.buildSlice t (len+1) l.toArray,ty,pos,af,gd⟩ T H [] ⟨.sl (some g) (es+1) J,[(g,.tail e (es+1) (len+1))]⟩:=
 oC o λB T' H' a w r s D hw'=>by
  have M:H' g=none:=(hw' (g,.tail e (es+1) (len+1)) ki).trans u;obtain⟨_,hu,hte,i,N,z1,z2,S,z4,z5⟩:=tb.ok t _ q;obtain⟨i',zv',y1,y2,y3⟩:=m;rw[z1]at y1;injection y1 with y1;subst y1
  rw[z2]at y2;injection y2 with y2;subst y2
  have hzr:=y3 (kI E B H') w;have hzl:lE z=es+1:=by rw[<-nJ hzr];simpa using z5
  have V:=Ku (nr (nK.refl _ w) (λ_ _ _ h=>h) _ _ ⟨λg b h _=>by simp[H0,pH]at h,λg h=>by simp[H0,pH]at h,λt n len A cap h=>by obtain⟨e,k,h,_⟩:=h;simp[H0]at h,λg n len k v h=>by obtain⟨e,G,h,_⟩:=h;simp[H0]at h,λg h=>by simp[H0]at h⟩ (vY (U:=kI E B H') (w:=w) hzr jB (len+1)):ov (kI E B H') w N.cells.size (List.replicate (len+1) z) B H' _);have hv':=vU C (T':=T') (λp X=>s p.2 iR)
  have hsum:∀k i,te ((List.replicate k z).take i)=min i k*(es+1):=by
   intro k
   induction k with
   |zero=>intro i;simp[te]
   |succ k L=>
    intro i;cases i with
    |zero=>simp[te]
    |succ i=>simp only[List.replicate_succ,List.take_succ_cons,te,L,hzl];rw[Nat.succ_min_succ,sb];omega
  obtain⟨cells',K,I⟩:=Cv r l vs _ out _ hv' W (place:=λi=>some (i*(es+1),es+1)) (λi y h=>by have Z:=(mS.1 h).1;simp at Z;rw[GQ,kx Z]at h;injection h with h;subst h;rw[hsum,hzl];have:min i (len+1)=i:=eY;rw[this]) V
  have hszl:∀x∈out,lE x=es+1:=λx j=>mi (mq.1 hsz x j);have hrdu:=(F H').rdu (Bg I hszl)
  have hyl:J.length=len+1:=by
   have:=lG hrdu;have c:=lG (Bg I hszl);rw[this,Y]at c;exact Q1 (qh es) c
  have hcl:=lG hrdu;have hsm:(len+1)*(es+1)<=16777216:=A8 hsmall;have hlm:len+1<=(len+1)*(es+1):=Zz _ (qh es);obtain⟨f,k2⟩:=r.newRow (e:=e) (k:=len+1) (cap:=len+1) (cs:=cells') M (qh es) (by rw[<-hcl,nQ];exact hrdu) hyl (by rw[hcl,hyl]) (kK _) jp
  have hbs:=Q0 (P:=P) w t e (len+1) (l.map λp=>(p.1,a.eval p.2)).toArray cells'.toArray i N hu z1 z2 (by rw[S];omega) (by rw[S];have:=Nat.mul_pos (qh len) (qh es);omega) (by
   rw[S];have:=rS _ _ _ K;rw[zd]at this;have R:madeCells N.cells ((len+1)*N.cells.size)=(Array.range ((len+1)*(es+1))).map (N.cells[· %N.cells.size]!):=fC;rw[R]at this;simpa using this)
  refine⟨_,_,_,?_,f,by rw[kJ ki];exact⟨_,k2,rfl⟩⟩;exact cv
theorem Ys{t:TypeId}{bytes:Nat}(o:lK nt d=true)(p:tb.ti t=some (.sl e (es+1) bytes ea))(f:lB P e z)(j:kv T x=some (.v (.int k (n:Nat))))(F:kv T y=some (.v (.int k' (n:Nat))))(u:H g=none)(c:bytes*n<=140737488355328)(C:n<=9223372036854775807):
 kE P E nt ops ⟨d,.makeSlice t x y,ty,pos,af,gd⟩ T H [] ⟨.seg g 0 (es+1) [] n n,[(g,.var (.arr (n*(es+1)) (es+1) (List.replicate n z)))]⟩:=
 oC o λB T' H' a w r s D A=>by
  have X:H' g=none:=(A (g,.var (.arr (n*(es+1)) (es+1) (List.replicate n z))) ki).trans u;have R:=r.od ((s x js).trans j);have b:=r.od ((s y js).trans F);obtain⟨_,hu,Y,i,N,z1,z2,v,m,l⟩:=tb.ok t _ p;obtain⟨J,S,y1,y2,G⟩:=f;rw[z1]at y1;injection y1 with y1;subst y1
  rw[z2]at y2;injection y2 with y2;subst y2
  have I:=run_make (P:=P) w t e i N hu z1 z2 k k' n n kh (qH _) i8 kh;simp only[Int.toNat_natCast,v]at I;have V:=vY (U:=kI E (B.E2 g w.heap.size) (l9 H' g (.var (.arr (n*(es+1)) (es+1) (List.replicate n z))))) (w:=w.alloc (.cells (madeCells N.cells (n*(es+1))) e)) (G _ _) (by rw[l];omega) n;rw[l]at V;refine⟨.slice (some ⟨w.heap.size,0,none⟩) n n,w.alloc (.cells (madeCells N.cells (n*(es+1))) e),(B.E2 g w.heap.size),?_,r.new X ⟨w.heap.size,(madeCells N.cells (n*(es+1))).toList,e,kB _ _ _,by rw[zd,o8],?_,.inl r.left.size,Ks.none (r.qa _ X)⟩,?_⟩
  .simp[execOp,R,b,I]
  .simp only[Rd];exact⟨by have:=lG V;simpa using this,V⟩
  .rw[kJ ki];exact⟨[_],by simp only[Rd];exact⟨by simp[nA,kB,pH],w.heap.size,kB _ _ _,by unfold maxLen;omega,kK _,rfl⟩,rfl⟩
theorem aec{t:TypeId}{bytes:Nat}(o:lK nt d=true)(p:tb.ti t=some (.sl e (es+1) bytes ea))(j:kv T x=some (.v (.int k 0)))(F:kv T y=some (.v (.int k' n)))(u:H g=none)(c:bytes*n<=140737488355328)(C:n<=9223372036854775807):
 kE P E nt ops ⟨d,.makeSlice t x y,ty,pos,af,gd⟩ T H [] ⟨.sl (some g) (es+1) [],[(g,.tail e (es+1) 0)]⟩:=
 oC o λB T' H' a w r s D z=>by
  have X:H' g=none:=(z (g,.tail e (es+1) 0) ki).trans u;have R:=r.od ((s x js).trans j);have b:=r.od ((s y js).trans F);obtain⟨_,hu,Y,i,N,z1,z2,v,m,l⟩:=tb.ok t _ p;have G:=run_make (P:=P) w t e i N hu z1 z2 k k' 0 n kh kh i8 kh;simp only[Int.toNat_natCast,v]at G;obtain⟨f,k2⟩:=r.newRow (e:=e) (k:=0) (cap:=n) (J:= []) (cs:=(madeCells N.cells (n*(es+1))).toList) X (qh es) (by simp[ov]) rfl (by simp[size_madeCells]) (kO _) jp;rw[zd]at f k2
  have q:(execOp a.eval ⟨d,.makeSlice t x y,ty,pos,af,gd⟩).run P w= .ok (.value (.slice (some ⟨w.heap.size,0,none⟩) 0 n)) (w.alloc (.cells (madeCells N.cells (n*(es+1))) e)):=by simp[execOp,R,b,G]
  exact⟨_,_,_,q,f,by rw[kJ ki];exact⟨_,k2,rfl⟩⟩
def aoa(P:Program)(E:su)(B:nE)(H:Hp)(w:World)(n:Nat)(v:Value)(J:List AV)(m:Nat):Prop:=
 (Builtin.lenOf v).run P w= .ok J.length w/\ ∃f,(Builtin.firstCells n m v).run P w= .ok f.toArray w/\ov (kI E B H) w n (J.take m) B0 H0 f
def Ic(P:Program)(n:Nat)(src:AV)(J:List AV):Prop:=∀E B H w v m,m<=J.length->qJ (kI E B H) w B H src v->aoa P E B H w n v J m
theorem Aa{tok:Option Nat}:Ic P n (.sl tok n J) J:=λE B H w v m T h=>by
 have h:=ml ki h O;simp only[Rd]at h;obtain⟨A,cap,a,d,k,C,_⟩:=h;injection a with a;subst a;refine⟨by simp[Builtin.lenOf],?_⟩;by_cases i:m=0
 .subst i;refine⟨[],?_,by simp[ov]⟩;cases A<;>simp[Builtin.firstCells,loadCells,loadCellsFrom]
 .obtain⟨b,off,c,rfl,e,k2,k3⟩:=C kh;have R:=lG k3;have o:m*n<=J.length*n:=mH _ T;refine⟨c.take (m*n),?_,qK m k3⟩;refine xm (P:=P) w n m ⟨b,off,none⟩ J.length cap (c.take (m*n)) i6 ?_;refine pg (n:=m*n) ?_;have:=yx e 0 (m*n) kh;rw[vA]at this;rw[this];unfold mD;rw[kx jY]
  congr 1
  apply sr;simp
theorem ads{s:ByteArray}:Ic P 1 (.v (.string s)) (AD s):=λE B H w v m T h=>by
 rw[nM]at h;obtain⟨_,rfl⟩:=h;have g:(AD s).length=s.size:=by unfold AD;rw[kX,Array.length_toList];rfl
 refine⟨by simp[Builtin.lenOf,g],((s.extract 0 m).data.map λb=>Value.int .u8 b.toNat).toList,by simp only[Builtin.firstCells,Sem.run_pure],?_⟩;have R:(AD s).take m=(s.data.toList.take m).map λb=>AV.v (.int .u8 b.toNat):=by unfold AD;rw[vP]
 have a:(s.extract 0 m).data.toList=s.data.toList.take m:=e1;rw[R,Array.toList_map,a]
 induction s.data.toList.take m with
 |nil=>simp[ov]
 |cons b l y=>
  simp only[nc,ov];exact⟨[.int .u8 b.toNat],_,rfl,rfl,by simp[Rd,sB],y⟩
theorem Js{t tx:TypeId}{bytes:Nat}{m:Nat}(n:lK nt d=true)(o:tb.ti t=some (.sl e es bytes ea))(k:kv T x=some (.seg g off es p len cap))(F:kv T y=some src)(I:Ic P es src J)
 (u:H g=some (.var z)) (X:sU p z=some (.arr m es G)) (U:tj p z=off) (j:len<=G.length) (l:xM (.arr m es (J.take (min J.length len)++G.drop (min J.length len))) p z=some z'):
 kE P E nt ops ⟨d,.call {callee:=.builtin .copy,args:= #[x,y],argTypes:= #[t,tx]},ty,pos,af,gd⟩ T H [g] ⟨.v (.int .i64 (min J.length len:Nat)),[(g,.var z')]⟩:=
 oC n λB T' H' a w r s D q=>by
  have Y:H' g=some (.var z):=(D g ki).trans u;have h:=ml ki (r.eval ((s x iV).trans k)) O;obtain⟨V,v,A,K⟩:=I E B H' w _ (min J.length len) (Nat.min_le_left _ _) (r.eval ((s y iV).trans F));simp only[Rd]at h;obtain⟨_,b,c,_,_,f⟩:=h;injection f with f;obtain⟨b',cs,tt,i,k2,k3,_⟩:=r.box g _ Y;rw[c]at i;injection i with i;subst i
  obtain⟨c1,c2,c3,rfl,M,m2,C⟩:=wz p k3 X;simp only[Rd]at m2;have Z:=lG K;rw[n5]at Z;have hmm:min (min J.length len) J.length=min J.length len:=eY;rw[hmm]at Z;have R:=lG m2.2;have S:min J.length len*es<=G.length*es:=mH _ kh;obtain⟨_,hu,L,_⟩:=tb.ok t _ o;have hzz:=lC L w;have N:=oM (P:=P) w b off v k2 (by rw[<-U,<-M];simp;omega) (vR es _ K);have hd2:=uY (min J.length len) m2.2 kh;have hnew:=oi K hd2
  have W:lY (c1++c2++c3).toArray off v.toArray=(c1++(v++c2.drop (min J.length len*es))++c3).toArray:=by
   rw[<-U,<-M];unfold lY;apply sr;simp only[xn,oH];rw[GV,DL];simp[Z,DL,show min J.length len*es- c2.length=0 by omega]
  have hst2:=r.store (x':=z') (cs':=c1++(v++c2.drop (min J.length len*es))++c3) Y c k2 (oZ (off:=off) (cs:=v.toArray)) (by rw[mB k2,W]) jY
   (C _ z' _ l (by simp only[Rd];exact⟨by rw[<-m2.1];simp;omega,hnew⟩) jY)
  refine⟨.int .i64 (min J.length len:Nat),mw w b off v.toArray,B,?_,hst2,by rw[nM];exact⟨O,rfl⟩⟩;have hmin:Nat.min J.length len=min J.length len:=rfl;simp[execOp,resolve,invoke,builtin,Builtin.copy_,f,lu hu,V,hmin,hzz,A,N,goInt]
theorem VZ{t:TypeId}{bytes:Nat}(n:lK nt d=true)(o:tb.ti t=some (.sl e es bytes ea))(m:kv T x=some (.seg g off es p len cap))(hi:kv T ix=some (.v (.int k (i:Nat))))(j:i<len):
 kE P E nt ops ⟨d,.indexAddr t x ix,ty,pos,af,gd⟩ T H [] ⟨.ptr g (off+i*es) (p++[i]),[]⟩:=
 lO n λB T' H' a w r s D=>by
  have h:=ml ki (r.eval ((s x js).trans m)) O;have l:=r.od ((s ix js).trans hi);simp only[Rd]at h;obtain⟨y,b,c,_,_,f⟩:=h;injection f with f;obtain⟨_,hu,L,_⟩:=tb.ok t _ o;have q:=lC L w;have F:(i:Int)<(len:Int):=eY;refine⟨.pointer (some ⟨b,off+i*es,none⟩),?_,?_⟩
  .simp[execOp,f,l,Instr.indexAt,lu hu,asIntOf,q,j,ss]
  .rw[kJ ki];exact⟨_,by simp only[Rd];exact⟨y,b,c,rfl⟩,rfl⟩
end
def mg.froz(r:mg E nt B T H a w){g:Nat}{x:AV}(u:H g=some (.var x)):mg E nt B T (l9 H g (.froz x)) a w:=by
 have F:nR (H g)=true:=by rw[u];rfl
 have y:∀b o,kI E B (l9 H g (.froz x)) b o->kI E B H b o:=by
  rintro b o (h|h|⟨j,c,d⟩)
  .exact .inl h
  .exact .inr (.inl h)
  .by_cases m:j=g
   .subst m;rw[kB]at d;exact d.elim
   .rw[kF _ _ m]at d;exact .inr (.inr ⟨j,c,d⟩)
 have V:qt w w B B H (l9 H g (.froz x)):=by
  refine⟨λ_ _ _ h=>h,λj h=>?_,λt n len A cap h=>?_,sC (nK.refl (λ_ _=>False) w) (λg' e' R J h=>?_),λj h=>?_⟩
  .unfold l9;split
   .rfl
   .exact h
  .obtain⟨e',k,c,d⟩:=h;have m:t≠g:=λe=>fm;exact⟨e',k,by rw[kF _ _ m];exact c,d⟩
  .have q:g'≠g:=λe'=>by rw[e',u]at h;cases h
   exact⟨(kF _ _ q).trans h,rfl⟩
  .have q:j≠g:=λe'=>by rw[e',u]at h;cases h
   exact⟨(kF _ _ q).trans h,rfl⟩
 have G:∀j,nR (l9 H g (.froz x) j)=true->nR (H j)=true:=by
  intro j m;by_cases h:j=g
  .subst h;exact F
  .rwa[kF _ _ h]at m
 obtain⟨b,cs,ty,f,k2,k3,k4⟩:=r.box g _ u;refine r.move O O (λ_ _ _=>rfl) (λj b c d=>.inl ⟨G j c,d⟩) (nK.refl _ w) (λb o _ h=>y b o h) V r.left (λj v h=>?_) (λj h=>?_) (λj s b' c d p C=>?_)
 .by_cases m:j=g
  .subst m;rw[kB]at h;injection h with h;subst h
   refine .inl ⟨b,cs,f,?_,λo _ U I=>?_,n6 (nK.refl _ w) (λb o _ h=>y b o h) x V k3⟩
   .rw[mX k2];exact pC _ _ ki
   .rcases I with⟨h,_,L⟩|⟨l,h⟩|⟨i,c,d⟩
    .rcases k4.1 with k4|k4
     .omega
     .exact L k4.2.1
    .exact r.fx.out l b j h F f
    .by_cases hi:i=j
     .subst hi;rw[kB]at d;exact d
     .rw[kF _ _ hi]at d;cases D:H i with
      |none=>rw[D]at d;exact d
      |some z=>
       rw[D]at d;refine hi (r.inj i j b ?_ F c f);rw[D];cases z<;>first|rfl|exact d.elim
  .rw[kF _ _ m]at h;exact .inr ⟨h,rfl,λ_ _ _=>rfl⟩
 .by_cases m:j=g
  .subst m;rw[kB]at h;cases h
  .rw[kF _ _ m]at h;exact⟨h,r.x3 j h⟩
 .exact r.inj j s b' (G j c) (G s d) p C
def lL.froz{T:List (Nat×AV)}{H:List (Nat×Bx)}(L:∀b,¬E.E3 b)(g:Nat){x:AV}(t:kV g H=some (.var x)):lL E nt ⟨T,H⟩ ⟨T,(g,.froz x)::H⟩:=λB a w r=>by exact dg
def lL.seg{T:List (Nat×AV)}{H:List (Nat×Bx)}(s g:Nat){off n m len cap:Nat}{p:List Nat}{y:AV}{G:List AV}(q:kV s T=some (.seg g off n p len cap))(z:kV g H=some (.froz y))(X:sU p y=some (.arr m n G))(U:tj p y=off)(i:len<=G.length):
 lL E nt ⟨T,H⟩ ⟨(s,.sl none n (G.take len))::T,H⟩:=λB a w r=>by
 refine⟨B,r.nt,r.df,λD x j=>?_,r.box,r.x3,r.inj,r.left,r.qa,r.fx⟩;have F:St.t ⟨(s,AV.sl none n (G.take len))::T,H⟩=l9 (St.t ⟨T,H⟩) s (.sl none n (G.take len)):=kZ _ _ _;rw[F]at j;by_cases h:D=s
 .subst h;rw[kB]at j;injection j with j;subst j;obtain⟨v,c,d⟩:=r.tmp D _ q;refine⟨v,c,?_⟩;have k:=ml ki d O;simp only[Rd]at k;obtain⟨_,b,e,k2,k3,A⟩:=k;injection A with A;subst A;obtain⟨b',cs,C,l,W,R⟩:=r.box g _ z;rw[e]at C;injection C with C;subst C
  obtain⟨c1,c2,c3,rfl,M,m2,_⟩:=wz p R X;have S:=Ad l;rw[oa,M,U]at S;simp only[Rd]at m2;have I:=lG m2.2;have V:(G.take len).length=len:=fA;have f:len*n<=G.length*n:=mH _ i;rw[kJ ki];refine⟨[_],?_,rfl⟩;simp only[Rd];refine⟨_,cap,by rw[V],by rw[V];exact k3,k2,λ_=>⟨b,off,c2.take (len*n),rfl,?_,λo o1 o2=>?_,qK len m2.2⟩,λt u=>by cases u⟩
  .rw[V];have:=yx S 0 (len*n) kh;rw[vA]at this;rw[this];unfold mD;rw[kx jY]
   congr 1
   apply sr;simp
  .rw[V]at o2;exact W o kh jY
 .rw[kF _ _ h]at j;exact r.tmp D x j
def tyB(P:Program)(t:TypeId)(g:Bool)(n:Nat):Bool:=match P.underlying t,P.info? t with
 |some d,some i=>ai2 d==g&&Nat.beq i.size n
 |_,_=>false
def Er{t:TypeId}{g:Bool}(h:tyB P t g n=true):zg P t g n:=by
 unfold tyB at h;split at h
 .rename_i d i a b;rw[l5,H7]at h;exact⟨d,a,h.1,by rw[b,Option.map_some,mi h.2]⟩
 .cases h
def fB(P:Program):List (Nat×TypeId)->List (Nat×Nat×Bool)->Bool
 | [],[]=>true
 |(o,t)::a,(o',s,g)::b=>Nat.beq o o'&&(tyB P t g s&&fB P a b)
 |_,_=>false
theorem ajZ{P:Program}:∀{l:List (Nat×TypeId)} {fs:List (Nat×Nat×Bool)},fB P l fs=true->FOk P l fs
 | [],[],_=>trivial
 |(o,t)::a,(o',s,g)::b,h=>by
  simp only[fB,l5]at h;exact⟨mi h.1,Er h.2.1,ajZ h.2.2⟩
 | [],_::_,h=>fk
 |_::_,[],h=>by cases h
def tiB(P:Program)(t:TypeId):TI->Bool
 | .word=>tyB P t false 1
 | .st n fs=>tyB P t true n&&(match P.underlying t with|some (.struct F)=>fB P (F.toList.map λf=>(f.offset,f.type)) fs|_=>false)
 | .arr n len es ea e=>tyB P t true n&&((match P.underlying t with|some (.array m f)=>Nat.beq m len&&Nat.beq f e|_=>false)&&tyB P e ea es)
 | .sl e es bytes ea=>tyB P t false 1&&((match P.underlying t with|some (.slice f)=>Nat.beq f e|_=>false)&&(tyB P e ea es&&(match P.info? e with|some i=>(match i.zero with|some z=>Nat.beq z.cells.size es&&(Nat.beq i.size es&&Nat.beq i.bytes bytes)|none=>false)|none=>false)))
def akE{t:TypeId}{i:TI}(h:tiB P t i=true):Xu P t i:=by
 cases i with
 |word=>exact Er h
 |st n fs=>
  simp only[tiB,l5]at h;refine⟨Er h.1,?_⟩;have h:=h.2;split at h
  .rename_i F e;exact⟨F,e,ajZ h⟩
  .cases h
 |arr n len es ea e=>
  simp only[tiB,l5]at h;refine⟨Er h.1,?_,Er h.2.2⟩;have h:=h.2.1;split at h
  .rename_i m f k;rw[l5]at h;rw[k,mi h.1,mi h.2]
  .cases h
 |sl e es bytes ea=>
  simp only[tiB,l5]at h;refine⟨Er h.1,?_,Er h.2.2.1,?_⟩
  .have h:=h.2.1;split at h
   .rename_i f k;rw[k,mi h]
   .cases h
  .have h:=h.2.2.2;split at h
   .rename_i i k;split at h
    .rename_i z D;simp only[l5]at h;exact⟨i,z,k,D,mi h.2.1,mi h.2.2,mi h.1⟩
    .cases h
   .cases h
def amc(P:Program):List (Nat×TI)->Bool
 | []=>true
 |(t,i)::l=>tiB P t i&&amc P l
theorem ZB{P:Program}:∀{l:List (Nat×TI)},amc P l=true->agJ P l
 | [],_=>trivial
 |(t,i)::l,h=>by
  simp only[amc,l5]at h;exact⟨akE h.1,ZB h.2⟩
def am7:List (Nat×TI):= [(1,.word),(2,.word),(3,.word),(4,.word),(5,.word),(7,.st 4 [(0,1,false),(1,1,false),(2,1,false),(3,1,false)]),(9,.word),(12,.word),(13,.st 2 [(0,1,false),(1,1,false)]),(15,.word),(16,.word),(17,.word),(18,.st 1 [(0,1,false)]),(20,.word),(21,.word),(22,.sl 3 1 8 false),(23,.word),(24,.sl 52 1 24 false),(25,.st 4 [(0,1,false),(1,1,false),(2,1,false),(3,1,false)]),(26,.st 4 [(0,1,false),(1,1,false),(2,1,false),(3,1,false)]),(28,.word),(30,.word),(31,.sl 184 27 120 true),(33,.word),(34,.word),(35,.sl 51 22 64 true),(36,.word),(37,.word),(38,.word),(39,.word),(40,.sl 115 26 40 true),(41,.word),(42,.word),(43,.word),(44,.word),(45,.arr 16 16 1 false 5),(46,.st 17 [(0,1,false),(1,16,true)]),(47,.st 17 [(0,1,false),(1,16,true)]),(48,.st 19 [(0,1,false),(1,1,false),(2,17,true)]),(49,.st 19 [(0,1,false),(1,1,false),(2,17,true)]),(50,.st 22 [(0,1,false),(1,1,false),(2,1,false),(3,19,true)]),(51,.st 22 [(0,1,false),(1,1,false),(2,1,false),(3,19,true)]),(52,.sl 57 4 48 true),(54,.word),(55,.word),(56,.st 4 [(0,1,false),(1,1,false),(2,1,false),(3,1,false)]),(57,.st 4 [(0,1,false),(1,1,false),(2,1,false),(3,1,false)]),(58,.word),(59,.word),(60,.word),(61,.word),(62,.word),(64,.word),(65,.sl 66 1 24 false),(66,.sl 49 19 40 true),(67,.word),(68,.word),(69,.word),(70,.sl 9 1 16 false),(72,.word),(73,.word),(74,.word),(75,.word),(76,.word),(77,.sl 85 13 192 true),(78,.word),(79,.sl 113 9 16 true),(80,.sl 131 29 64 true),(81,.st 5 [(0,1,false),(1,1,false),(2,1,false),(3,1,false),(4,1,false)]),(82,.st 5 [(0,1,false),(1,1,false),(2,1,false),(3,1,false),(4,1,false)]),(83,.sl 226 2 16 true),(84,.st 13 [(0,1,false),(1,1,false),(2,1,false),(3,1,false),(4,1,false),(5,5,true),(10,1,false),(11,1,false),(12,1,false)]),(85,.st 13 [(0,1,false),(1,1,false),(2,1,false),(3,1,false),(4,1,false),(5,5,true),(10,1,false),(11,1,false),(12,1,false)]),(86,.sl 5 1 1 false),(87,.word),(88,.word),(89,.word),(90,.word),(91,.sl 95 1 16 false),(92,.st 7 [(0,1,false),(1,1,false),(2,1,false),(3,1,false),(4,1,false),(5,1,false),(6,1,false)]),(93,.st 7 [(0,1,false),(1,1,false),(2,1,false),(3,1,false),(4,1,false),(5,1,false),(6,1,false)]),(94,.word),(95,.word),(96,.word),(97,.word),(98,.word),(99,.st 1 [(0,1,false)]),(100,.st 1 [(0,1,false)]),(101,.word),(104,.word),(105,.word),(107,.word),(108,.word),(109,.word),(110,.word),(111,.arr 8 8 1 false 5),(112,.st 9 [(0,1,false),(1,8,true)]),(113,.st 9 [(0,1,false),(1,8,true)]),(114,.st 26 [(0,9,true),(9,17,true)]),(115,.st 26 [(0,9,true),(9,17,true)]),(116,.word),(118,.word),(119,.word),(120,.word),(121,.word),(122,.word),(123,.word),(124,.word),(125,.word),(127,.word),(129,.word),(130,.st 29 [(0,1,false),(1,1,false),(2,9,true),(11,17,true),(28,1,false)]),(131,.st 29 [(0,1,false),(1,1,false),(2,9,true),(11,17,true),(28,1,false)]),(133,.word),(134,.word),(135,.word),(136,.word),(138,.word),(139,.word),(140,.word),(141,.word),(142,.st 4 [(0,1,false),(1,1,false),(2,1,false),(3,1,false)]),(143,.st 4 [(0,1,false),(1,1,false),(2,1,false),(3,1,false)]),(144,.word),(146,.word),(148,.word),(149,.word),(150,.sl 154 1 8 false),(151,.word),(152,.st 4 [(0,1,false),(1,1,false),(2,1,false),(3,1,false)]),(153,.st 4 [(0,1,false),(1,1,false),(2,1,false),(3,1,false)]),(154,.word),(155,.word),(156,.word),(157,.word),(158,.arr 8 8 1 false 157),(159,.arr 8 8 1 false 3),(160,.st 26 [(0,1,false),(1,8,true),(9,8,true),(17,8,true),(25,1,false)]),(161,.st 26 [(0,1,false),(1,8,true),(9,8,true),(17,8,true),(25,1,false)]),(162,.word),(163,.word),(165,.word),(166,.word),(167,.word),(168,.st 7 [(0,1,false),(1,1,false),(2,1,false),(3,1,false),(4,1,false),(5,1,false),(6,1,false)]),(169,.st 7 [(0,1,false),(1,1,false),(2,1,false),(3,1,false),(4,1,false),(5,1,false),(6,1,false)]),(170,.word),(171,.word),(172,.word),(173,.word),(174,.word),(176,.word),(177,.word),(178,.word),(180,.word),(181,.word),(182,.word),(183,.st 27 [(0,1,false),(1,1,false),(2,4,true),(6,1,false),(7,1,false),(8,19,true)]),(184,.st 27 [(0,1,false),(1,1,false),(2,4,true),(6,1,false),(7,1,false),(8,19,true)]),(185,.word),(186,.sl 311 2 32 true),(187,.st 3 [(0,1,false),(1,1,false),(2,1,false)]),(188,.st 3 [(0,1,false),(1,1,false),(2,1,false)]),(189,.word),(190,.sl 4 1 1 false),(191,.word),(193,.word),(194,.word),(195,.word),(196,.word),(197,.word),(198,.word),(199,.word),(200,.word),(201,.word),(202,.word),(203,.word),(205,.word),(207,.word),(208,.word),(210,.word),(211,.word),(212,.sl 157 1 8 false),(213,.sl 219 11 144 true),(214,.word),(215,.sl 268 3 24 true),(216,.st 5 [(0,1,false),(1,1,false),(2,1,false),(3,1,false),(4,1,false)]),(217,.st 5 [(0,1,false),(1,1,false),(2,1,false),(3,1,false),(4,1,false)]),(218,.st 11 [(0,1,false),(1,1,false),(2,1,false),(3,1,false),(4,1,false),(5,1,false),(6,5,true)]),(219,.st 11 [(0,1,false),(1,1,false),(2,1,false),(3,1,false),(4,1,false),(5,1,false),(6,5,true)]),(220,.word),(221,.word),(222,.st 4 [(0,1,false),(1,1,false),(2,1,false),(3,1,false)]),(223,.st 4 [(0,1,false),(1,1,false),(2,1,false),(3,1,false)]),(224,.word),(225,.st 2 [(0,1,false),(1,1,false)]),(226,.st 2 [(0,1,false),(1,1,false)]),(227,.st 63 [(0,1,false),(1,9,true),(10,1,false),(11,1,false),(12,1,false),(13,1,false),(14,1,false),(15,29,true),(44,1,false),(45,17,true),(62,1,false)]),(228,.st 63 [(0,1,false),(1,9,true),(10,1,false),(11,1,false),(12,1,false),(13,1,false),(14,1,false),(15,29,true),(44,1,false),(45,17,true),(62,1,false)]),(229,.word),(230,.st 34 [(0,1,false),(1,29,true),(30,1,false),(31,1,false),(32,1,false),(33,1,false)]),(231,.st 34 [(0,1,false),(1,29,true),(30,1,false),(31,1,false),(32,1,false),(33,1,false)]),(232,.word),(233,.arr 5 5 1 false 232),(234,.word),(236,.word),(238,.word),(239,.word),(240,.word),(241,.word),(242,.word),(243,.word),(244,.word),(245,.word),(246,.word),(247,.word),(248,.st 9 [(0,1,false),(1,1,false),(2,1,false),(3,1,false),(4,1,false),(5,1,false),(6,1,false),(7,1,false),(8,1,false)]),(249,.st 9 [(0,1,false),(1,1,false),(2,1,false),(3,1,false),(4,1,false),(5,1,false),(6,1,false),(7,1,false),(8,1,false)]),(250,.word),(251,.word),(252,.word),(254,.word),(255,.word),(257,.word),(258,.word),(259,.word),(260,.word),(261,.word),(262,.word),(264,.word),(265,.word),(266,.word),(267,.st 3 [(0,1,false),(1,1,false),(2,1,false)]),(268,.st 3 [(0,1,false),(1,1,false),(2,1,false)]),(269,.word),(270,.word),(271,.word),(272,.word),(273,.word),(274,.sl 278 256 256 true),(275,.st 2 [(0,1,false),(1,1,false)]),(276,.st 2 [(0,1,false),(1,1,false)]),(277,.arr 256 256 1 false 5),(278,.arr 256 256 1 false 5),(279,.word),(280,.word),(281,.word),(282,.word),(283,.word),(284,.word),(286,.word),(287,.word),(288,.word),(289,.word),(290,.word),(291,.word),(293,.word),(294,.word),(295,.word),(296,.word),(297,.word),(299,.word),(300,.word),(301,.word),(303,.word),(304,.word),(305,.word),(306,.word),(307,.word),(308,.word),(309,.word),(310,.st 2 [(0,1,false),(1,1,false)]),(311,.st 2 [(0,1,false),(1,1,false)]),(312,.word),(313,.word),(314,.arr 2 2 1 false 3),(315,.word),(316,.word),(317,.word),(318,.word),(319,.word),(320,.word),(321,.word),(322,.word),(323,.word),(324,.word),(325,.word),(326,.word),(327,.word),(328,.st 3 [(0,1,false),(1,1,false),(2,1,false)]),(329,.st 3 [(0,1,false),(1,1,false),(2,1,false)]),(330,.word),(331,.word),(332,.word),(333,.word),(334,.word),(335,.word),(336,.word),(337,.word),(338,.word),(339,.word),(340,.word),(341,.word),(343,.word),(344,.word),(345,.word),(347,.word),(349,.word),(350,.word),(351,.st 2 [(0,1,false),(1,1,false)]),(352,.st 2 [(0,1,false),(1,1,false)]),(353,.word),(354,.st 5 [(0,1,false),(1,1,false),(2,1,false),(3,1,false),(4,1,false)]),(355,.st 5 [(0,1,false),(1,1,false),(2,1,false),(3,1,false),(4,1,false)]),(356,.word),(357,.word),(358,.word),(360,.word),(361,.word),(362,.word),(363,.word),(364,.word),(365,.word),(366,.word),(367,.word),(368,.word),(369,.sl 294 1 8 false),(370,.word),(372,.word),(373,.word),(374,.word),(376,.word),(377,.arr 4 2 2 true 352),(378,.word),(379,.word),(380,.word),(381,.word),(382,.word),(383,.sl 22 1 24 false),(384,.sl 79 1 24 false),(385,.word),(386,.word),(387,.arr 256 256 1 false 357),(388,.word),(389,.word),(390,.word),(391,.word),(392,.word),(393,.st 4 [(0,1,false),(1,1,false),(2,1,false),(3,1,false)]),(400,.word),(401,.word),(404,.st 11 [(0,1,false),(1,1,false),(2,1,false),(3,1,false),(4,1,false),(5,1,false),(6,1,false),(7,1,false),(8,1,false),(9,1,false),(10,1,false)]),(406,.word),(407,.word),(408,.word),(409,.word)]
def ahx:∀t i,kV t am7=some i->Xu prog t i:=Ti (ZB jC)
def kM:ZL prog:=⟨λt=>kV t am7,ahx⟩
def alU(d:Nat)(x y:Vector (BitVec 8) 8)(w:World):(Op.equalIn (d+2) 111 (.agg (tN x)) (.agg (tN y))).run prog w= .ok (x==y) w:=
 Fo underlying111 pz j6 d x y w
def ai1(d:Nat)(x y:Vector (BitVec 8) 16)(w:World):(Op.equalIn (d+2) 45 (.agg (tN x)) (.agg (tN y))).run prog w= .ok (x==y) w:=
 Fo underlying45 pz j6 d x y w
structure kH where
 n:Int
 b:Vector (BitVec 8) 8
def kH.beq(a b:kH):Bool:=a.n==b.n&&a.b==b.b
def kH.beq_iff{a b:kH}:a.beq b=true↔a=b:=by
 cases a;cases b;simp[kH.beq,xk]
instance :DecidableEq kH:=λa b=>decidable_of_iff (a.beq b=true) kH.beq_iff
def kH.De(a b:kH):a.beq b=decide (a=b):=by rw[GI,kH.beq_iff,nO]
@[irreducible] def kH.arr(s:kH):Array Value:=zK (Cw (.int .i64 s.n)) (tN s.b)
def kH.mj(s:kH):s.arr=zK (Cw (.int .i64 s.n)) (tN s.b):=by unfold kH.arr;rfl
def kH.mh(s:kH):s.arr.size=9:=by rw[kH.mj];simp[qe,qd,pV]
def kH.AH(s:kH):mA s.arr=true:=by rw[kH.mj];simp[FA,Fz,Value.oneCell',T0]
def kH.put(s x:kH):lY s.arr 0 x.arr=x.arr:=ug _ _ (by rw[kH.mh,kH.mh])
def kH.row(s:kH):mD s.arr 0 9=some s.arr:=pC _ _ s.mh
def kH.zN(s:kH):s.arr[0]?=some (.int .i64 s.n):=by
 refine LH ?_;rw[kH.mj];simp[uC,tW,Af,qe,qd,pV]
def kH.afn(s:kH)(o:0<s.arr.size):s.arr[0]'o= .int .i64 s.n:=(yf.1 (kH.zN s)).2
def kH.Sx(s:kH)(x:Int):lY s.arr 0 #[.int .i64 x]=({s with n:=x}:kH).arr:=by rw[kH.mj,kH.mj,<-sZ];simp[tV,sV,Ab,qe,qd,pV]
def kH.adw(s:kH)(x:Int):s.arr.setIfInBounds 0 (.int .i64 x)=({s with n:=x}:kH).arr:=(vG _ _ _ (by rw[kH.mh];omega)).symm.trans (kH.Sx s x)
def kH.uA(s:kH):mD s.arr 1 8=some (tN s.b):=by rw[kH.mj];simp[uC,tW,Af,qe,qd,pV]
def kH.af4(s:kH)(i:Nat)(h:i<8):s.arr[1+i]?=some (.int .u8 (B8 s.b[i])):=by have:=o3 (kH.uA s);rw[this.2.2 i h];exact tM _ i h
def kH.Lb(s:kH)(x:Vector (BitVec 8) 8):lY s.arr 1 (tN x)=({s with b:=x}:kH).arr:=by rw[kH.mj,kH.mj];simp[tV,sV,Ab,qe,qd,pV]
def kH.VB(s:kH)(i:Nat)(h:i<8)(x:BitVec 8):s.arr.setIfInBounds (1+i) (.int .u8 (B8 x))=({s with b:=s.b.setIfInBounds i x}:kH).arr:=by have c:=BX (kH.uA s) i h x;rw[kH.Lb]at c;exact(vG _ _ _ (by rw[kH.mh];omega)).symm.trans c
def kH.VM(s:kH)(n:Nat)(h:n<=8):mD s.arr 1 n=some (qc be (s.b.toList.take n)).toArray:=(K5 (kH.uA s) n h).trans (OI s.b n h)
def kH.WQ(s:kH)(G:List (BitVec 8))(h:G.length<=8):lY s.arr 1 (qc be G).toArray=({s with b:=BF s.b G}:kH).arr:=by rw[Iu (kH.uA s) (by rw[uN];exact h),OJ _ _ h,kH.Lb]
def kH.zero:kH:={n:=0,b:=Vector.replicate 8 0#8}
theorem kH.UG:kH.zero.n=0:=rfl
theorem kH.UJ:kH.zero.b=Vector.replicate 8 0#8:=rfl
def kH.mM:kH.zero.arr= #[.int .i64 0,.int .u8 0,.int .u8 0,.int .u8 0,.int .u8 0,.int .u8 0,.int .u8 0,.int .u8 0,.int .u8 0]:=by rw[kH.mj];simp[q5,sZ,kH.zero,vy,qM]
def kH.info:(prog.info? 113).map (λi=>(i.zero,i.size))=some (some (.agg kH.zero.arr),9):=by rw[kH.mM];kernel_rfl
def kH.yu:(prog.info? 113).map (·.size)=some 9:=by kernel_rfl
def kH.ld(v:Value):Instr.loadAt 113 v=Ea 113 v:=Lv _ _
def kH.st(a v:Value):Instr.storeAt 113 a v=D3 113 a v:=KW _ _ _
def kH.al(h:Bool)(v:Value):Instr.alloc 113 h v=Eh 113 h v:=Mm _ _ _
def kH.bd(t:Array (Nat×Value)):Instr.build 113 t=IQ 113 t:=TY _ _
def kH.load(b off:Nat)(w:World):(Ea 113 (.pointer (some ⟨b,off,none⟩))).run prog w=Ci (mQ w b off 9) w ((Lw 113 (.pointer (some ⟨b,off,none⟩))).run prog w):=
 Hx Kp O kH.yu b off w
def kH.store(b off:Nat)(s:kH)(w:World):(D3 113 (.pointer (some ⟨b,off,none⟩)) (.agg s.arr)).run prog w=Ld ((mQ w b off 9).isSome&&uk w b) (.ok () (mw w b off s.arr)) ((KX 113 (.pointer (some ⟨b,off,none⟩)) (.agg s.arr)).run prog w):=
 Hw kH.yu b off _ w s.mh s.AH
def kH.alloc(w:World)(v:Value):(Eh 113 true v).run prog w= .ok (.pointer (some ⟨w.heap.size,0,none⟩)) (w.alloc (.cells kH.zero.arr 113)):=
 HA (z:=.agg kH.zero.arr) (w6 kH.info) w v
def kH.fields:(Tryz.prog.fieldsOf 113).toList.map (fun f=>(f.name== "_",f.type,f.offset))= [(false,3,0),(false,111,1)]:=by kernel_rfl
def kH.under:prog.underlying 113=some (.struct (prog.fieldsOf 113)):=by kernel_rfl
def kH.eq_(d:Nat)(a b:kH)(w:World):(Op.equalIn (d+3) 113 (.agg a.arr) (.agg b.arr)).run prog w= .ok (a.beq b) w:=by have h:=yV kH.under j6 kH.fields (BK.cons (Xz.int (d:=(d+1)) mc (kH.zN a) (kH.zN b)) (BK.cons (Xz.agg underlying111 O j6 (kH.uA a) (kH.uA b) (alU d _ _)) BK.nil)) w;exact h.trans (by simp[kH.beq,QZ])
def kH.eqG:prog.eqGuardType prog.depth 113=false:=by kernel_rfl
def kH.eql(a b:kH)(w:World):(binOp .eql 113 (.agg a.arr) (.agg b.arr)).run prog w= .ok (.bool (decide (a=b))) w:=by
 rw[QY];rw[show(10000:Nat)=9997+3 from rfl,kH.eq_,kH.De];rfl
def kH.neq(a b:kH)(w:World):(binOp .neq 113 (.agg a.arr) (.agg b.arr)).run prog w= .ok (.bool (!decide (a=b))) w:=by
 rw[run_neq_struct];rw[show(10000:Nat)=9997+3 from rfl,kH.eq_,kH.De];rfl
def kH.place:Nat->Option (Nat×Nat)
 |0=>some (0,1)
 |1=>some (1,8)
 |_=>none
def kH.VI:(prog.fieldsOf 113).toList.mapM (λf=>(prog.info? f.type).map λi=>(f.offset,i.size))=some [(0,1),(1,8)]:=by kernel_rfl
def kH.build(t:List (Nat×Value))(w:World):(IQ 113 t.toArray).run prog w=Ci (yH kH.place kH.zero.arr t) w ((Qo 113 t.toArray).run prog w):=
 NW kH.under (w6 kH.info) kH.VI (λi=>by match i with|0=>rfl|1=>rfl|n+2=>rfl) t w
theorem kH.VK:kH.place 0=some (0,1):=rfl
theorem kH.VJ:kH.place 1=some (1,8):=rfl
attribute [go_sem↓] kH.ld kH.st kH.al kH.bd kH.eql kH.neq
attribute [go_sem] kH.mh kH.AH kH.row kH.put kH.zN kH.afn kH.Sx kH.adw kH.uA kH.af4 kH.Lb kH.VB kH.VM kH.WQ kH.UG kH.UJ kH.VK kH.VJ kH.load kH.store kH.alloc kH.build kH.eqG
def kH.enc:uo kH.arr 9:=⟨kH.mh,kH.AH,by omega⟩
structure Vl where
 n:Int
 b:Vector (BitVec 8) 16
def Vl.beq(a b:Vl):Bool:=a.n==b.n&&a.b==b.b
def Vl.beq_iff{a b:Vl}:a.beq b=true↔a=b:=by
 cases a;cases b;simp[Vl.beq,xk]
instance :DecidableEq Vl:=λa b=>decidable_of_iff (a.beq b=true) Vl.beq_iff
def Vl.De(a b:Vl):a.beq b=decide (a=b):=by rw[GI,Vl.beq_iff,nO]
@[irreducible] def Vl.arr(s:Vl):Array Value:=zK (Cw (.int .i64 s.n)) (tN s.b)
def Vl.mj(s:Vl):s.arr=zK (Cw (.int .i64 s.n)) (tN s.b):=by unfold Vl.arr;rfl
def Vl.mh(s:Vl):s.arr.size=17:=by rw[Vl.mj];simp[qe,qd,pV]
def Vl.AH(s:Vl):mA s.arr=true:=by rw[Vl.mj];simp[FA,Fz,Value.oneCell',T0]
def Vl.put(s x:Vl):lY s.arr 0 x.arr=x.arr:=ug _ _ (by rw[Vl.mh,Vl.mh])
def Vl.row(s:Vl):mD s.arr 0 17=some s.arr:=pC _ _ s.mh
def Vl.zN(s:Vl):s.arr[0]?=some (.int .i64 s.n):=by
 refine LH ?_;rw[Vl.mj];simp[uC,tW,Af,qe,qd,pV]
def Vl.afn(s:Vl)(o:0<s.arr.size):s.arr[0]'o= .int .i64 s.n:=(yf.1 (Vl.zN s)).2
def Vl.Sx(s:Vl)(x:Int):lY s.arr 0 #[.int .i64 x]=({s with n:=x}:Vl).arr:=by rw[Vl.mj,Vl.mj,<-sZ];simp[tV,sV,Ab,qe,qd,pV]
def Vl.adw(s:Vl)(x:Int):s.arr.setIfInBounds 0 (.int .i64 x)=({s with n:=x}:Vl).arr:=(vG _ _ _ (by rw[Vl.mh];omega)).symm.trans (Vl.Sx s x)
def Vl.uA(s:Vl):mD s.arr 1 16=some (tN s.b):=by rw[Vl.mj];simp[uC,tW,Af,qe,qd,pV]
def Vl.af4(s:Vl)(i:Nat)(h:i<16):s.arr[1+i]?=some (.int .u8 (B8 s.b[i])):=by have:=o3 (Vl.uA s);rw[this.2.2 i h];exact tM _ i h
def Vl.Lb(s:Vl)(x:Vector (BitVec 8) 16):lY s.arr 1 (tN x)=({s with b:=x}:Vl).arr:=by rw[Vl.mj,Vl.mj];simp[tV,sV,Ab,qe,qd,pV]
def Vl.VB(s:Vl)(i:Nat)(h:i<16)(x:BitVec 8):s.arr.setIfInBounds (1+i) (.int .u8 (B8 x))=({s with b:=s.b.setIfInBounds i x}:Vl).arr:=by have c:=BX (Vl.uA s) i h x;rw[Vl.Lb]at c;exact(vG _ _ _ (by rw[Vl.mh];omega)).symm.trans c
def Vl.VM(s:Vl)(n:Nat)(h:n<=16):mD s.arr 1 n=some (qc be (s.b.toList.take n)).toArray:=(K5 (Vl.uA s) n h).trans (OI s.b n h)
def Vl.WQ(s:Vl)(G:List (BitVec 8))(h:G.length<=16):lY s.arr 1 (qc be G).toArray=({s with b:=BF s.b G}:Vl).arr:=by rw[Iu (Vl.uA s) (by rw[uN];exact h),OJ _ _ h,Vl.Lb]
def Vl.zero:Vl:={n:=0,b:=Vector.replicate 16 0#8}
theorem Vl.UG:Vl.zero.n=0:=rfl
theorem Vl.UJ:Vl.zero.b=Vector.replicate 16 0#8:=rfl
def Vl.mM:Vl.zero.arr= #[.int .i64 0,.int .u8 0,.int .u8 0,.int .u8 0,.int .u8 0,.int .u8 0,.int .u8 0,.int .u8 0,.int .u8 0,.int .u8 0,.int .u8 0,.int .u8 0,.int .u8 0,.int .u8 0,.int .u8 0,.int .u8 0,.int .u8 0]:=by rw[Vl.mj];simp[q5,sZ,Vl.zero,vy,qM]
def Vl.info:(prog.info? 47).map (λi=>(i.zero,i.size))=some (some (.agg Vl.zero.arr),17):=by rw[Vl.mM];kernel_rfl
def Vl.yu:(prog.info? 47).map (·.size)=some 17:=by kernel_rfl
def Vl.ld(v:Value):Instr.loadAt 47 v=Ea 47 v:=Lv _ _
def Vl.st(a v:Value):Instr.storeAt 47 a v=D3 47 a v:=KW _ _ _
def Vl.al(h:Bool)(v:Value):Instr.alloc 47 h v=Eh 47 h v:=Mm _ _ _
def Vl.bd(t:Array (Nat×Value)):Instr.build 47 t=IQ 47 t:=TY _ _
def Vl.load(b off:Nat)(w:World):(Ea 47 (.pointer (some ⟨b,off,none⟩))).run prog w=Ci (mQ w b off 17) w ((Lw 47 (.pointer (some ⟨b,off,none⟩))).run prog w):=
 Hx A7 O Vl.yu b off w
def Vl.store(b off:Nat)(s:Vl)(w:World):(D3 47 (.pointer (some ⟨b,off,none⟩)) (.agg s.arr)).run prog w=Ld ((mQ w b off 17).isSome&&uk w b) (.ok () (mw w b off s.arr)) ((KX 47 (.pointer (some ⟨b,off,none⟩)) (.agg s.arr)).run prog w):=
 Hw Vl.yu b off _ w s.mh s.AH
def Vl.alloc(w:World)(v:Value):(Eh 47 true v).run prog w= .ok (.pointer (some ⟨w.heap.size,0,none⟩)) (w.alloc (.cells Vl.zero.arr 47)):=
 HA (z:=.agg Vl.zero.arr) (w6 Vl.info) w v
def Vl.fields:(Tryz.prog.fieldsOf 47).toList.map (fun f=>(f.name== "_",f.type,f.offset))= [(false,3,0),(false,45,1)]:=by kernel_rfl
def Vl.under:prog.underlying 47=some (.struct (prog.fieldsOf 47)):=by kernel_rfl
def Vl.eq_(d:Nat)(a b:Vl)(w:World):(Op.equalIn (d+3) 47 (.agg a.arr) (.agg b.arr)).run prog w= .ok (a.beq b) w:=by have h:=yV Vl.under j6 Vl.fields (BK.cons (Xz.int (d:=(d+1)) mc (Vl.zN a) (Vl.zN b)) (BK.cons (Xz.agg underlying45 O j6 (Vl.uA a) (Vl.uA b) (ai1 d _ _)) BK.nil)) w;exact h.trans (by simp[Vl.beq,QZ])
def Vl.eqG:prog.eqGuardType prog.depth 47=false:=by kernel_rfl
def Vl.eql(a b:Vl)(w:World):(binOp .eql 47 (.agg a.arr) (.agg b.arr)).run prog w= .ok (.bool (decide (a=b))) w:=by
 rw[QY];rw[show(10000:Nat)=9997+3 from rfl,Vl.eq_,Vl.De];rfl
def Vl.place:Nat->Option (Nat×Nat)
 |0=>some (0,1)
 |1=>some (1,16)
 |_=>none
def Vl.VI:(prog.fieldsOf 47).toList.mapM (λf=>(prog.info? f.type).map λi=>(f.offset,i.size))=some [(0,1),(1,16)]:=by kernel_rfl
def Vl.build(t:List (Nat×Value))(w:World):(IQ 47 t.toArray).run prog w=Ci (yH Vl.place Vl.zero.arr t) w ((Qo 47 t.toArray).run prog w):=
 NW Vl.under (w6 Vl.info) Vl.VI (λi=>by match i with|0=>rfl|1=>rfl|n+2=>rfl) t w
theorem Vl.VK:Vl.place 0=some (0,1):=rfl
theorem Vl.VJ:Vl.place 1=some (1,16):=rfl
attribute [go_sem↓] Vl.ld Vl.st Vl.al Vl.bd Vl.eql
attribute [go_sem] Vl.mh Vl.AH Vl.row Vl.put Vl.zN Vl.afn Vl.Sx Vl.adw Vl.uA Vl.af4 Vl.Lb Vl.VB Vl.VM Vl.WQ Vl.UG Vl.UJ Vl.VK Vl.VJ Vl.load Vl.store Vl.alloc Vl.build Vl.eqG
structure lq where
 kind:Int
 seq:BitVec 64
 key:kH
 val:Vl
 add:BitVec 64
def lq.beq(a b:lq):Bool:=a.kind==b.kind&&a.seq==b.seq&&a.key.beq b.key&&a.val.beq b.val&&a.add==b.add
def lq.beq_iff{a b:lq}:a.beq b=true↔a=b:=by
 cases a;cases b;simp[lq.beq,xk,kH.beq_iff,Vl.beq_iff]
instance :DecidableEq lq:=λa b=>decidable_of_iff (a.beq b=true) lq.beq_iff
@[irreducible] def lq.arr(s:lq):Array Value:=zK (zK (zK (zK (Cw (.int .i64 s.kind)) (Cw (.int .u64 (w5 s.seq)))) (s.key.arr)) (s.val.arr)) (Cw (.int .u64 (w5 s.add)))
def lq.mj(s:lq):s.arr=zK (zK (zK (zK (Cw (.int .i64 s.kind)) (Cw (.int .u64 (w5 s.seq)))) (s.key.arr)) (s.val.arr)) (Cw (.int .u64 (w5 s.add))):=by unfold lq.arr;rfl
def lq.mh(s:lq):s.arr.size=29:=by rw[lq.mj];simp[qe,qd,kH.mh,Vl.mh]
def lq.zero:lq:={kind:=0,seq:=0#64,key:=kH.zero,val:=Vl.zero,add:=0#64}
def lq.mM:lq.zero.arr= #[.int .i64 0,.int .u64 0,.int .i64 0,.int .u8 0,.int .u8 0,.int .u8 0,.int .u8 0,.int .u8 0,.int .u8 0,.int .u8 0,.int .u8 0,.int .i64 0,.int .u8 0,.int .u8 0,.int .u8 0,.int .u8 0,.int .u8 0,.int .u8 0,.int .u8 0,.int .u8 0,.int .u8 0,.int .u8 0,.int .u8 0,.int .u8 0,.int .u8 0,.int .u8 0,.int .u8 0,.int .u8 0,.int .u64 0]:=by rw[lq.mj];simp[q5,sZ,lq.zero,vy,qM,kH.mM,Vl.mM]
def lq.info:(prog.info? 131).map (λi=>(i.zero,i.size))=some (some (.agg lq.zero.arr),29):=by rw[lq.mM];kernel_rfl
attribute [go_sem] lq.mh
structure mL where
 key:kH
 val:Vl
def mL.beq(a b:mL):Bool:=a.key.beq b.key&&a.val.beq b.val
def mL.beq_iff{a b:mL}:a.beq b=true↔a=b:=by
 cases a;cases b;simp[mL.beq,xk,kH.beq_iff,Vl.beq_iff]
instance :DecidableEq mL:=λa b=>decidable_of_iff (a.beq b=true) mL.beq_iff
@[irreducible] def mL.arr(s:mL):Array Value:=zK (s.key.arr) (s.val.arr)
def mL.mj(s:mL):s.arr=zK (s.key.arr) (s.val.arr):=by unfold mL.arr;rfl
def mL.mh(s:mL):s.arr.size=26:=by rw[mL.mj];simp[qe,qd,kH.mh,Vl.mh]
def mL.zero:mL:={key:=kH.zero,val:=Vl.zero}
def mL.mM:mL.zero.arr= #[.int .i64 0,.int .u8 0,.int .u8 0,.int .u8 0,.int .u8 0,.int .u8 0,.int .u8 0,.int .u8 0,.int .u8 0,.int .i64 0,.int .u8 0,.int .u8 0,.int .u8 0,.int .u8 0,.int .u8 0,.int .u8 0,.int .u8 0,.int .u8 0,.int .u8 0,.int .u8 0,.int .u8 0,.int .u8 0,.int .u8 0,.int .u8 0,.int .u8 0,.int .u8 0]:=by rw[mL.mj];simp[q5,sZ,mL.zero,vy,qM,kH.mM,Vl.mM]
def mL.info:(prog.info? 115).map (λi=>(i.zero,i.size))=some (some (.agg mL.zero.arr),26):=by rw[mL.mM];kernel_rfl
attribute [go_sem] mL.mh
def NP:SlT prog 86 5 1 1:=SlT.mk' (z:=.int .u8 0) s8 j6 O
def Ou:(prog.info? 5).map (·.size)=some 1:=by kernel_rfl
def TL(ty:TypeId)(vs:Array Value):Builtin.copy_ #[86,86] ty vs=By #[86,86] ty vs:=afG _ _ _
def afF(w:World)(g o Y V b off F e:Nat)(ty:TypeId):
 (By #[86,86] ty #[.slice (some ⟨g,o,none⟩) Y V,.slice (some ⟨b,off,none⟩) F e]).run prog w=
  ad6 (min F Y) (mQ w b off (min F Y*1)) ((mQ w g o (min F Y*1)).isSome&&uk w g) w g o ((Qj #[86,86] ty #[.slice (some ⟨g,o,none⟩) Y V,.slice (some ⟨b,off,none⟩) F e]).run prog w):=
 Pv (P:=prog) (sT:=86) (ty:=ty) (elem:=5) (n:=1) s8 Ou w g o Y V b off F e
def Ng(w:World)(d:Addr)(Y V:Nat)(A:Option Addr)(c:Nat)(ty:TypeId):
 (By #[86,86] ty #[.slice (some d) Y V,.slice A 0 c]).run prog w= .ok (.int .i64 0) w:=
 K4 (P:=prog) (sT:=86) (ty:=ty) (elem:=5) (n:=1) s8 Ou w d Y V A c
attribute [go_sem↓] TL
attribute [go_sem] Ng afF
def kq(n:Int):AV:=.v (.int .i64 n)
def kA(b:Bool):AV:=.v (.bool b)
def lN(x:BitVec 8):AV:=.v (.int .u8 (B8 x))
def qU(x:BitVec 64):AV:=.v (.int .u64 (w5 x))
def E7(b:Vector (BitVec 8) n):AV:=.arr n 1 (b.toList.map lN)
def kH.av(k:kH):AV:=.agg 9 [kq k.n,E7 k.b]
def Vl.av(k:Vl):AV:=.agg 17 [kq k.n,E7 k.b]
def lq.av(m:lq):AV:=.agg 29 [kq m.kind,qU m.seq,m.key.av,m.val.av,qU m.add]
def mL.av(e:mL):AV:=.agg 26 [e.key.av,e.val.av]
section
def qV{x:Value}{c:List Value}(h:sB x=true):Rd U w (.v x) B H c↔c= [x]:=by simp[Rd,h]
theorem CY:∀(l:List (BitVec 8)) {B:nE} {H:Hp} {c:List Value},ov U w 1 (l.map lN) B H c↔c=l.map λx=>Value.int .u8 (B8 x)
 | [],_,_,c=>by simp[ov]
 |x::l,_,_,c=>by
  simp only[nc,ov,lN];constructor
  .rintro⟨c1,c2,rfl,_,a,b⟩;rw[qV O]at a;rw[CY l]at b;rw[a,b];rfl
  .rintro rfl;exact⟨[_],_,rfl,rfl,by rw[qV O],(CY l).2 O⟩
def adO{b:Vector (BitVec 8) n}{c:List Value}:Rd U w (E7 b) B H c↔c=(tN b).toList:=by
 have e:(tN b).toList=b.toList.map λx=>Value.int .u8 (B8 x):=by rw[CH];simp;rfl
 simp only[E7,Rd,CY,e];constructor
 .exact λh=>h.2
 .rintro rfl;simp
def nm{x:AV}{c:List Value}{I o:List Value}(a:∀c,Rd U w x B H c↔c=I)(b:∀c,qQ U w G B H c↔c=o):qQ U w (x::G) B H c↔c=I++o:=by
 simp only[qQ,a,b];constructor
 .rintro⟨c1,c2,rfl,rfl,rfl⟩;rfl
 .rintro rfl;exact⟨_,_,rfl,rfl,rfl⟩
def yz{c:List Value}:qQ U w [] B H c↔c= []:=by simp[qQ]
def Cc{fs:List AV}{c r:List Value}(I:r.length=n)(h:qQ U w fs B H c↔c=r):Rd U w (.agg n fs) B H c↔c=r:=by
 simp only[Rd,h];exact⟨λh=>h.2,λh=>⟨by rw[h];exact I,h⟩⟩
def x7(a b:Array Value):(zK a b).toList=a.toList++b.toList:=by rw[q5];simp
def zJ(v:Value):(Cw v).toList= [v]:=by rw[sZ]
def kH.rd{k:kH}{c:List Value}:Rd U w k.av B H c↔c=k.arr.toList:=by refine Cc iM ((nm (λc=>qV O) λc=>nm (λc=>adO) λc=>yz).trans ?_);rw[kH.mj];simp[x7,zJ]
def Vl.rd{k:Vl}{c:List Value}:Rd U w k.av B H c↔c=k.arr.toList:=by refine Cc iM ((nm (λc=>qV O) λc=>nm (λc=>adO) λc=>yz).trans ?_);rw[Vl.mj];simp[x7,zJ]
def lq.rd{m:lq}{c:List Value}:Rd U w m.av B H c↔c=m.arr.toList:=by refine Cc iN ((nm (λc=>qV O) λc=>nm (λc=>qV O) λc=>nm (λc=>kH.rd) λc=>nm (λc=>Vl.rd) λc=>nm (λc=>qV O) λc=>yz).trans ?_);rw[lq.mj];simp[x7,zJ]
def mL.rd{m:mL}{c:List Value}:Rd U w m.av B H c↔c=m.arr.toList:=by refine Cc iN ((nm (λc=>kH.rd) λc=>nm (λc=>Vl.rd) λc=>yz).trans ?_);rw[mL.mj];simp[x7]
end
structure DT(α:Type) where
 t:TypeId
 n:Nat
 av:α->AV
 arr:α->Array Value
 rd:∀{U:u0} {w:World} {B:nE} {H:Hp} {x:α} {c:List Value},Rd U w (av x) B H c↔c=(arr x).toList
 agg:∀x,na (av x)=true
 enc:uo arr n
def WN:DT kH:=⟨113,9,kH.av,kH.arr,kH.rd,λ_=>rfl,kH.enc⟩
def dVl:DT Vl:=⟨47,17,Vl.av,Vl.arr,Vl.rd,λ_=>rfl,⟨Vl.mh,Vl.AH,by omega⟩⟩
section
variable (D:DT α)
theorem DT.pack{x:α}{c:List Value}(h:Rd U w (D.av x) B H c):m9 (D.av x) c= .agg (D.arr x):=by rw[(tZ h).1 (D.agg x)];rw[D.rd]at h;rw[h]
theorem DT.rdv{x:α}:qJ U w B H (D.av x) v↔v= .agg (D.arr x):=by
 rw[kJ (by intro G e;have:=D.agg x;rw[e]at this;cases this)];constructor
 .rintro⟨c,a,b⟩;rw[b,D.pack a]
 .rintro rfl;have h:Rd U w (D.av x) B H (D.arr x).toList:=D.rd.2 O;exact⟨_,h,(D.pack h).symm⟩
theorem DT.rdu:∀(G:List α) {c:List Value},ov U w D.n (G.map D.av) B H c↔c=qc D.arr G
 | [],c=>by simp[ov,qc]
 |x::G,c=>by
  have e:qc D.arr (x::G)=(D.arr x).toList++qc D.arr G:=rfl;simp only[nc,ov,D.rd,DT.rdu G,e];constructor
  .rintro⟨c1,c2,rfl,_,rfl,rfl⟩;rfl
  .rintro rfl;exact⟨_,_,rfl,by have:=D.enc.size x;simpa using this,rfl,rfl⟩
end
def akJ{E:α->AV}{arr:α->Array Value}(enc:uo arr n){U:u0}{w:World}{B:nE}{H:Hp}(D:∀(G:List α) {c:List Value},ov U w n (G.map E) B0 H0 c↔c=qc arr G){tok:Option Nat}{G:List α}{v:Value}(h:Rd U w (.sl tok n (G.map E)) B H [v]):Sl arr n w v G:=by
 simp only[Rd,kX]at h;obtain⟨A,cap,a,d,l,C,_⟩:=h;injection a with a;refine⟨A,cap,a,d,l,λj=>?_⟩;obtain⟨b,off,c,e,k2,k3,m⟩:=C j;rw[D]at m;subst m;refine⟨b,off,e,HB k2,λi hi=>?_⟩;have hn:i*n+n<=G.length*n:=fD;rw[yx k2 (i*n) n hn];unfold mD;have g:=sK enc G;rw[kx (by simp[g];exact hn)]
 congr 1
 apply qB;intro k;rw[w4];by_cases x:k<n
 .rw[kx (by simp[g];omega)];have:=zH enc G i k hi x;simpa using this
 .rw[ku kh,ru i7]
theorem zx{α:Type}{E:α->AV}{cell:α->Value}(h:∀x,E x= .v (cell x))(X:∀x,sB (cell x)=true){U:u0}{w:World}{B:nE}{H:Hp}:∀(G:List α) {c:List Value},ov U w 1 (G.map E) B H c↔c=G.map cell
 | [],c=>by simp[ov]
 |x::l,c=>by
  simp only[nc,ov,h];constructor
  .rintro⟨c1,c2,rfl,_,a,b⟩;rw[qV (X x)]at a;rw[zx h X l]at b;rw[a,b];rfl
  .rintro rfl;exact⟨[_],_,rfl,rfl,by rw[qV (X x)],(zx h X l).2 O⟩
theorem AA{α:Type}{arr:α->Array Value}{cell:α->Value}(h:∀x,arr x= #[cell x]):∀G:List α,qc arr G=G.map cell
 | []=>rfl
 |x::l=>by have e:qc arr (x::l)=(arr x).toList++qc arr l:=rfl;rw[e,h,AA h l];rfl
def Iv{tok:Option Nat}{G:List (BitVec 8)}(h:qJ U w B H (.sl tok 1 (G.map lN)) v):Sl be 1 w v G:=
 akJ CF (λG c=>by rw[AA (arr:=be) (cell:=λx=>Value.int .u8 (B8 x)) (λ_=>rfl)];exact zx (cell:=λx=>.int .u8 (B8 x)) (λ_=>rfl) (λ_=>rfl) G) (ml ki h O)
def lR{t:TypeId}(h:(prog.info? t).map (λi=>(i.zero,i.size))=some (some v,n))(H:∀U w,Rd U w z B0 H0 v.cells.toList):lB prog t z:=by
 cases hi:prog.info? t with
 |none=>rw[hi]at h;cases h
 |some i=>
  rw[hi]at h;simp only[Option.map_some,mr,pq]at h;exact⟨i,v,hi,h.1,H⟩
def E4:lB prog 113 kH.zero.av:=lR kH.info λU w=>kH.rd.2 O
def ag0:lB prog 47 Vl.zero.av:=lR Vl.info λU w=>Vl.rd.2 O
def ack:lB prog 131 lq.zero.av:=lR lq.info λU w=>lq.rd.2 O
def aco:lB prog 115 mL.zero.av:=lR mL.info λU w=>mL.rd.2 O
def xE:lB prog 3 (kq 0):=lR (v:=.int .i64 0) (n:=1) j6 λU w=>(qV O).2 O
def Z7:lB prog 5 (lN 0#8):=lR (v:=.int .u8 0) (n:=1) j6 λU w=>(qV O).2 (by rw[DR];rfl)
def Il:lB prog 22 (.v (.slice none 0 0)):=lR (v:=.slice none 0 0) (n:=1) j6 λU w=>(qV O).2 O
def Ik:lB prog 79 (.v (.slice none 0 0)):=lR (v:=.slice none 0 0) (n:=1) j6 λU w=>(qV O).2 O
def oo{x:AV}{vs:List Value}(h:oe U w (x::G) B H vs):∃v J,vs=v::J/\qJ U w B H x v/\oe U w G B H J:=by
 simp only[oe]at h;obtain⟨c,J,rfl,a,b⟩:=h;exact⟨_,J,rfl,by rw[kJ (oV a)];exact⟨c,a,rfl⟩,b⟩
def rE{vs:List Value}(h:oe U w [] B H vs):vs= []:=by simpa[oe]using h
def ait{w:World}{x:Value}(h:sB x=true):qJ U w' B0 H0 (.v x) x:=nM.2 ⟨h,rfl⟩
def PI{vs:Array Value}{x:Value}(h:Calls P f vs w (Is w x))(H:∀w',qJ (λb o=>b<w.heap.size/\U b o) w' B0 H0 r x):
 Calls P f vs w λe w'=>∃v,e= .returned v/\qJ (λb o=>b<w.heap.size/\U b o) w' B0 H0 r v/\pr w w':=
 h.mono λe w' ⟨a,h2⟩=>⟨x,a,H w',h2⟩
def sJ:List (BitVec 8)->List (BitVec 8)->Int
 | [],[]=>0
 | [],_::_=> -1
 |_::_,[]=>1
 |a::l,b::m=>if a.toNat<b.toNat then-1 else if b.toNat<a.toNat then 1 else sJ l m
theorem Bz:∀(l m:List (BitVec 8)),Lib.compareBytes (lW l).data.toList (lW m).data.toList=sJ l m
 | [],[]=>by rw[nH];simp[Lib.compareBytes,sJ]
 | [],_::_=>fE
 |_::_,[]=>fE
 |a::l,b::m=>by
  have y:=Bz l m;have P:(lW (a::l)).data.toList=UInt8.ofBitVec a::(lW l).data.toList:=fF;have e:(lW (b::m)).data.toList=UInt8.ofBitVec b::(lW m).data.toList:=fF;rw[P,e,Lib.compareBytes,sJ,y];have c:(UInt8.ofBitVec a<UInt8.ofBitVec b)=(a.toNat<b.toNat):=rfl;have d:(UInt8.ofBitVec b<UInt8.ofBitVec a)=(b.toNat<a.toNat):=rfl;simp only[c,d]
def abq(b:BitVec 8)(l:List (BitVec 8)):sJ [] (b::l)= -1:=by simp[sJ]
def abr(b:BitVec 8)(l:List (BitVec 8)):sJ (b::l) []=1:=by simp[sJ]
def tG:Nat->Nat
 |0=>1
 |m+1=>1+256*tG m
def rk:Nat->List (BitVec 8)->Nat
 |0,_=>0
 |_+1,[]=>0
 |m+1,b::l=>1+b.toNat*tG m+rk m l
theorem adC:∀(m:Nat) (l:List (BitVec 8)),rk m l<tG m
 |0,_=>by simp[rk,tG]
 |m+1,[]=>by simp[rk,tG];omega
 |m+1,b::l=>by
  have h:=adC m l;have hb:=b.isLt;have c:b.toNat*tG m+tG m<=256*tG m:=by rw[<-sb];exact mH _ kh
  simp only[rk,tG];generalize b.toNat*tG m=q at*;omega
def VA(a b:Nat):Int:=if a<b then-1 else if b<a then 1 else 0
def akK{a:Nat}(h:a<b):VA a b= -1:=by unfold VA;rw[kx h]
def akL{a:Nat}(h:b<a):VA a b=1:=by unfold VA;rw[ku kh,kx h]
theorem Oq:∀(m:Nat) (k l:List (BitVec 8)),k.length<=m->l.length<=m->sJ k l=VA (rk m k) (rk m l)
 |_,[],[],_,_=>by simp[sJ,VA]
 |0,[],_::_,_,h=>fq
 |0,_::_,_,h,_=>fq
 |m+1,[],b::l,_,_=>by rw[abq];exact(akK (by simp only[rk];omega)).symm
 |m+1,a::k,[],_,_=>by rw[abr];exact(akL (by simp only[rk];omega)).symm
 |m+1,a::k,b::l,c,d=>by
  have y:=Oq m k l jK jO;have w:=adC m k;have g:=adC m l;simp only[sJ,rk];rcases GP a.toNat b.toNat with hab|hab|hab
  .have:a.toNat*tG m+tG m<=b.toNat*tG m:=by rw[<-sb];exact mH _ kh
   generalize a.toNat*tG m=p at*;generalize b.toNat*tG m=q at*;rw[kx hab];unfold VA;rw[kx kh]
  .rw[ku kh,ku kh,y,hab];generalize b.toNat*tG m=q;unfold VA;by_cases n:rk m k<rk m l
   .rw[kx n,kx kh]
   .by_cases A:rk m l<rk m k
    .rw[ku n,kx A,ku kh,kx kh]
    .rw[ku n,ku A,ku kh,ku kh]
  .have:b.toNat*tG m+tG m<=a.toNat*tG m:=by rw[<-sb];exact mH _ kh
   generalize a.toNat*tG m=p at*;generalize b.toNat*tG m=q at*;rw[ku kh,kx hab];unfold VA;rw[ku kh,kx kh]
theorem IH:∀(k l:List (BitVec 8)),sJ k l=0↔k=l
 | [],[]=>fG
 | [],_::_=>fG
 |_::_,[]=>fG
 |a::k,b::l=>by
  have y:=IH k l;rw[sJ];rcases GP a.toNat b.toNat with hab|hab|hab
  .rw[kx hab];simp;intro h;rw[h]at hab;omega
  .rw[ku kh,ku kh,y];have:a=b:=Mj hab;simp[this]
  .rw[ku kh,kx hab];simp;intro h;rw[h]at hab;omega
def CU(a b:Nat):VA a b<0↔a<b:=by unfold VA;split<;>(try split)<;>omega
def adv(a b:Nat):0<=VA a b↔b<=a:=by unfold VA;split<;>(try split)<;>omega
def ys{m:Nat}(b:Vector (BitVec 8) m)(n:Nat):Vector (BitVec 8) m:=Vector.ofFn λi=>if i.1<n then b[i.1]else 0#8
def Hl{m:Nat}(b:Vector (BitVec 8) m)(n i:Nat)(h:i<m):(ys b n)[i]=if i<n then b[i]else 0#8:=by unfold ys;simp
def vk{m:Nat}(b:Vector (BitVec 8) m)(n:Nat):ys b n=b↔ ∀i (h:i<m),n<=i->b[i]=0#8:=by
 constructor
 .intro h i hi hn;have:=Hl b n i hi;rw[h,ku kh]at this;exact this
 .intro h;apply A9;intro i hi;rw[Hl];split
  .rfl
  .rw[h i hi kh]
def rj(m:Nat)(l:List (BitVec 8)):Vector (BitVec 8) m:=Vector.ofFn λi=>l.getD i.1 0#8
def Aj(m:Nat)(l:List (BitVec 8))(i:Nat)(h:i<m):(rj m l)[i]=l.getD i 0#8:=by unfold rj;simp
def cut{m:Nat}(b:Vector (BitVec 8) m)(n:Nat):List (BitVec 8):=b.toList.take n
def WO{m:Nat}(b:Vector (BitVec 8) m)(n:Nat)(h:n<=m):(cut b n).length=n:=by unfold cut;simp;omega
def aiN{m:Nat}(b:Vector (BitVec 8) m)(n i:Nat)(h:i<m)(c:i<n):(cut b n)[i]?=some b[i]:=by
 unfold cut;rw[yg,kx c];simp[h]
def Ex{m:Nat}(b:Vector (BitVec 8) m)(n:Nat)(h:ys b n=b):rj m (cut b n)=b:=by
 apply A9;intro i hi;rw[Aj,nI];by_cases hn:i<n
 .rw[aiN b n i hi hn];rfl
 .rw[pN (by unfold cut;simp;omega),(vk b n).1 h i hi kh];rfl
def Fb(m:Nat)(l:List (BitVec 8)):ys (rj m l) l.length=rj m l:=by
 rw[vk];intro i hi hn;rw[Aj,nI,pN hn];rfl
def D7{m:Nat}(b:Vector (BitVec 8) m)(n:Nat):BF (Vector.replicate m 0#8) (b.toList.take n)=ys b n:=by
 apply A9;intro i hi;rw[xQ,Hl,yg];by_cases hn:i<n
 .rw[kx hn,kx hn];simp[hi]
 .rw[ku hn,ku hn];simp
def C0{m:Nat}(G:List (BitVec 8)):BF (Vector.replicate m 0#8) G=rj m G:=by
 apply A9;intro i hi;rw[xQ,Aj,nI];simp
@[irreducible] def kH.ok(k:kH):Bool:=decide (0<=k.n)&&decide (k.n<=8)&&decide (ys k.b k.n.toNat=k.b)
def kH.rm(k:kH):k.ok=true↔0<=k.n/\k.n<=8/\ys k.b k.n.toNat=k.b:=by unfold kH.ok;simp[xk]
def kH.sD(k:kH):k.ok=false↔k.n<0∨8<k.n∨ys k.b k.n.toNat≠k.b:=by
 rw[<-Bool.not_eq_true,kH.rm];constructor
 .intro h;by_cases a:k.n<0
  .exact .inl a
  .by_cases b:8<k.n
   .exact .inr (.inl b)
   .exact .inr (.inr λl=>h ⟨by omega,by omega,l⟩)
 .rintro(h|h|h) ⟨a,b,l⟩
  .omega
  .omega
  .exact h l
@[irreducible] def kH.E9(k:kH):List (BitVec 8):=if k.ok then cut k.b k.n.toNat else[]
def kH.BV{k:kH}(h:k.ok=true):k.E9=cut k.b k.n.toNat:=by unfold kH.E9;rw[kx h]
def kH.Hk{k:kH}(h:k.ok=false):k.E9= []:=by unfold kH.E9;rw[ku (by rw[h];simp)]
def kH.xK(k:kH):k.E9.length<=8:=by
 cases h:k.ok
 .rw[kH.Hk h];simp
 .rw[kH.BV h];unfold cut;simp;omega
def kH.am4{k:kH}(h:k.ok=true):(k.E9.length:Int)=k.n:=by obtain⟨a,b,l⟩:=(kH.rm k).1 h;rw[kH.BV h,WO _ _ kh];omega
def vh(l:List (BitVec 8)):kH:=⟨l.length,rj 8 l⟩
def aeV(l:List (BitVec 8))(h:l.length<=8):(vh l).ok=true:=by
 rw[kH.rm];exact⟨by simp[vh],by simp[vh];omega,by simpa[vh]using Fb 8 l⟩
def kH.aeU{k:kH}(h:k.ok=true):vh k.E9=k:=by
 have hn:=kH.am4 h;obtain⟨a,b,l⟩:=(kH.rm k).1 h;unfold vh;rw[hn,kH.BV h,Ex k.b _ l]
def kH.ahs{a b:kH}(N:a.ok=true)(c:b.ok=true)(h:a.E9=b.E9):a=b:=by rw[<-kH.aeU N,h,kH.aeU c]
def kH.lV(k:kH):Nat:=rk 8 k.E9
def lx(a b:kH):Int:=sJ a.E9 b.E9
def qy(a b:kH):lx a b=VA a.lV b.lV:=Oq 8 _ _ a.xK b.xK
def La{a b:kH}(N:a.ok=true)(d:b.ok=true):a.lV=b.lV↔a=b:=by
 constructor
 .intro h;have c:lx a b=0:=by rw[qy,h];simp[VA]
  exact kH.ahs N d ((IH _ _).1 c)
 .rintro rfl;rfl
@[irreducible] def Vl.ok(k:Vl):Bool:=decide (0<=k.n)&&decide (k.n<=16)&&decide (ys k.b k.n.toNat=k.b)
def Vl.rm(k:Vl):k.ok=true↔0<=k.n/\k.n<=16/\ys k.b k.n.toNat=k.b:=by unfold Vl.ok;simp[xk]
def vX(l:List (BitVec 8)):Vl:=⟨l.length,rj 16 l⟩
def YH(l:List (BitVec 8))(h:l.length<=16):(vX l).ok=true:=by
 rw[Vl.rm];exact⟨by simp[vX],by simp[vX];omega,by simpa[vX]using Fb 16 l⟩
def Vl.XD:Vl.zero.ok=true:=by
 rw[Vl.rm];refine⟨by simp[Vl.zero],by simp[Vl.zero],?_⟩;rw[vk];intro i hi _;simp[Vl.zero]
def n9(x:Int):Nat->List Int->Int
 |_,[]=> -1
 |i,y::l=>if y=x then(i:Int)else n9 x (i+1) l
def lF(l:List Int)(x:Int):Int:=n9 x 0 l
theorem To(x:Int)(i:Nat):n9 x i []= -1:=rfl
def IL(l:List Int)(x:Int)(i:Nat)(h:i<l.length)(e:l[i]=x):n9 x i (l.drop i)=i:=by rw[ts h,n9,kx e]
def FT(l:List Int)(x:Int)(i:Nat)(h:i<l.length)(e:l[i]≠x):n9 x i (l.drop i)=n9 x (i+1) (l.drop (i+1)):=by rw[ts h,n9,ku e]
def IM(l:List Int)(x:Int)(i:Nat)(h:l.length<=i):n9 x i (l.drop i)= -1:=by
 rw[ub h];rfl
def oF(u:List Int):Nat->List Int->Bool
 |_,[]=>true
 |i,y::l=>decide (1<=y)&&decide (y<256)&&decide (lF u y=(i:Int))&&oF u (i+1) l
def nu(s:kH->kH->Int):Option kH->List kH->Bool
 |_,[]=>true
 |p,k::l=>k.ok&&(match p with|none=>true|some q=>decide (s q k<0))&&nu s (some k) l
def sY(s:kH->kH->Int)(k:List Int)(cs:List kH):Bool:=
 decide (2<=k.length)&&decide (k.length<=4)&&decide (cs.length+1=k.length)&&oF k 0 k&&nu s none cs
def Eb(u l:List Int)(i:Nat)(h:i<l.length):oF u i (l.drop i)=(decide (1<=l[i])&&decide (l[i]<256)&&decide (lF u l[i]=(i:Int))&&oF u (i+1) (l.drop (i+1))):=by rw[ts h,oF]
def P8(u l:List Int)(i:Nat)(h:l.length<=i):oF u i (l.drop i)=true:=by
 rw[ub h];rfl
def zO(l:List kH):Nat->Option kH
 |0=>none
 |i+1=>l[i]?
def D4(s:kH->kH->Int)(l:List kH)(h:0<l.length):nu s (zO l 0) (l.drop 0)=(l[0].ok&&nu s (zO l 1) (l.drop 1)):=by
 rw[ts h];simp[zO,h,nu]
def Ag(s:kH->kH->Int)(l:List kH)(i:Nat)(h:i+1<l.length):nu s (zO l (i+1)) (l.drop (i+1))=(l[i+1].ok&&decide (s l[i] l[i+1]<0)&&nu s (zO l (i+2)) (l.drop (i+2))):=by
 rw[ts h];simp only[zO];rw[kQ (show i<l.length by omega),kQ h];rfl
def Sn(s:kH->kH->Int)(l:List kH)(p:Option kH)(i:Nat)(h:l.length<=i):nu s p (l.drop i)=true:=by
 rw[ub h];rfl
def qj(s:kH->kH->Int)(k:kH)(l:List kH):Nat:=l.countP λp=>decide (s p k<=0)
def abv(s:kH->kH->Int)(k:kH)(l:List kH)(i:Nat)(h:i<l.length)(c:s l[i] k<=0):qj s k (l.take (i+1))=qj s k (l.take i)+1:=by
 unfold qj;rw[Ko h,EN];simp[c]
def ae8(s:kH->kH->Int)(k:kH)(l:List kH)(i:Nat)(h:i<l.length)(c:¬s l[i] k<=0):qj s k (l.take (i+1))=qj s k (l.take i):=by
 unfold qj;rw[Ko h,EN];simp[c]
def ae9(s:kH->kH->Int)(k:kH)(l:List kH):qj s k l<=l.length:=H6
def Bm(k:kH)(w:World):Calls prog 158 #[.agg k.arr] w (Is w (.bool k.ok)):=by
 by_cases o:k.n<0
 .have E:k.ok=false:=(kH.sD k).2 (.inl o);exact bv
 have e:0<=k.n:=eY;by_cases c:8<k.n
 .have E:k.ok=false:=(kH.sD k).2 (.inr (.inl c));exact bv
 have U:k.n<=8:=eY;obtain⟨n,hn⟩:∃n:Nat,k.n=(n:Int):=⟨k.n.toNat,by omega⟩;have H0:=mE hn;have g:n<=8:=eY;clear hn
 go_enter func158,ntmps158
 go_wp2
 go_loop [3] (λx=>∃i:Nat,n<=i/\i<=8/\x= .int .i64 i/\ ∀j (h:j<8),n<=j->j<i->k.b[j]=0#8) (λx=>8-(intOf x).toNat)
 case atStart=>exact⟨n,by omega,by omega,by rw[H0.out],λj _ a b=>absurd a kh⟩
 case round=>
  obtain⟨i,a,b,rfl,d⟩:=hrel;have N:=mE d;clear d;have F:=H0.out;have G:k.n<=i:=eY;clear F;by_cases Z:i<8
  .by_cases hb:k.b[i]=0#8
   .go_wp2
    exact bM
   .have E:k.ok=false:=(kH.sD k).2 (.inr (.inr λh=>hb ((vk _ _).1 h i Z kh)));exact bW
  .obtain rfl:i=8:=by omega
   have E:k.ok=true:=(kH.rm k).2 ⟨e,U,(vk _ _).2 λj l m=>N.out j l (by rw[H0.out]at m;omega) l⟩;exact bW
def Ax(k:kH)(w:World):Calls prog 266 #[.agg k.arr] w (Is w (.bool k.ok)):=by
 by_cases i:k.n<0
 .have E:k.ok=false:=(kH.sD k).2 (.inl i);exact bw
 have Z:0<=k.n:=eY;by_cases c:8<k.n
 .have E:k.ok=false:=(kH.sD k).2 (.inr (.inl c));exact bw
 have U:k.n<=8:=eY;obtain⟨kn,y⟩:=k;obtain⟨n,rfl⟩:∃n:Nat,kn=(n:Int):=⟨kn.toNat,by simp at Z;omega⟩;have g:n<=8:=by simp at U;omega
 have K:(n:Int)<=8:=eY
 go_enter A6,ntmps266
 go_wp2
 have J:min 8 n=n:=eY
 go_region_held3 (λW=>W.cell? ⟨w.heap.size,0,none⟩=some (.int .i64 (n:Int))) ((simp[go_sem])) (fail)
 go_wp2
 go_ret;have x:(kH.mk (n:Int) y).ok=decide (ys y n=y):=by rw[GI,kH.rm];simp[K]
 exact⟨by rw[x,D7];rfl,gP⟩
def Tl(k:kH)(w:World):Calls prog 216 #[.agg k.arr] w (Is w (.string (lW k.E9))):=by
 cases E:k.ok
 .have R:=kH.Hk E
  go_enter func216,ntmps216
  go_wp2_with fail
  refine(Ax _ _).mono ?_;exact bz
 .have R:=kH.BV E;obtain⟨i,c,-⟩:=(kH.rm k).1 E;obtain⟨kn,x⟩:=k;obtain⟨n,rfl⟩:∃n:Nat,kn=(n:Int):=⟨kn.toNat,by simp at i;omega⟩;have l:n<=8:=fH;have K:(n:Int)<=8:=eY;have P:=mE R;clear R
  go_enter func216,ntmps216
  go_wp2_with fail
  refine(Ax _ _).mono ?_;exact ar
def Nh(a b:ByteArray)(w:World):Calls prog 265 #[.string a,.string b] w λe w'=>e= .returned (.int .i64 (Lib.compareBytes a.data.toList b.data.toList))/\w'=w:=by
 go_enter func265,ntmps265
 go_wp2
 rw[run_callFunc_extern func289 j6 j6 j6 (e:=Extern.BytealgCompare.compare) j6,Lib.run_compareString];simp only[Result.andThen];rw[Oper.upon_value]
 go_wp2
 go_ret;exact⟨O,rfl⟩
def Vq(k m:List (BitVec 8))(w:World):Calls prog 215 #[.string (lW k),.string (lW m)] w λe w'=>e= .returned (.int .i64 (sJ k m))/\w'=w:=by
 have H:=mE (Bz k m)
 go_enter func215,ntmps215
 go_wp2_with (go_at_call 265;refine(Nh _ _ _).mono ?_;rintro e J ⟨rfl,rfl⟩)
 go_ret;exact⟨by rw[H.out];rfl,rfl⟩
def Wt(a b:kH)(w:World):Calls prog 155 #[.agg a.arr,.agg b.arr] w (Is w (.int .i64 (lx a b))):=by
 go_enter A5,ntmps155
 go_wp2
 have Y:mQ ((w.alloc (.cells a.arr 113)).alloc (.cells b.arr 113)) w.heap.size 0 9=some a.arr:=by simp[go_sem]
 have K:mQ ((w.alloc (.cells a.arr 113)).alloc (.cells b.arr 113)) (w.heap.size+1) 0 9=some b.arr:=by simp[go_sem]
 go_region_held3 (λW=>mQ W w.heap.size 0 9=some a.arr/\mQ W (w.heap.size+1) 0 9=some b.arr)
  (exact⟨pr.row gP Y,pr.row gP K⟩)
  ((first|(go_at_call 216;refine(Tl _ _).mono ?_;rintro e J ⟨rfl,H⟩)|(go_at_call 215;refine(Vq _ _ _).mono ?_;rintro e J ⟨rfl,rfl⟩)))
 all_goals go_wp2
 all_goals go_ret
 all_goals exact⟨O,gP⟩
def uj:List (BitVec 8)->BitVec 64
 | []=>0#64
 |b::H=>(uj H<<<8)|||b.setWidth 64
def ni(n:BitVec 64):Nat->List (BitVec 8)
 |0=> []
 |w+1=>n.setWidth 8::ni (n>>>8) w
def lP(n:BitVec 64)(w:Nat):(ni n w).length=w:=by
 induction w generalizing n with
 |zero=>rfl
 |succ w y=>simp[ni,y]
def Cr(n:BitVec 64)(w i:Nat)(h:i<w):(ni n w)[i]?=some ((n>>>(8*i)).setWidth 8):=by
 induction w generalizing n i with
 |zero=>omega
 |succ w y=>
  cases i with
  |zero=>simp[ni]
  |succ i=>
   rw[ni,Xc,y _ _ kh,<-Zy,show 8+8*i=8*(i+1)from by omega]
def P3(n:BitVec 64)(w:Nat):ni n (w+1)=ni n w++[(n>>>(8*w)).setWidth 8]:=by
 apply wv;intro i;rw[QQ,lP];by_cases h:i<w
 .rw[kx h,Cr _ _ _ h,Cr _ _ _ kh]
 .rw[ku h];by_cases b:i=w
  .subst b;rw[Cr _ _ _ kh];simp
  .rw[pN jc,pN jY]
def abt(H:List (BitVec 8))(b:BitVec 8)(i:Nat)(h:i<64):(uj (b::H)).getLsbD i=if i<8 then b.getLsbD i else(uj H).getLsbD (i- 8):=by
 rw[uj,BitVec.getLsbD_or,Zx,Km];by_cases c:i<8
 .rw[kx c];simp[c,h]
 .rw[ku c,Zw b i kh];simp[c,h]
def D9(n:BitVec 64)(w i:Nat)(h:i<64):(uj (ni n w)).getLsbD i=(decide (i<8*w)&&n.getLsbD i):=by
 induction w generalizing n i with
 |zero=>simp[ni,uj]
 |succ w y=>
  rw[ni,abt _ _ _ h];by_cases c:i<8
  .rw[kx c];simp[c,show i<8*(w+1)from by omega]
  .rw[ku c,y _ _ kh,QX,show 8+(i- 8)=i from by omega]
   congr 1
   rw[A4];omega
def II(n:BitVec 64):uj (ni n 8)=n:=by
 apply GO;intro i hi;rw[D9 _ _ _ hi];simp[hi]
def YC(v:Vl):BitVec 64:=uj (v.b.toList.take 8)
def F3(n:BitVec 64):Vl:=vX (ni n 8)
def D1(v:Vl)(p:BitVec 64):Vl:=F3 (YC v+p)
def F1(n:BitVec 64):(F3 n).ok=true:=YH _ jc
def xw(n:Int):IntKind.u64.wrap n=n%18446744073709551616:=by simp[IntKind.wrap,IntKind.bits,IntKind.signed]
def agD(x:BitVec 64):w5 x/(256:Int)=w5 (x>>>8):=by
 rw[oJ,oJ,T6,T5];omega
def ab9(x:BitVec 64):IntKind.u8.wrap (w5 x)=B8 (x.setWidth 8):=by
 rw[IntKind.wrap_u8',oJ,rB,OL];omega
def amx(x y:BitVec 64):bits .or .u64 (w5 x) (w5 y)=w5 (x|||y):=by
 rw[oJ,oJ,oJ,BitVec.toNat_or];exact u64_or_nat x.toNat y.toNat x.isLt y.isLt
def ab6(x:BitVec 8):IntKind.u64.wrap (B8 x)=w5 (x.setWidth 64):=by
 rw[xw,oJ,rB,OL];have:=x.isLt;omega
def agE(x:BitVec 64):IntKind.u64.wrap (w5 x*256)=w5 (x<<<8):=by
 rw[xw,oJ,oJ,Zv,Nat.shiftLeft_eq];omega
def ZV(x y:BitVec 64):IntKind.u64.wrap (w5 x+w5 y)=w5 (x+y):=by
 rw[xw,oJ,oJ,oJ,BitVec.toNat_add];omega
attribute [go_sem] agD ab9 amx ab6 agE ZV
def seg(G:List (BitVec 8))(A H:Nat):List (BitVec 8):=(G.drop A).take H
def adx(G:List (BitVec 8))(A H k:Nat)(h:A+H<=G.length)(w:k<H):uj ((seg G A H).drop k)=(uj ((seg G A H).drop (k+1))<<<8)|||(G[A+k]'kh).setWidth 64:=by
 have g:(seg G A H).length=H:=by unfold seg;simp;omega
 rw[ts kh,uj]
 congr 2
 unfold seg;simp
def N6{m:Nat}(G:List (BitVec 8))(k:Nat)(w:k<G.length):(BF (Vector.replicate m 0#8) (G.take k)).setIfInBounds k G[k]=BF (Vector.replicate m 0#8) (G.take (k+1)):=by
 apply A9;intro i hi;rw[xQ,Vector.getElem_setIfInBounds,xQ,yg,yg];by_cases a:k=i
 .subst a;simp[w]
 .by_cases b:i<k
  .simp[a,b,show i<k+1 from by omega]
  .simp[a,b,show¬i<k+1 from by omega]
def SC{m:Nat}(b:Vector (BitVec 8) m):BF b []=b:=by
 apply A9;intro i hi;rw[xQ];simp
def afS(G:List (BitVec 8))(k:Nat)(h:k<(lW G).size):(((lW G)[k]'h).toNat:Int)=B8 (G[k]'(by rw[rG]at h;exact h)):=by
 have w:k<G.length:=by rw[rG]at h;exact h
 have i:(lW G).data[k]?=some (UInt8.ofBitVec (G[k]'w)):=by
  have e:(lW G).data=(G.map UInt8.ofBitVec).toArray:=by rw[nH]
  rw[e];simp[w]
 rw[rB]
 congr 1
 have b:(lW G)[k]'h=(lW G).data[k]'h:=rfl;rw[b,(yf.1 i).2];rfl
attribute [go_sem] afS
def Sr(G:List (BitVec 8))(w:World):Calls prog 56 #[.string (lW G)] w (Is w (.tuple (if G.length<=16 then #[.agg (vX G).arr,.int .i64 0]else #[.agg Vl.zero.arr,.int .i64 2]))):=by
 have p:=rG G;by_cases q:16<G.length
 .have F:(16:Int)<G.length:=by omega
  rw[ku kh]
  go_enter func56,ntmps56
  go_wp2
  exact uV (zt O (tD A7 O Vl.yu O jD) CV) O ⟨O,gP⟩
 .have F:¬(16:Int)<G.length:=by omega
  rw[kx kh]
  go_enter func56,ntmps56
  go_wp2
  go_loopw [5] (λi wr=>∃k:Nat,k<=G.length/\i= .int .i64 k/\wr=(w.alloc (.cells Vl.zero.arr 47)).alloc (.cells (Vl.mk G.length (BF (Vector.replicate 16 0#8) (G.take k))).arr 47)) (λi _=>G.length-(intOf i).toNat)
  case atStart=>exact⟨0,by omega,rfl,by rw[List.take_zero,SC]⟩
  case round=>
   obtain⟨k,x,rfl,rfl⟩:=hrel;by_cases Z:k<G.length
   .have I:k<16:=by omega
    have H:=mE (N6 (m:=16) G k Z)
    go_wp2
    go_roundw
    case rel=>exact⟨k+1,by omega,by go_num,by rw[H.out]⟩
    case measure=>simp[intOf];omega
   .obtain rfl:k=G.length:=by omega
    go_wp2
    exact uV (zt O (tD (cs:=(vX G).arr) A7 O Vl.yu O iW) CV) O ⟨O,gP⟩
def Py(G:List (BitVec 8))(w:World):Calls prog 54 #[.string (lW G)] w (Is w (.tuple (if G.length<=8 then #[.agg (vh G).arr,.int .i64 0]else #[.agg kH.zero.arr,.int .i64 2]))):=by
 have p:=rG G;by_cases q:8<G.length
 .have F:(8:Int)<G.length:=by omega
  rw[ku kh]
  go_enter func54,ntmps54
  go_wp2
  exact uV (zt O (tD Kp O kH.yu O jD) CV) O ⟨O,gP⟩
 .have F:¬(8:Int)<G.length:=by omega
  rw[kx kh]
  go_enter func54,ntmps54
  go_wp2
  go_loopw [5] (λi wr=>∃k:Nat,k<=G.length/\i= .int .i64 k/\wr=(w.alloc (.cells kH.zero.arr 113)).alloc (.cells (kH.mk G.length (BF (Vector.replicate 8 0#8) (G.take k))).arr 113)) (λi _=>G.length-(intOf i).toNat)
  case atStart=>exact⟨0,by omega,rfl,by rw[List.take_zero,SC]⟩
  case round=>
   obtain⟨k,x,rfl,rfl⟩:=hrel;by_cases Z:k<G.length
   .have I:k<8:=by omega
    have H:=mE (N6 (m:=8) G k Z)
    go_wp2
    go_roundw
    case rel=>exact⟨k+1,by omega,by go_num,by rw[H.out]⟩
    case measure=>simp[intOf];omega
   .obtain rfl:k=G.length:=by omega
    go_wp2
    exact uV (zt O (tD (cs:=(vh G).arr) Kp O kH.yu O (by simp[go_sem,C0,vh])) CV) rfl ⟨rfl,gP⟩
def BW(r:BitVec 32):BitVec 32:=if r.getLsbD 0 then(r>>>1)^^^0xedb88320#32 else r>>>1
def aaC(a b:BitVec 32):BW (a^^^b)=BW a^^^BW b:=by
 unfold BW;rw[QW,BitVec.ushiftRight_xor_distrib];cases a.getLsbD 0<;>cases b.getLsbD 0<;>simp
 .rw[GN]
 .rw[GN,BitVec.xor_comm (b>>>1),GN]
 .rw[GN (a>>>1),BitVec.xor_comm (b>>>1),<-GN 0xedb88320#32,BitVec.xor_self,BitVec.zero_xor]
def Vn(c:BitVec 32):(c>>>1).toNat=c.toNat/2:=by rw[T6,T5]
def Oo(c:BitVec 32):c.getLsbD 0=decide (c.toNat%2=1):=by
 rw[BitVec.getLsbD,GI];simp[Nat.testBit]
def qS:Nat->BitVec 32->BitVec 32
 |0,r=>r
 |n+1,r=>qS n (BW r)
def It(n:Nat)(r:BitVec 32):qS (n+1) r=BW (qS n r):=by
 induction n generalizing r with
 |zero=>rfl
 |succ n y=>rw[qS,y];rfl
def aaB(n:Nat)(a b:BitVec 32):qS n (a^^^b)=qS n a^^^qS n b:=by
 induction n generalizing a b with
 |zero=>rfl
 |succ n y=>simp only[qS];rw[aaC,y]
def Sc(n:Nat)(c:BitVec 32)(h:c.toNat%2^n=0):(qS n c).toNat=c.toNat/2^n:=by
 induction n generalizing c with
 |zero=>simp[qS]
 |succ n y=>
  have X:0<2^n:=Nat.two_pow_pos n
  have b:c.toNat%2=0:=by have:=Nat.mod_mod_of_dvd c.toNat (show 2∣2^(n+1)from⟨2^n,by rw[QV,A3]⟩);rw[h]at this;omega
  have k:(BW c).toNat=c.toNat/2:=by
   unfold BW;rw[Oo,ku jY,Vn]
  have A:(BW c).toNat%2^n=0:=by
   rw[k];have o:2^(n+1)∣c.toNat:=Nat.dvd_of_mod_eq_zero h;obtain⟨q,d⟩:=o;rw[d,QV,A3 (2^n) 2,Nat.mul_assoc,Nat.mul_div_cancel_left _ kh,Nat.mul_mod_right]
  simp only[qS];rw[y _ A,k,Nat.div_div_eq_div_mul,QV,A3]
def Sd(r:BitVec 32)(b:BitVec 8):BitVec 32:=qS 8 (r^^^b.setWidth 32)
def I5(r:BitVec 32):List (BitVec 8)->BitVec 32
 | []=>r
 |b::l=>I5 (Sd r b) l
def Sj(r:BitVec 32)(a b:List (BitVec 8)):I5 r (a++b)=I5 (I5 r a) b:=by
 induction a generalizing r with
 |nil=>rfl
 |cons x a y=>simp only[List.cons_append,I5];rw[y]
def aaQ(r:BitVec 32)(a:List (BitVec 8))(b:BitVec 8):I5 r (a++[b])=Sd (I5 r a) b:=by rw[Sj];rfl
def aaP(r:BitVec 32)(l:List (BitVec 8))(k:Nat)(h:k<l.length):I5 r (l.take (k+1))=Sd (I5 r (l.take k)) l[k]:=by rw[Ko h,aaQ]
def aeT(s:BitVec 32)(l:List (BitVec 8)):BitVec 32:= ~~~I5 (~~~s) l
def adm(l:List (BitVec 8)):BitVec 32:=aeT 0#32 l
def aeZ(z:BitVec 32):z=(z.setWidth 8).setWidth 32^^^((z>>>8)<<<8):=by
 apply GO;intro i hi;simp only[QW,Km,Zx,QX];by_cases c:i<8
 .simp[c,hi]
 .have:8+(i- 8)=i:=by omega
  simp[c,hi];rw[this,BitVec.getLsbD_eq_getElem hi]
def aav(z:BitVec 32):qS 8 z=qS 8 ((z.setWidth 8).setWidth 32)^^^(z>>>8):=by
 conv=>lhs;rw[aeZ z]
 rw[aaB]
 congr 1
 apply Mj;have d:=z.isLt
 have a:((z>>>8)<<<8).toNat=z.toNat/256*256:=by
  rw[Zv,T6,T5,Nat.shiftLeft_eq];omega
 rw[Sc 8 _ (by rw[a];omega),a,T6,T5];omega
def Vo(x:BitVec 32)(c:BitVec 8):Sd x c=qS 8 ((x.setWidth 8^^^c).setWidth 32)^^^(x>>>8):=by
 unfold Sd;rw[aav]
 congr 1
 .congr 2
  apply GO;intro i hi;simp[hi,show i<32 by omega]
 .apply GO;intro i hi;simp only[QX,QW,Km];simp
section
def agr(y:BitVec 32):DZ y/(2:Int)=DZ (y>>>1):=ZJ y 1
def agq(y:BitVec 32):DZ y/(256:Int)=DZ (y>>>8):=ZJ y 8
def ags(a:BitVec 32):bits .xor .u32 (DZ a) 3988292384=DZ (a^^^0xedb88320#32):=by
 have h:DZ 0xedb88320#32=3988292384:=by rw[uW];rfl
 rw[<-h,ZI]
@[irreducible] def lsb(a:BitVec 32):Bool:=a.getLsbD 0
def agt(a:BitVec 32):bits .and .u32 (DZ a) 1=if lsb a then 1 else 0:=by
 unfold lsb;rw[uW];have h:=u32_and_nat a.toNat 1 a.isLt kh;rw[show((1:Nat):Int)=1 from rfl]at h;rw[h,Nat.and_one_is_mod,Oo];by_cases u:a.toNat%2=1
 .simp[u]
 .simp[u];omega
attribute [local go_sem] agr agq ags agt
def Vr(j:Nat)(x:BitVec 32)(h:lsb (qS j x)=true):qS (j+1) x=(qS j x>>>1)^^^0xedb88320#32:=by
 unfold lsb at h;rw[It,BW,kx h]
def Vt(j:Nat)(x:BitVec 32)(h:lsb (qS j x)=false):qS (j+1) x=qS j x>>>1:=by
 unfold lsb at h;rw[It,BW,ku (by rw[h];simp)]
@[irreducible] def sS:Array Value:=Array.replicate 256 (.int .u32 0)
def DU:Nat->Array Value
 |0=>sS
 |k+1=>(DU k).setIfInBounds k (.int .u32 (DZ (qS 8 (BitVec.ofNat 32 k))))
theorem Ho:DU 0=sS:=rfl
theorem Hq(k:Nat):DU (k+1)=(DU k).setIfInBounds k (.int .u32 (DZ (qS 8 (BitVec.ofNat 32 k)))):=rfl
def xy(k:Nat):(DU k).size=256:=by
 induction k with
 |zero=>rw[Ho];unfold sS;simp
 |succ k y=>rw[Hq];simp[y]
def KS(k i:Nat)(hi:i<256):(DU k)[i]?=some (if i<k then .int .u32 (DZ (qS 8 (BitVec.ofNat 32 i)))else .int .u32 0):=by
 induction k with
 |zero=>rw[Ho];unfold sS;simp[hi]
 |succ k y=>
  rw[Hq,CL];by_cases w:k=i
  .subst w;rw[kx O,kx (by rw[xy];exact hi),kx kh]
  .rw[ku w,y];by_cases h:i<k
   .rw[kx h,kx kh]
   .rw[ku h,ku kh]
def R7(k:Nat):mA (DU k)=true:=by
 unfold mA;rw[Array.all_eq_true];intro i hi;have a:i<256:=by rw[xy]at hi;exact hi
 have h:=KS k i a;rw[Array.getElem?_eq_getElem hi]at h;injection h with h;rw[h];split<;>rfl
def MW:Array Value:=DU 256
theorem adi:MW=DU 256:=rfl
def NL:MW.size=256:=xy _
def adg:mA MW=true:=R7 _
def adh(x:BitVec 8):MW[x.toNat]?=some (.int .u32 (DZ (qS 8 (x.setWidth 32)))):=by
 have j:=x.isLt;unfold MW;rw[KS 256 x.toNat j,kx j];have e:BitVec.ofNat 32 x.toNat=x.setWidth 32:=by apply Mj;simp
 rw[e]
def MY(w:World)(o:Value):(Eh 387 true o).run prog w= .ok (.pointer (some ⟨w.heap.size,0,none⟩)) (w.alloc (.cells sS 387)):=by
 unfold sS;exact HA (z:=.agg (Array.replicate 256 (.int .u32 0))) j6 w o
def zW:sS.size=256:=by unfold sS;simp
def aay(b off:Nat)(cs:Array Value)(w:World)(o:cs.size=256)(a:mA cs=true):
 (D3 387 (.pointer (some ⟨b,off,none⟩)) (.agg cs)).run prog w=Ld ((mQ w b off 256).isSome&&uk w b) (.ok () (mw w b off cs)) ((KX 387 (.pointer (some ⟨b,off,none⟩)) (.agg cs)).run prog w):=
 Hw (P:=prog) (t:=387) (n:=256) j6 b off cs w o a
def ae0(b off:Nat)(w:World):(Ea 387 (.pointer (some ⟨b,off,none⟩))).run prog w=Ci (mQ w b off 256) w ((Lw 387 (.pointer (some ⟨b,off,none⟩))).run prog w):=
 Hx (P:=prog) (t:=387) (n:=256) underlying387 O j6 b off w
def aly(v:Value):Instr.loadAt 387 v=Ea 387 v:=Lv _ _
def akI(a v:Value):Instr.storeAt 387 a v=D3 387 a v:=KW _ _ _
def ame(h:Bool)(v:Value):Instr.alloc 387 h v=Eh 387 h v:=Mm _ _ _
def ahL(k:Nat):mD (DU k) 0 256=some (DU k):=pC _ _ (xy k)
def Sk:mD sS 0 256=some sS:=pC _ _ zW
def I1(k:Nat):lY sS 0 (DU k)=DU k:=ug _ _ (by rw[xy,zW])
def Hv:lY sS 0 MW=MW:=ug _ _ (by rw[NL,zW])
def ab3(k:Nat):IntKind.u32.wrap (k:Int)=DZ (BitVec.ofNat 32 k):=by
 rw[IntKind.wrap_u32',uW,BitVec.toNat_ofNat];omega
attribute [local irreducible] DU MW
attribute [local go_sem↓] aly akI ame
attribute [local go_sem] MY aay ae0
attribute [local go_sem] ahL Sk I1 Hv xy R7 NL adg
def aaA(w:World):Calls prog 298 #[] w (Is w (.agg MW)):=by
 go_enter func298,ntmps298
 go_wp2
 go_loopw [5] (λi wr=>∃k:Nat,k<=256/\i= .int .i64 k/\wr=(w.alloc (.cells sS 387)).alloc (.cells (DU k) 387)) (λi _=>256-(intOf i).toNat)
 case atStart=>exact⟨0,by omega,rfl,by rw[Ho]⟩
 case round=>
  obtain⟨k,y,rfl,rfl⟩:=hrel;by_cases Z:k<256
  .have e:=ab3 k;have t:=KS k k Z;rw[ku kh]at t;have z:(0:Int)<=(k:Int):=eY;have q:(k:Int)<256:=eY
   go_wp2
   have G:=mE t;clear t e
   go_loop [3,10] (λx i=>∃j:Nat,j<=8/\i= .int .i64 j/\x= .int .u32 (DZ (qS j (BitVec.ofNat 32 k)))) (λ_ i=>8-(intOf i).toNat)
   case atStart=>exact⟨0,by omega,rfl,rfl⟩
   case round=>
    obtain⟨j,l,rfl,rfl⟩:=hrel;by_cases m:j<8
    .cases hb:lsb (qS j (BitVec.ofNat 32 k))
     .have o:=mE (Vt j _ hb)
      go_wp2
      go_round
      case rel=>exact⟨j+1,by omega,by go_num,by rw[o.out]⟩
      case measure=>simp[intOf];omega
     .have o:=mE (Vr j _ hb)
      go_wp2
      go_round
      case rel=>exact⟨j+1,by omega,by go_num,by rw[o.out]⟩
      case measure=>simp[intOf];omega
    .obtain rfl:j=8:=by omega
     have t:=G.out
     go_wp2
     go_roundw
     case rel=>exact⟨k+1,by omega,by go_num,by rw[Hq]⟩
     case measure=>simp[intOf];omega
  .obtain rfl:k=256:=by omega
   go_wp2
   exact uV (xA O (tD (cs:=DU 256) (n:=256) underlying387 O j6 O (by go_simp))) rfl ⟨by rw[adi],((pr.refl w).alloc _).alloc _⟩
def aaw(x:BitVec 32)(c:BitVec 8):MW[bn (x.setWidth 8^^^c)]?=some (.int .u32 (DZ (qS 8 ((x.setWidth 8^^^c).setWidth 32)))):=by
 rw[afV];exact adh _
def aeS(r:BitVec 32)(v:Value)(I:List (BitVec 8))(w:World)(h:Sl be 1 w v I):
 Calls prog 287 #[.int .u32 (DZ r),v] w (Is w (.int .u32 (DZ (aeT r I)))):=by
 obtain⟨A,cap,rfl,j,a,Y⟩:=h;unfold maxLen at a
 go_enter func287,ntmps287
 go_wp2_with (go_at_call 298;refine(aaA _).mono ?_;rintro e J ⟨rfl,H⟩)
 have q:=Y.ext H;have H1:=mE H;clear Y H
 go_loop [6,14] (λx i=>∃k:Nat,k<=I.length/\i= .int .i64 k/\x= .int .u32 (DZ (I5 (~~~r) (I.take k)))) (λ_ i=>I.length-(intOf i).toNat)
 case atStart=>exact⟨0,by omega,rfl,rfl⟩
 case round=>
  obtain⟨k,y,rfl,rfl⟩:=hrel;by_cases Z:k<I.length
  .obtain⟨b,off,rfl,hb,u⟩:=q kh;have R:=MC.aj4 u Z;have o:=mE ((aaP (~~~r) I k Z).trans (Vo _ _));have s:=aaw (I5 (~~~r) (I.take k)) I[k];clear u q
   go_wp2
   go_round
   case rel=>exact⟨k+1,by omega,by go_num,by rw[o.out,BitVec.setWidth_xor]⟩
   case measure=>simp[intOf];omega
  .obtain rfl:k=I.length:=by omega
   go_wp2
   go_ret;exact⟨by simp[aeT],H1.out.alloc _⟩
def ahz(v:Value)(I:List (BitVec 8))(w:World)(h:Sl be 1 w v I):
 Calls prog 262 #[v] w (Is w (.int .u32 (DZ (adm I)))):=by
 have i:=mE (show(0:Int)=DZ 0#32 by rw[uW];rfl)
 go_enter func262,ntmps262
 go_wp2_with fail
 rw[i.out];refine(aeS _ _ _ _ h).mono ?_;rintro e J ⟨rfl,H⟩
 go_wp2
 go_ret;exact⟨O,H⟩
end
