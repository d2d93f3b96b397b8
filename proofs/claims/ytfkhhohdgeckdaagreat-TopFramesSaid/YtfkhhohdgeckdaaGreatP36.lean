/- Part of the proof, without conditions. -/
import Derived.Test.YtfkhhohdgeckdaaGreatP33
namespace Go.Proofs.YtfkhhohdgeckdaaGreat
open Go RowKit Proofs.Tryz
set_option linter.all false
set_option maxRecDepth 100000
set_option maxHeartbeats 16000000
variable {N:Nat}
def mT.TX{H:kG}(h:H.Bd N)(r:mT):(r.above H).2.Bd (N+1):=by
 unfold mT.above;split
 .split
  .exact h.mono (oS N)
  .exact h.leave _ _
 .exact h.leave _ _
def mT.L9{H:kG}(h:H.Bd N)(r:mT):(r.below H).2.Bd (N+1):=h.leave _ _
def mT.EK{H:kG}(h:H.Bd N)(r:mT)(e:Int):(r.fin H e).2.Bd (N+1):=mT.TX h r
def mT.abL{H:kG}(h:H.Bd N)(r:mT)(p:Nd):(r.choose H p).2.Bd (N+1):=by
 unfold mT.choose;split
 .exact mT.EK h r 0
 .split
  .exact h.mono (oS N)
  .split
   .exact mT.EK h r 0
   .exact h.mono (oS N)
def mT.aiY{H:kG}(h:H.Bd N)(r:mT)(p c:Nd):(r.push H p c).2.Bd (N+2):=by
 unfold mT.push;split
 .exact h.mono kh
 .split
  .exact mT.EK (mT.L9 ((h.set _ _ _).set _ _ _) r) _ 0
  .split
   .exact h.mono kh
   .exact(mT.TX h r).mono kh
def mT.af0{H:kG}(h:H.Bd N)(r:mT)(p c:Nd):(r.split H p c).2.Bd (N+2):=by
 unfold mT.split;dsimp only;split
 .refine mT.EK (mT.L9 ?_ r) _ 0;split
  .exact(((h.alloc _ _).set _ _ _).set _ _ _).born _ _ _
  .exact h.alloc _ _
 .exact mT.EK (mT.L9 (h.alloc _ _) r) _ 3
def mT.aiZ{H:kG}(h:H.Bd N)(r:mT)(p:Nd):(r.grow H p).2.Bd (N+1):=by
 unfold mT.grow;dsimp only;split
 .refine mT.EK ?_ r 0;split
  .exact(((h.alloc _ _).set _ _ _).born _ _ _).born _ _ _
  .exact h.alloc _ _
 .exact mT.EK (h.alloc _ _) r 3
def mT.xc{H:kG}(h:H.Bd N)(r:mT):(r.step H).2.Bd (N+2):=by
 unfold mT.step;have b:H.Bd (N+2):=h.mono kh;split
 .exact b
 .split
  .exact(mT.abL h r _).mono kh
  .split
   .exact(h.pin _ _).mono kh
   .split
    .exact(h.load _ _).mono kh
    .split
     .exact(h.take _ _ _).mono kh
     .split
      .exact mT.aiY h r _ _
      .split
       .exact(h.claim _).mono kh
       .split
        .exact(h.claim _).mono kh
        .split
         .exact(h.claim _).mono kh
         .split
          .exact mT.af0 h r _ _
          .split
           .exact(mT.aiZ h r _).mono kh
           .exact b
def o9.TV(w:o9)(H:kG)(r:mT):∃e:Int,w.below H r=if(r.step H).1.pc=11 then(if e=0 then({w with pc:=3,room:=none},(r.step H).2)else w.leave (r.step H).2 e)else({w with room:=some (r.step H).1},(r.step H).2):=⟨_,rfl⟩
def o9.xc{H:kG}(h:H.Bd N)(w:o9)(C:BitVec 64):(w.step H C).1.2.Bd (N+3):=by
 have k:H.Bd (N+3):=h.mono kh;unfold o9.step;split
 .exact k
 .split
  .exact(h.pin _ _).mono kh
  .split
   .exact(h.load _ _).mono kh
   .split
    .exact(h.take _ _ _).mono kh
    .split
     .unfold o9.insert;split
      .exact((h.set _ _ _).leave _ _).mono kh
      .exact k
     .split
      .rename_i r _;dsimp only;obtain⟨e,L⟩:=w.TV H r;rw[L];have I:=mT.xc h r;split
       .split
        .exact I.mono kh
        .exact(I.leave _ _).mono kh
       .exact I.mono kh
      .exact k
structure o9.sd(w:o9):Prop where
 m:w.m.ok=true
 p:0<=w.pc/\w.pc<=5
 r:w.pc=4-> ∃r,w.room=some r
def o9.sd.new{t:Int}{m:lq}(h:m.ok=true):(o9.new t m).sd:=⟨h,by simp[o9.new],by simp[o9.new]⟩
def o9.sd.step{w:o9}(k:w.sd)(H:kG)(C:BitVec 64):(w.step H C).1.1.sd:=by
 unfold o9.step;split
 .exact k
 .split
  .dsimp only;unfold o9.pin;dsimp only;split
   .exact⟨k.m,by dsimp only;omega,by dsimp only;omega⟩
   .split
    .exact⟨k.m,by dsimp only;omega,by dsimp only;omega⟩
    .exact k
  .split
   .exact⟨k.m,by simp[o9.load],by simp[o9.load]⟩
   .split
    .exact⟨k.m,by simp[o9.take],by simp[o9.take]⟩
    .split
     .unfold o9.insert;split
      .exact⟨k.m,by simp[o9.leave],by simp[o9.leave]⟩
      .exact⟨k.m,by dsimp only;omega,λ_=>⟨_,rfl⟩⟩
     .have A:w.pc=4:=by have:=k.p;omega
      split
      .rename_i r _;dsimp only;obtain⟨e,L⟩:=w.TV H r;rw[L];split
       .split
        .exact⟨k.m,by dsimp only;omega,by dsimp only;omega⟩
        .exact⟨k.m,by simp[o9.leave],by simp[o9.leave]⟩
       .exact⟨k.m,k.p,λ_=>⟨_,rfl⟩⟩
      .exact k
def qf.xc{H:kG}(h:H.Bd N)(f:qf):(f.step H).2.Bd (N+3):=by
 have k:H.Bd (N+3):=h.mono kh;unfold qf.step;split
 .exact k
 .split
  .exact(h.pin _ _).mono kh
  .split
   .exact(h.load _ _).mono kh
   .split
    .exact(h.take _ _ _).mono kh
    .split
     .unfold qf.look;split
      .exact k
      .exact(h.leave _ _).mono kh
     .split
      .split
       .rename_i r _;exact(mT.xc h r).mono kh
       .exact k
      .exact k
structure qf.sd(N:Int)(f:qf):Prop where
 n:0<=f.rounds/\f.rounds<=N
 g:0<=f.Cu/\f.Cu<=N
 r:f.pc=5-> ∃r,f.room=some r
def qf.sd.new(t:Int):(qf.new t).sd 0:=⟨by simp[qf.new],by simp[qf.new],by simp[qf.new]⟩
def qf.sd.mono{f:qf}{N M:Int}(k:f.sd N)(h:N<=M):f.sd M:=⟨by have:=k.n;omega,by have:=k.g;omega,k.r⟩
def qf.sd.round{f:qf}{N:Int}(k:0<=f.rounds/\f.rounds<=N)(k':0<=f.Cu/\f.Cu<=N)(g:Bool):(f.round g).sd (N+1):=by
 refine⟨by simp only[qf.round];omega,?_,by simp[qf.round]⟩;simp only[qf.round];split<;>omega
def qf.sd.step{f:qf}{N:Int}(k:f.sd N)(H:kG):(f.step H).1.sd (N+1):=by
 have e:f.sd (N+1):=k.mono kh;unfold qf.step;split
 .exact e
 .split
  .unfold qf.pin;dsimp only;split
   .exact⟨e.n,e.g,by dsimp only;omega⟩
   .split
    .exact⟨e.n,e.g,by dsimp only;omega⟩
    .exact⟨e.n,e.g,by dsimp only;omega⟩
  .split
   .exact⟨e.n,e.g,by dsimp only;omega⟩
   .split
    .exact⟨e.n,e.g,by dsimp only;omega⟩
    .split
     .unfold qf.look;split
      .exact⟨e.n,e.g,λ_=>⟨_,rfl⟩⟩
      .exact qf.sd.round (f:={f with pinned:=false}) k.n k.g false
     .split
      .split
       .unfold qf.below;dsimp only;split
        .exact qf.sd.round k.n k.g _
        .exact⟨e.n,e.g,λ_=>⟨_,rfl⟩⟩
       .exact e
      .exact e
def qP.xc{H:kG}(h:H.Bd N)(w:qP):(w.step H).2.Bd (N+3):=by
 have k:H.Bd (N+3):=h.mono kh;unfold qP.step;split
 .exact k
 .split
  .exact(h.pin _ _).mono kh
  .split
   .exact(h.load _ _).mono kh
   .split
    .exact(h.take _ _ _).mono kh
    .split
     .exact(h.leave _ _).mono kh
     .unfold qP.look;split
      .exact k
      .exact(h.leave _ _).mono kh
def afY{n:Nd}(h:n.In){k:kH}{m:lq}(T:rO k n.ms=some m):m.ok=true:=h.gd.bf.ok m (DB T)
def qP.Ok.look{w:qP}(k:w.Ok){H:kG}(x:H.Ok):(w.look H).1.Ok:=by
 unfold qP.look;split
 .unfold qP.down qP.Ok qP.got;dsimp only;split
  .rename_i m T;intro _;have a:=afY (x.nd w.block) T;split
   .rename_i N;exact IN a (k N)
   .exact a
  .exact k
 .exact k
def qP.Ok.step{w:qP}(k:w.Ok){H:kG}(x:H.Ok):(w.step H).1.Ok:=by
 unfold qP.step;split
 .exact k
 .split
  .dsimp only;split
   .exact k
   .split<;>exact k
  .split
   .exact k
   .split
    .exact k
    .split
     .exact k
     .exact k.look x
