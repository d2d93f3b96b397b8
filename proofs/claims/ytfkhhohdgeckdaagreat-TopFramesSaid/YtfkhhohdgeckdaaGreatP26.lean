/- Part of the proof, without conditions. -/
import Derived.Test.YtfkhhohdgeckdaaGreatP24
namespace Go.Proofs.YtfkhhohdgeckdaaGreat
open Go RowKit Proofs.Tryz
set_option linter.all false
set_option maxRecDepth 100000
set_option maxHeartbeats 16000000
def qi(n:Nat):Nat->List (List qn)->List Int->List (List qn)
 |_,r,[]=>r
 |i,r,v::vs=>qi n (i+1) (r.set (i%n) (r.getD (i%n) []++[pd v])) vs
def oN(l:List Int)(n:Nat):List (List qn):=qi n 0 (List.replicate n []) (l.take (n*24))
theorem N7(n:Nat):∀(vs:List Int) (i:Nat) (r:List (List qn)),(qi n i r vs).length=r.length
 | [],i,r=>rfl
 |v::vs,i,r=>by unfold qi;rw[N7 n vs];simp
def Lx(l:List Int)(n:Nat):(oN l n).length=n:=by unfold oN;rw[N7];simp
variable {U:u0}{w:World}{B:nE}{H:Hp}{g n:Nat}{e:TypeId}
def ze{m:Nat}(a:H g=some (.tail e (n+1) 0))(d:B g=none):∀(o C:List AV) {cs:List Value},Rd U w (.agg m (o++ .v (.slice none 0 0)::C)) B H cs->Rd U w (.agg m (o++ .sl (some g) (n+1) []::C)) B H cs:=by
 have v:∀{c:List Value},Rd U w (.v (.slice none 0 0)) B H c->Rd U w (.sl (some g) (n+1) []) B H c:=by
  intro c h;simp only[Rd]at h⊢;obtain⟨_,rfl⟩:=h
  exact⟨none,0,rfl,kK _,kO _,λh=>absurd h ki,λt s=>by
   injection s with s;subst s;exact⟨e,0,a,kK _,λ_=>⟨λ_=>⟨O,rfl⟩,λb hb=>by rw[d]at hb;cases hb⟩⟩⟩
 have R:∀(o C:List AV) {cs:List Value},qQ U w (o++ .v (.slice none 0 0)::C) B H cs->qQ U w (o++ .sl (some g) (n+1) []::C) B H cs:=by
  intro o C
  induction o with
  |nil=>
   intro cs h;simp only[List.nil_append,qQ]at h⊢;obtain⟨c1,c2,e,f,k2⟩:=h;exact⟨c1,c2,e,v f,k2⟩
  |cons x o y=>
   intro cs h;simp only[List.cons_append,qQ]at h⊢;obtain⟨c1,c2,e,f,k2⟩:=h;exact⟨c1,c2,e,f,y k2⟩
 intro o C cs h;simp only[Rd]at h⊢;exact⟨h.1,R o C h.2⟩
def Qv{x:Value}(j:sB x=true)(m:Nat){cs:List Value}(h:Rd U w (.arr m 1 (List.replicate m (.v x))) B H cs):Rd U w (.agg m (List.replicate m (.v x))) B H cs:=by
 simp only[Rd]at h⊢;refine⟨h.1,?_⟩
 have R:∀(k:Nat) {cs:List Value},ov U w 1 (List.replicate k (.v x)) B0 H0 cs->qQ U w (List.replicate k (.v x)) B H cs:=by
  intro k
  induction k with
  |zero=>intro cs h;simpa[qQ,ov]using h
  |succ k y=>
   intro cs h;rw[GM]at h⊢;simp only[qQ,ov]at h⊢;obtain⟨c1,c2,e,_,f,k2⟩:=h;exact⟨c1,c2,e,by simpa only[Rd]using f,y k2⟩
 exact R m h.2
variable {E:su}{nt:Nat}
def lL.yT{T:List (Nat×AV)}{H:List (Nat×Bx)}(b g n:Nat)(e:TypeId){x0 y0:AV}(p:kV b H=some (.var x0))(u:kV g H=none)(himp:∀U w B H' cs,H' g=some (.tail e (n+1) 0)->B g=none->Rd U w x0 B H' cs->Rd U w y0 B H' cs):lL E nt ⟨T,H⟩ ⟨T,(b,.var y0)::(g,.tail e (n+1) 0)::H⟩:=λB a w r=>by
 have I:=r.token (g:=g) (n:=n+1) (e:=e) u (qh n);have W:b≠g:=λe=>by subst e;rw[u]at p;cases p
 have F:St.h ⟨T,(b,Bx.var y0)::(g,.tail e (n+1) 0)::H⟩=l9 (l9 (St.h ⟨T,H⟩) g (.tail e (n+1) 0)) b (.var y0):=by
  show(λk=>kV k ((b,Bx.var y0)::(g,.tail e (n+1) 0)::H))=_
  rw[kZ,kZ];rfl
 refine⟨B,?_⟩;rw[F];generalize K:l9 (St.h ⟨T,H⟩) g (.tail e (n+1) 0)=H1 at I⊢;have X:H1 b=some (.var x0):=by rw[<-K,kF _ _ W];exact p
 have Z:H1 g=some (.tail e (n+1) 0):=by rw[<-K];exact kB _ _ _
 have hBg:B g=none:=r.x3 g u
 have Y:∀j,pH (l9 H1 b (.var y0) j)=pH (H1 j)/\nR (l9 H1 b (.var y0) j)=nR (H1 j):=λj=>by
  by_cases c:j=b
  .subst c;rw[kB,X];exact⟨O,rfl⟩
  .rw[kF _ _ c];exact⟨O,rfl⟩
 have J:kI E B (l9 H1 b (.var y0))=kI E B H1:=by
  funext k o;refine propext (uQ rq (uQ rq (qO λj=>rK λ_=>?_)));by_cases c:j=b
  .subst c;rw[kB,X]
  .rw[kF _ _ c]
 have V:qt w w B B H1 (l9 H1 b (.var y0)):=by
  refine⟨λ_ _ _ h=>h,λj h=>(Y j).1.trans h,λt n len A cap h=>?_,sC (nK.refl (λ_ _=>False) w) λj e' R G h=>?_,λj h=>?_⟩
  .obtain⟨e',k,d,f⟩:=h;refine⟨e',k,?_,f⟩;rw[kF]
   .exact d
   .rintro rfl;rw[X]at d;cases d
  .refine⟨?_,rfl⟩;rw[kF]
   .exact h
   .rintro rfl;rw[X]at h;cases h
  .refine⟨?_,rfl⟩;rw[kF]
   .exact h
   .rintro rfl;rw[X]at h;cases h
 have rd:∀(x:AV) {c:List Value},Rd (kI E B H1) w x B H1 c->Rd (kI E B (l9 H1 b (.var y0))) w x B (l9 H1 b (.var y0)) c:=λx c h=>by
  rw[J];exact n6 (nK.refl _ w) (λ_ _ _ h=>h) x V h
 refine⟨I.nt,I.df,λs x l=>?_,λj bx h=>?_,λj h=>?_,λy z k d f=>?_,I.left,λj h=>?_,I.fx.go O (kK _) λj b' d f=>.inl ⟨(Y j).2▸d,f⟩⟩
 .obtain⟨v,i,k2⟩:=I.tmp s x l;exact⟨v,i,by rw[J];exact vE (nK.refl _ w) (λ_ _ _ h=>h) V k2⟩
 .by_cases c:j=b
  .subst c;rw[kB]at h;injection h with h;subst h;obtain⟨k,cs,t,i,k2,k3,m⟩:=I.box j _ X;refine⟨k,cs,t,i,k2,?_,m⟩;exact himp _ _ _ _ _ (by rw[kF _ _ (pv W)];exact Z) hBg (rd x0 k3)
  .rw[kF _ _ c]at h;have hb:=I.box j bx h;cases bx with
   |var x=>
    obtain⟨k,cs,t,i,k2,k3,m⟩:=hb;exact⟨k,cs,t,i,k2,rd x k3,m⟩
   |froz x=>
    obtain⟨k,cs,i,k2,k3,m⟩:=hb;exact⟨k,cs,i,k2,by rw[J];exact k3,rd x m⟩
   |tail e n k=>exact hb
   |hid=>exact hb
   |ext M=>exact⟨hb.1,hb.2.go O O (λ_ _ _=>rfl) (nK.refl _ w) (λb' o _ h=>by rw[J]at h;exact h)⟩
   |own e' R G=>
    refine⟨hb.1,hb.2.1,hb.2.2.imp id ?_⟩;rintro⟨k,cur,cap,c,N,m2,q,C,D,P,L,S⟩;exact⟨k,cur,cap,c,N,m2,q,C,D,P,by rw[J];exact L,S⟩
 .by_cases c:j=b
  .subst c;rw[kB]at h;cases h
  .rw[kF _ _ c]at h;exact I.x3 j h
 .rw[(Y y).2]at d;rw[(Y z).2]at f;exact I.inj y z k d f
 .by_cases c:j=b
  .subst c;rw[kB]at h;cases h
  .rw[kF _ _ c]at h;exact I.qa j h
def lL.ahH{T:List (Nat×AV)}{H:List (Nat×Bx)}(s g:Nat){n:Nat}{J zs:List AV}(p:kV s T=some (.seg g 0 1 [] n n))(y:kV g H=some (.froz (.agg n J)))(l:∀H,BL H J zs)(f:∀z∈zs,lE z=1)(i:zs.length=n):
 lL E nt ⟨T,H⟩ ⟨(s,.sl none 1 zs)::T,H⟩:=λB a w r=>by
 refine⟨B,r.nt,r.df,λC x j=>?_,r.box,r.x3,r.inj,r.left,r.qa,r.fx⟩;have D:St.t ⟨(s,AV.sl none 1 zs)::T,H⟩=l9 (St.t ⟨T,H⟩) s (.sl none 1 zs):=kZ _ _ _;rw[D]at j;by_cases h:C=s
 .subst h;rw[kB]at j;injection j with j;subst j;obtain⟨v,c,d⟩:=r.tmp C _ p;refine⟨v,c,?_⟩;have k:=ml ki d O;simp only[Rd]at k;obtain⟨_,b,e,k2,k3,q⟩:=k;injection q with q;subst q;obtain⟨b',cs,A,m,U,R⟩:=r.box g _ y;rw[e]at A;injection A with A;subst A
  obtain⟨M,_⟩:=Wk.agg (n:=n) (l (St.h ⟨T,H⟩)) _ _ _ _ R;simp only[Rd]at M;have S:=Bg M.2 f;have F:cs.length=n:=M.1;rw[kJ ki];refine⟨[_],?_,rfl⟩;simp only[Rd];refine⟨_,n,by rw[i],by rw[i];exact kK _,k2,λ_=>⟨b,0,cs,rfl,by rw[i,uR,<-F];exact m,λo o1 o2=>?_,S⟩,λt u=>by cases u⟩;rw[i,uR]at o2;exact U o o1 kh
 .rw[kF _ _ h]at j;exact r.tmp C x j
variable {ops:Array Oper}{T:Nat->Option AV}{d:Option Nat}{ty:TypeId}{pos:String}{af:Array Edge}{gd:Option (Nat×Bool)}
variable {t:TypeId}{ea:Bool}{x y:Operand}{k k':IntKind}
section
def Jw{bytes:Nat}(o:lK nt (some g)=true)(p:kM.ti t=some (.sl e (0+1) bytes ea))(d:lB prog e (.v (.slice none 0 0)))(j:kv T x=some (.v (.int k (n:Nat))))(F:kv T y=some (.v (.int k' (n:Nat))))(u:H g=none)(c:bytes*n<=140737488355328)(B:n<=9223372036854775807):
 kE prog E nt ops ⟨some g,.makeSlice t x y,ty,pos,af,gd⟩ T H [] ⟨.seg g 0 1 [] n n,[(g,.var (.arr n 1 (List.replicate n (.v (.slice none 0 0)))))]⟩:=by
 have:=Ys kM (E:=E) (ops:=ops) (ty:=ty) (pos:=pos) (af:=af) (gd:=gd) o p d j F u c B;simpa using this
end
variable {R:Prop}
def ac3{Q:Prop}(k:R)(h:zT R->Q:=by intro kHid;((first|refine Ip ?_|(first|(apply Wb;(focus exact hs);(focus exact ig))|(apply Wv;(focus exact gO);(focus exact ig))|(apply Ws;(focus (exact on_st O O O h7 h7 O));(focus exact ig))|(first|(apply Wv;(focus exact gA);(focus exact ig))|(apply Wb;(focus exact gD);(focus exact ig))|(apply Ws;(focus exact ho);(focus exact ig))|(refine sN gS O ?_)|refine Mx O O iK ?_|refine My O O iK ?_|(refine Mz O O jh ?_)|(refine tc _ j5 ?_)))));exact kHid.out):Q:=h ⟨k⟩
def wON{Q:Prop}(k:R)(h:zT R->Q:=by intro kHid;(repeat refine ac3 ?_);exact kHid.out):Q:=h ⟨k⟩
def NG{Q:Prop}(k:R)(h:zT R->Q:=by intro kHid;(repeat (first|refine Ip ?_|(first|(apply Wv;(focus (first|exact t9 O O O O kh|exact sI BM O O O O O O O));(focus exact ig))|(apply Wb;(focus (first|exact oR BM O O|exact qo BM O O O O O O O O|exact qo zero_Cal O O O O O O O O|exact qo q9 O O O O O O O O));(focus exact ig))|(first|(apply Wb;(focus exact hs);(focus exact ig))|(apply Wv;(focus exact gO);(focus exact ig))|(apply Ws;(focus (exact on_st O O O h7 h7 O));(focus exact ig))|(first|(apply Wv;(focus exact gA);(focus exact ig))|(apply Wb;(focus exact gD);(focus exact ig))|(apply Ws;(focus exact ho);(focus exact ig))|(refine sN gS O ?_)|refine Mx O O iK ?_|refine My O O iK ?_|(refine Mz O O jh ?_)|(refine tc _ j5 ?_))))));exact kHid.out):Q:=h ⟨k⟩
def vS:lB prog 52 (.v (.slice none 0 0)):=lR (v:=.slice none 0 0) (n:=1) j6 λU w=>(qV O).2 O
section
attribute [local irreducible] kE lM AW mU lL mG mC lj lT ly kN
def ajc(l:List Int)(z:∀v∈l,-9223372036854775808<=v/\v<=9223372036854775807)(g:l.length<=1000000000000000):mG prog 23 [lJ l,kq 1] (wK (oN l 1)):=by
 refine kR Gh O JF O ki [_] O λE S=>?_;have N:(!true)=false:=rfl;have k:(!false)=true:=rfl
 repeat (first|refine Wb (Jw (n:=1) O O vS O O O kh kh) hP ?_|refine ac3 ?_)
 refine lU (lL.yT (y0:=.agg 1 [.sl (some 101) 4 []]) 8 101 3 57 O O (λU w B H' cs a b I=>ze a b ([]) ([]) (Qv O 1 I))) ?_;refine kU (λx:Nat×List qn=>⟨[(0,lJ l),(1,kq 1),(5,.seg 8 0 1 [] 1 1),(6,kq (x.1:Nat))],[(8,.var (.agg 1 [.sl (some 101) 4 (x.2.map qn.av)])),(101,.tail 57 4 x.2.length)]⟩) (λx=>x.1<=(l.take 24).length/\x.2.length<=x.1/\qi 1 x.1 [x.2] ((l.take 24).drop x.1)=oN l 1) (λx=>(l.take 24).length- x.1) (0,[]) ⟨kO _,kK _,rfl⟩ ed (λx j=>?_);obtain⟨i,r0⟩:=x;obtain⟨hi,t,hF⟩:=j;dsimp only at hi t hF⊢;have X:(l.take 24).length=min 24 l.length:=n5;by_cases c1:i<l.length
 .by_cases c2:i<24
  .have u:(i:Int)<24:=by omega
   have Z:i<(l.take 24).length:=eY;have A:=z l[i] (ng c1);have D:=ZE l[i] A;have G:(l.take 24)[i]=l[i]:=Mh;rw[ts Z,G]at hF;have W:=kD Gz (D);have C:i%1=0:=eY;have y:=C
   .have hF:qi 1 (i+1) [(r0++[pd l[i]])] ((l.take 24).drop (i+1))=oN l 1:=by
     rw[<-hF];show _=qi 1 (i+1) ([r0].set (i%1) ([r0].getD (i%1) []++[pd l[i]])) _;rw[y];rfl
    have F:(i:Int)%1=((0:Nat):Int):=eY;refine NG ?_;rw[F];refine Wv (t9 (i:=0) O O O O kh) hP ?_;refine NG ?_;refine⟨(i+1,(r0++[pd l[i]])),⟨Z,by simp;omega,hF⟩,by show(l.take 24).length-(i+1)<(l.take 24).length- i;omega,?_⟩;exact ed
  .have u:¬(i:Int)<24:=by omega
   exact aT
 .have P:¬(i:Int)<(l.length:Nat):=by omega
  exact aT
def ajb(l:List Int)(y:∀v∈l,-9223372036854775808<=v/\v<=9223372036854775807)(g:l.length<=1000000000000000):mG prog 23 [lJ l,kq 2] (wK (oN l 2)):=by
 refine kR Gh O JF O ki [_] O λE S=>?_;have N:(!true)=false:=rfl;have k:(!false)=true:=rfl
 repeat (first|refine Wb (Jw (n:=2) O O vS O O O kh kh) hP ?_|refine ac3 ?_)
 refine lU (lL.yT (y0:=.agg 2 [.sl (some 101) 4 [],.v (.slice none 0 0)]) 8 101 3 57 O O (λU w B H' cs a b I=>ze a b ([]) ([.v (.slice none 0 0)]) (Qv O 2 I))) ?_;refine lU (lL.yT (y0:=.agg 2 [.sl (some 101) 4 [],.sl (some 102) 4 []]) 8 102 3 57 O O (λU w B H' cs a b I=>ze a b ([.sl (some 101) 4 []]) ([]) (I))) ?_;refine kU (λx:Nat×List qn×List qn=>⟨[(0,lJ l),(1,kq 2),(5,.seg 8 0 1 [] 2 2),(6,kq (x.1:Nat))],[(8,.var (.agg 2 [.sl (some 101) 4 (x.2.1.map qn.av),.sl (some 102) 4 (x.2.2.map qn.av)])),(101,.tail 57 4 x.2.1.length),(102,.tail 57 4 x.2.2.length)]⟩) (λx=>x.1<=(l.take 48).length/\x.2.1.length<=x.1/\x.2.2.length<=x.1/\qi 2 x.1 [x.2.1,x.2.2] ((l.take 48).drop x.1)=oN l 2) (λx=>(l.take 48).length- x.1) (0,[],[]) ⟨kO _,kK _,kK _,rfl⟩ ed (λx j=>?_);obtain⟨i,r0,J⟩:=x;obtain⟨hi,t,G,hF⟩:=j;dsimp only at hi t G hF⊢;have X:(l.take 48).length=min 48 l.length:=n5;by_cases c1:i<l.length
 .by_cases c2:i<48
  .have u:(i:Int)<48:=by omega
   have Z:i<(l.take 48).length:=eY;have z:=y l[i] (ng c1);have C:=ZE l[i] z;have D:(l.take 48)[i]=l[i]:=Mh;rw[ts Z,D]at hF;have W:=kD Gz (C);have A:i%2=0∨i%2=1:=eY;rcases A with hk|hk
   .have hF:qi 2 (i+1) [(r0++[pd l[i]]),J] ((l.take 48).drop (i+1))=oN l 2:=by
     rw[<-hF];show _=qi 2 (i+1) ([r0,J].set (i%2) ([r0,J].getD (i%2) []++[pd l[i]])) _;rw[hk];rfl
    have F:(i:Int)%2=((0:Nat):Int):=eY;refine NG ?_;rw[F];refine Wv (t9 (i:=0) O O O O kh) hP ?_;refine NG ?_;refine⟨(i+1,(r0++[pd l[i]]),J),⟨Z,by simp;omega,by show J.length<=i+1;omega,hF⟩,by show(l.take 48).length-(i+1)<(l.take 48).length- i;omega,?_⟩;exact ed
   .have hF:qi 2 (i+1) [r0,(J++[pd l[i]])] ((l.take 48).drop (i+1))=oN l 2:=by
     rw[<-hF];show _=qi 2 (i+1) ([r0,J].set (i%2) ([r0,J].getD (i%2) []++[pd l[i]])) _;rw[hk];rfl
    have F:(i:Int)%2=((1:Nat):Int):=eY;refine NG ?_;rw[F];refine Wv (t9 (i:=1) O O O O kh) hP ?_;refine NG ?_;refine⟨(i+1,r0,(J++[pd l[i]])),⟨Z,by show r0.length<=i+1;omega,by simp;omega,hF⟩,by show(l.take 48).length-(i+1)<(l.take 48).length- i;omega,?_⟩;exact ed
  .have u:¬(i:Int)<48:=by omega
   exact aO
 .have P:¬(i:Int)<(l.length:Nat):=by omega
  exact aO
def aja(l:List Int)(y:∀v∈l,-9223372036854775808<=v/\v<=9223372036854775807)(g:l.length<=1000000000000000):mG prog 23 [lJ l,kq 3] (wK (oN l 3)):=by
 refine kR Gh O JF O ki [_] O λE S=>?_;have N:(!true)=false:=rfl;have k:(!false)=true:=rfl
 repeat (first|refine Wb (Jw (n:=3) O O vS O O O kh kh) hP ?_|refine ac3 ?_)
 refine lU (lL.yT (y0:=.agg 3 [.sl (some 101) 4 [],.v (.slice none 0 0),.v (.slice none 0 0)]) 8 101 3 57 O O (λU w B H' cs a b I=>ze a b ([]) ([.v (.slice none 0 0),.v (.slice none 0 0)]) (Qv O 3 I))) ?_;refine lU (lL.yT (y0:=.agg 3 [.sl (some 101) 4 [],.sl (some 102) 4 [],.v (.slice none 0 0)]) 8 102 3 57 O O (λU w B H' cs a b I=>ze a b ([.sl (some 101) 4 []]) ([.v (.slice none 0 0)]) (I))) ?_;refine lU (lL.yT (y0:=.agg 3 [.sl (some 101) 4 [],.sl (some 102) 4 [],.sl (some 103) 4 []]) 8 103 3 57 O O (λU w B H' cs a b I=>ze a b ([.sl (some 101) 4 [],.sl (some 102) 4 []]) ([]) (I))) ?_;refine kU (λx:Nat×List qn×List qn×List qn=>⟨[(0,lJ l),(1,kq 3),(5,.seg 8 0 1 [] 3 3),(6,kq (x.1:Nat))],[(8,.var (.agg 3 [.sl (some 101) 4 (x.2.1.map qn.av),.sl (some 102) 4 (x.2.2.1.map qn.av),.sl (some 103) 4 (x.2.2.2.map qn.av)])),(101,.tail 57 4 x.2.1.length),(102,.tail 57 4 x.2.2.1.length),(103,.tail 57 4 x.2.2.2.length)]⟩) (λx=>x.1<=(l.take 72).length/\x.2.1.length<=x.1/\x.2.2.1.length<=x.1/\x.2.2.2.length<=x.1/\qi 3 x.1 [x.2.1,x.2.2.1,x.2.2.2] ((l.take 72).drop x.1)=oN l 3) (λx=>(l.take 72).length- x.1) (0,[],[],[]) ⟨kO _,kK _,kK _,kK _,rfl⟩ ed (λx j=>?_);obtain⟨i,r0,J,o⟩:=x;obtain⟨hi,t,G,P,hF⟩:=j;dsimp only at hi t G P hF⊢;have X:(l.take 72).length=min 72 l.length:=n5;by_cases c1:i<l.length
 .by_cases c2:i<72
  .have u:(i:Int)<72:=by omega
   have Z:i<(l.take 72).length:=eY;have z:=y l[i] (ng c1);have C:=ZE l[i] z;have D:(l.take 72)[i]=l[i]:=Mh;rw[ts Z,D]at hF;have W:=kD Gz (C);have A:i%3=0∨i%3=1∨i%3=2:=eY;rcases A with hk|hk|hk
   .have hF:qi 3 (i+1) [(r0++[pd l[i]]),J,o] ((l.take 72).drop (i+1))=oN l 3:=by
     rw[<-hF];show _=qi 3 (i+1) ([r0,J,o].set (i%3) ([r0,J,o].getD (i%3) []++[pd l[i]])) _;rw[hk];rfl
    have F:(i:Int)%3=((0:Nat):Int):=eY;refine NG ?_;rw[F];refine Wv (t9 (i:=0) O O O O kh) hP ?_;refine NG ?_;refine⟨(i+1,(r0++[pd l[i]]),J,o),⟨Z,by simp;omega,by show J.length<=i+1;omega,by show o.length<=i+1;omega,hF⟩,by show(l.take 72).length-(i+1)<(l.take 72).length- i;omega,?_⟩;exact ed
   .have hF:qi 3 (i+1) [r0,(J++[pd l[i]]),o] ((l.take 72).drop (i+1))=oN l 3:=by
     rw[<-hF];show _=qi 3 (i+1) ([r0,J,o].set (i%3) ([r0,J,o].getD (i%3) []++[pd l[i]])) _;rw[hk];rfl
    have F:(i:Int)%3=((1:Nat):Int):=eY;refine NG ?_;rw[F];refine Wv (t9 (i:=1) O O O O kh) hP ?_;refine NG ?_;refine⟨(i+1,r0,(J++[pd l[i]]),o),⟨Z,by show r0.length<=i+1;omega,by simp;omega,by show o.length<=i+1;omega,hF⟩,by show(l.take 72).length-(i+1)<(l.take 72).length- i;omega,?_⟩;exact ed
   .have hF:qi 3 (i+1) [r0,J,(o++[pd l[i]])] ((l.take 72).drop (i+1))=oN l 3:=by
     rw[<-hF];show _=qi 3 (i+1) ([r0,J,o].set (i%3) ([r0,J,o].getD (i%3) []++[pd l[i]])) _;rw[hk];rfl
    have F:(i:Int)%3=((2:Nat):Int):=eY;refine NG ?_;rw[F];refine Wv (t9 (i:=2) O O O O kh) hP ?_;refine NG ?_;refine⟨(i+1,r0,J,(o++[pd l[i]])),⟨Z,by show r0.length<=i+1;omega,by show J.length<=i+1;omega,by simp;omega,hF⟩,by show(l.take 72).length-(i+1)<(l.take 72).length- i;omega,?_⟩;exact ed
  .have u:¬(i:Int)<72:=by omega
   exact aL
 .have R:¬(i:Int)<(l.length:Nat):=by omega
  exact aL
def ai9(l:List Int)(y:∀v∈l,-9223372036854775808<=v/\v<=9223372036854775807)(g:l.length<=1000000000000000):mG prog 23 [lJ l,kq 4] (wK (oN l 4)):=by
 refine kR Gh O JF O ki [_] O λE S=>?_;have N:(!true)=false:=rfl;have k:(!false)=true:=rfl
 repeat (first|refine Wb (Jw (n:=4) O O vS O O O kh kh) hP ?_|refine ac3 ?_)
 refine lU (lL.yT (y0:=.agg 4 [.sl (some 101) 4 [],.v (.slice none 0 0),.v (.slice none 0 0),.v (.slice none 0 0)]) 8 101 3 57 O O (λU w B H' cs a b I=>ze a b ([]) ([.v (.slice none 0 0),.v (.slice none 0 0),.v (.slice none 0 0)]) (Qv O 4 I))) ?_;refine lU (lL.yT (y0:=.agg 4 [.sl (some 101) 4 [],.sl (some 102) 4 [],.v (.slice none 0 0),.v (.slice none 0 0)]) 8 102 3 57 O O (λU w B H' cs a b I=>ze a b ([.sl (some 101) 4 []]) ([.v (.slice none 0 0),.v (.slice none 0 0)]) (I))) ?_;refine lU (lL.yT (y0:=.agg 4 [.sl (some 101) 4 [],.sl (some 102) 4 [],.sl (some 103) 4 [],.v (.slice none 0 0)]) 8 103 3 57 O O (λU w B H' cs a b I=>ze a b ([.sl (some 101) 4 [],.sl (some 102) 4 []]) ([.v (.slice none 0 0)]) (I))) ?_;refine lU (lL.yT (y0:=.agg 4 [.sl (some 101) 4 [],.sl (some 102) 4 [],.sl (some 103) 4 [],.sl (some 104) 4 []]) 8 104 3 57 O O (λU w B H' cs a b I=>ze a b ([.sl (some 101) 4 [],.sl (some 102) 4 [],.sl (some 103) 4 []]) ([]) (I))) ?_;refine kU (λx:Nat×List qn×List qn×List qn×List qn=>⟨[(0,lJ l),(1,kq 4),(5,.seg 8 0 1 [] 4 4),(6,kq (x.1:Nat))],[(8,.var (.agg 4 [.sl (some 101) 4 (x.2.1.map qn.av),.sl (some 102) 4 (x.2.2.1.map qn.av),.sl (some 103) 4 (x.2.2.2.1.map qn.av),.sl (some 104) 4 (x.2.2.2.2.map qn.av)])),(101,.tail 57 4 x.2.1.length),(102,.tail 57 4 x.2.2.1.length),(103,.tail 57 4 x.2.2.2.1.length),(104,.tail 57 4 x.2.2.2.2.length)]⟩) (λx=>x.1<=(l.take 96).length/\x.2.1.length<=x.1/\x.2.2.1.length<=x.1/\x.2.2.2.1.length<=x.1/\x.2.2.2.2.length<=x.1/\qi 4 x.1 [x.2.1,x.2.2.1,x.2.2.2.1,x.2.2.2.2] ((l.take 96).drop x.1)=oN l 4) (λx=>(l.take 96).length- x.1) (0,[],[],[],[]) ⟨kO _,kK _,kK _,kK _,kK _,rfl⟩ ed (λx j=>?_)
 obtain⟨i,r0,J,o,m⟩:=x;obtain⟨hi,t,G,P,T,hF⟩:=j;dsimp only at hi t G P T hF⊢;have X:(l.take 96).length=min 96 l.length:=n5;by_cases c1:i<l.length
 .by_cases c2:i<96
  .have u:(i:Int)<96:=by omega
   have Z:i<(l.take 96).length:=eY;have z:=y l[i] (ng c1);have C:=ZE l[i] z;have D:(l.take 96)[i]=l[i]:=Mh;rw[ts Z,D]at hF;have W:=kD Gz (C);have A:i%4=0∨i%4=1∨i%4=2∨i%4=3:=eY;rcases A with hk|hk|hk|hk
   .have hF:qi 4 (i+1) [(r0++[pd l[i]]),J,o,m] ((l.take 96).drop (i+1))=oN l 4:=by
     rw[<-hF];show _=qi 4 (i+1) ([r0,J,o,m].set (i%4) ([r0,J,o,m].getD (i%4) []++[pd l[i]])) _;rw[hk];rfl
    have F:(i:Int)%4=((0:Nat):Int):=eY;refine NG ?_;rw[F];refine Wv (t9 (i:=0) O O O O kh) hP ?_;refine NG ?_;refine⟨(i+1,(r0++[pd l[i]]),J,o,m),⟨Z,by simp;omega,by show J.length<=i+1;omega,by show o.length<=i+1;omega,by show m.length<=i+1;omega,hF⟩,by show(l.take 96).length-(i+1)<(l.take 96).length- i;omega,?_⟩;exact ed
   .have hF:qi 4 (i+1) [r0,(J++[pd l[i]]),o,m] ((l.take 96).drop (i+1))=oN l 4:=by
     rw[<-hF];show _=qi 4 (i+1) ([r0,J,o,m].set (i%4) ([r0,J,o,m].getD (i%4) []++[pd l[i]])) _;rw[hk];rfl
    have F:(i:Int)%4=((1:Nat):Int):=eY;refine NG ?_;rw[F];refine Wv (t9 (i:=1) O O O O kh) hP ?_;refine NG ?_;refine⟨(i+1,r0,(J++[pd l[i]]),o,m),⟨Z,by show r0.length<=i+1;omega,by simp;omega,by show o.length<=i+1;omega,by show m.length<=i+1;omega,hF⟩,by show(l.take 96).length-(i+1)<(l.take 96).length- i;omega,?_⟩;exact ed
   .have hF:qi 4 (i+1) [r0,J,(o++[pd l[i]]),m] ((l.take 96).drop (i+1))=oN l 4:=by
     rw[<-hF];show _=qi 4 (i+1) ([r0,J,o,m].set (i%4) ([r0,J,o,m].getD (i%4) []++[pd l[i]])) _;rw[hk];rfl
    have F:(i:Int)%4=((2:Nat):Int):=eY;refine NG ?_;rw[F];refine Wv (t9 (i:=2) O O O O kh) hP ?_;refine NG ?_;refine⟨(i+1,r0,J,(o++[pd l[i]]),m),⟨Z,by show r0.length<=i+1;omega,by show J.length<=i+1;omega,by simp;omega,by show m.length<=i+1;omega,hF⟩,by show(l.take 96).length-(i+1)<(l.take 96).length- i;omega,?_⟩;exact ed
   .have hF:qi 4 (i+1) [r0,J,o,(m++[pd l[i]])] ((l.take 96).drop (i+1))=oN l 4:=by
     rw[<-hF];show _=qi 4 (i+1) ([r0,J,o,m].set (i%4) ([r0,J,o,m].getD (i%4) []++[pd l[i]])) _;rw[hk];rfl
    have F:(i:Int)%4=((3:Nat):Int):=eY;refine NG ?_;rw[F];refine Wv (t9 (i:=3) O O O O kh) hP ?_;refine NG ?_;refine⟨(i+1,r0,J,o,(m++[pd l[i]])),⟨Z,by show r0.length<=i+1;omega,by show J.length<=i+1;omega,by show o.length<=i+1;omega,by simp;omega,hF⟩,by show(l.take 96).length-(i+1)<(l.take 96).length- i;omega,?_⟩;exact ed
  .have u:¬(i:Int)<96:=by omega
   exact aJ
 .have R:¬(i:Int)<(l.length:Nat):=by omega
  exact aJ
end
