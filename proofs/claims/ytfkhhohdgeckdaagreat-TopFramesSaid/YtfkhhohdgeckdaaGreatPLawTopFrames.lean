/- TopFrames, out of its walk: for every input the law returns true, and its arguments stay. No condition. -/
import Derived.Test.YtfkhhohdgeckdaaGreatP47
import Derived.ProofKit
import Derived.OpenShut
import Derived.ShutString
import Derived.ChangeOld
import Derived.Below
set_option linter.all false
set_option maxRecDepth 100000
namespace Go.Proofs.YtfkhhohdgeckdaaGreat.lawTopFrames
open Go.ChangeShapes Go.WideShapes Go.ChangeAt Go.RowKit
open Go.Proofs.Tryz
open Go.ChangeMaps (open_string shut_string)
open Go.Proofs.YtfkhhohdgeckdaaGreat
theorem own:ownKnob prog.godebug=none:=by kernel_rfl
theorem laidOut:laidOutB prog=true:=by kernel_rfl
theorem lifted(os:Os)(started:os.Started)(H:Type)(enc:TypeId×Value->H):
 ReturnsInHanded {} Tryz.checked os 8 .any (Rows.topFramesSpec.pre6 enc prog Tryz.f8 Rows.topFramesRow.domain false) (Rows.topFramesSpec.post enc prog Tryz.f8 false true false false):=by
 refine returnsInHanded_of_change_sized (C:=Tryz.checked) own started j6 func8
  (ChangeSpec.witness6 (enc:=enc) (C:=Tryz.checked) false ⟨#[],#[.int .i64 0,.int .i64 0,.slice none 0 0,.slice none 0 0],[]⟩ 8 j6 j6 j6 j6) ?_
 intro W base args ds gs before hval0 hW hcnd hsz0 _;have hsz:(DataW.weightsEach prog (Tryz.f8.params.toList++Rows.topFramesSpec.plain.varTypes prog) (ds++gs)).all (· <=reachBytes)=true:=hsz0;clear hsz0;have hval:∀(j:Nat) t v,Tryz.f8.params[j]?=some t->args[j]?=some v->Value.okWide prog W .any base t v:=hval0;have hW':=hW;obtain⟨p,q,hA0,hV,rfl,hfz,hnd⟩:=hW;have hA:DataW.TrodAll enc prog W 0 (λ_=>true) true Tryz.f8.params.toList args.toList ds p:=hA0;rw[Tryz.params8]at hA hval hsz;obtain⟨v0,vs0,d0,ds0,p0,q0,hargs,rfl,rfl,h0,r0⟩:=trodAll_cons hA;obtain⟨v1,vs1,d1,ds1,p1,q1,rfl,rfl,rfl,h1,r1⟩:=trodAll_cons r0;obtain⟨v2,vs2,d2,ds2,p2,q2,rfl,rfl,rfl,h2,r2⟩:=trodAll_cons r1;obtain⟨v3,vs3,d3,ds3,p3,q3,rfl,rfl,rfl,h3,r3⟩:=trodAll_cons r2;obtain⟨rfl,rfl,rfl⟩:=trodAll_nil r3;obtain rfl:args= #[v0,v1,v2,v3]:=by cases args;simp_all
 obtain⟨rfl,rfl⟩:=trodVars_none hV;obtain⟨a0,rfl,rfl,rfl,w0⟩:=open_int underlying3 (hval 0 3 v0 rfl rfl) h0;obtain⟨a1,rfl,rfl,rfl,w1⟩:=open_int underlying3 (hval 1 3 v1 rfl rfl) h1;obtain⟨a2,len2,cap2,rfl⟩:=okWide_slice underlying22 (hval 2 22 v2 rfl rfl);have k2:=h2;have lt2:∀x∈p2,x.block<W.heap.size:=by obtain⟨m,hm⟩:=k2;exact DataW.trod_lt m _ _ _ hm
 obtain⟨l2,s2,g2,z2⟩:∃l:List Int,Sl ie 1 W (.slice a2 len2 cap2) l/\(∀n∈l,-9223372036854775808<=n/\n<=9223372036854775807)/\l.length<=17592186043904:=by
  obtain⟨fuel,hf⟩:=h2;rcases open_ints underlying22 underlying3 j6 hf with⟨hcs,_⟩|⟨x,l,c,zs,hcs,_,hl,hm,hz,hx,hcell,hwz⟩
  .simp[Value.cells]at hcs;obtain⟨rfl,rfl,rfl⟩:=hcs;exact⟨[],Sl.nil _ _ _,by simp,by simp⟩
  .simp[Value.cells]at hcs;obtain⟨rfl,rfl,rfl⟩:=hcs;refine⟨_,K0 (λn=>n) (λn h=>ajU n h) hl hm (by simpa using hz) hcell hwz,λn hn=>?_,?_⟩
   .simp only[List.map_id']at hn;exact bounds_i64 (hwz n (List.mem_of_mem_take hn))
   .injection hx with hx1 hx2;rw[hx1]at hsz;have:=sized_slice hsz (j:=2) (t:=22) (e:=3) rfl rfl underlying22;rw[show prog.bytesOf 3=8 from by kernel_rfl]at this;simp only[lits,List.length_map,List.length_take,List.length_drop]at this⊢;unfold reachBytes at this;omega
 obtain⟨a3,len3,cap3,rfl⟩:=okWide_slice underlying22 (hval 3 22 v3 rfl rfl);have k3:=h3;have lt3:∀x∈p3,x.block<W.heap.size:=by obtain⟨m,hm⟩:=k3;exact DataW.trod_lt m _ _ _ hm
 obtain⟨l3,s3,g3,z3⟩:∃l:List Int,Sl ie 1 W (.slice a3 len3 cap3) l/\(∀n∈l,-9223372036854775808<=n/\n<=9223372036854775807)/\l.length<=17592186043904:=by
  obtain⟨fuel,hf⟩:=h3;rcases open_ints underlying22 underlying3 j6 hf with⟨hcs,_⟩|⟨x,l,c,zs,hcs,_,hl,hm,hz,hx,hcell,hwz⟩
  .simp[Value.cells]at hcs;obtain⟨rfl,rfl,rfl⟩:=hcs;exact⟨[],Sl.nil _ _ _,by simp,by simp⟩
  .simp[Value.cells]at hcs;obtain⟨rfl,rfl,rfl⟩:=hcs;refine⟨_,K0 (λn=>n) (λn h=>ajU n h) hl hm (by simpa using hz) hcell hwz,λn hn=>?_,?_⟩
   .simp only[List.map_id']at hn;exact bounds_i64 (hwz n (List.mem_of_mem_take hn))
   .injection hx with hx1 hx2;rw[hx1]at hsz;have:=sized_slice hsz (j:=3) (t:=22) (e:=3) rfl rfl underlying22;rw[show prog.bytesOf 3=8 from by kernel_rfl]at this;simp only[lits,List.length_map,List.length_take,List.length_drop]at this⊢;unfold reachBytes at this;omega
 clear hA0 hval0;refine(KR a0 a1 _ l2 _ l3 W (bounds_i64 w0) (bounds_i64 w1) s2 g2 z2 s3 g3 z3).mono λe W' ⟨he,bel⟩=>?_;subst he;exact⟨_,rfl,_,_,_,[],_,[],hW',trodAll_mk1 (shut_bool underlying4 _),(trodAll_cons_mk (shut_int underlying3 w0) (trodAll_cons_mk (shut_int underlying3 w1) (trodAll_cons_mk (Below.trod laidOut j6 (of_decide_eq_true j6) k2 bel lt2) (trodAll_cons_mk (Below.trod laidOut j6 (of_decide_eq_true j6) k3 bel lt3) trodAll_mk0)))),rfl,bel.frame _,λh=>by cases h⟩
theorem fr_aa{a b:Bool}(h:a=true)(k:b=true):(a&&b)=true:=by rw[h,k];rfl
theorem fr_k1:(Rows.topFramesRow.inPlace==prog.inPlace 8)=true:=by kernel_rfl
theorem fr_k2:(Rows.topFramesRow.unfollowed==prog.unfollowed 8)=true:=by kernel_rfl
theorem fr_k3:(Rows.topFramesRow.recurses==prog.recurses 8)=true:=by kernel_rfl
theorem fr_k4:(Rows.topFramesRow.named==prog.varsNamed 8)=true:=by kernel_rfl
theorem fr_k5:(Rows.topFramesRow.plainKeys==prog.plainKeys)=true:=by kernel_rfl
theorem fr_k6:(Rows.topFramesRow.lifted==prog.liftsFinal)=true:=by kernel_rfl
theorem fr_closed:joinedFacts prog 8 Tryz.f8 Rows.topFramesSpec Rows.topFramesRow=true:=
 fr_aa (fr_aa (fr_aa (fr_aa (fr_aa (fr_aa (fr_aa (fr_aa (fr_aa (fr_aa (fr_aa (fr_aa (fr_aa (fr_aa (fr_aa (fr_aa (fr_aa (fr_aa (fr_aa (fr_aa (fr_aa (fr_aa (fr_aa (fr_aa (fr_aa (fr_aa (fr_aa (fr_aa (fr_aa (fr_aa (fr_aa j6 j6) j6) j6) j6) j6) j6) j6) j6) fr_k1) fr_k2) fr_k3) fr_k4) j6) j6) j6) j6) j6) j6) j6) j6) j6) fr_k5) j6) j6) j6) fr_k6) j6) j6) j6) j6) j6
theorem fr_named:prog.funcNamed Rows.topFramesRow.func=some 8:=by kernel_rfl
theorem fr_inst:Tryz.f8.isInstance prog Rows.topFramesRow.origin Rows.topFramesRow.targs:=of_decide_eq_true j6
theorem fr_wrap:Tryz.f8.isWrapper prog Rows.topFramesRow.wrapper Rows.topFramesRow.mainSum:=by unfold Func.isWrapper;first|(rw[if_pos (by decide+kernel)];kernel_rfl)|(rw[if_neg (by decide+kernel)];exact⟨rfl,rfl⟩)
theorem BF:Rows.topFramesRow.holds Tryz.pinned (OpenSpec.ofChange Rows.topFramesSpec):=
 OpenClaim.holds_of_wide 8 Tryz.f8 rfl rfl rfl rfl rfl rfl rfl ⟨rfl,rfl,rfl,rfl,rfl⟩ rfl rfl rfl rfl rfl fr_named func8 fr_closed fr_inst fr_wrap
  (λos started H enc _=>lifted os started H enc)
theorem proved:Rows.TopFramesSaid:=BF
end Go.Proofs.YtfkhhohdgeckdaaGreat.lawTopFrames
