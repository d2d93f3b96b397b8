/- Part of the proof, without conditions. -/
import Derived.Test.YtfkhhohdgeckdaaGreatRows
import Derived.WalkKit
import Derived.LoopTactic
import Derived.Outline
import Derived.WalkSpells
import Derived.BigQuiet
import Derived.Deep.QuietTactic
import Derived.Deep.RegionHeld3
import Derived.Deep.DrawnRows
import Derived.Lib.Hide
import Derived.StillTailTactics
import Derived.Laws.CopyRow
import Derived.Maps.AppendAt
import Derived.Lib.AppendZeros
import Derived.Lib.AppendZerosOnto
import Derived.Scope
import Derived.WalkLawsBesides
import Derived.Deep.AppendSrc
import Derived.Deep.Upon
import Derived.Laws.StructEq
import Derived.Laws.Tables
import Derived.Laws.BytesString
import Derived.Great.BuildSlice
import Derived.Laws.MakeOwn
import Derived.Lib.Bytealg
import Derived.RangeFuncNested
import Derived.RangeFuncCalls
import Derived.RangeFuncLeaves
import Derived.Lib.Overlaps
import Derived.Laws.IdiomStrings
import Derived.Maps.RangeRun
import Derived.RangeFuncRecord
import Derived.OrdersIn
import Derived.ScopeJumps
import Derived.Deep.DeepAppendWide
namespace Go.Proofs.YtfkhhohdgeckdaaGreat
open Go RowKit Proofs.Tryz
set_option linter.all false
set_option maxRecDepth 100000
set_option maxHeartbeats 16000000
variable {Q:Prop}
def Mj:=@BitVec.eq_of_toNat_eq
def GI:=@Bool.eq_iff_iff
def Mi:=@BitVec.toNat_ofInt
def OL:=@BitVec.toNat_setWidth
def af8:=@BitVec.toNat_xor
def T6:=@BitVec.toNat_ushiftRight
def T5:=@Nat.shiftRight_eq_div_pow
def w4:=@Array.getElem?_extract
def kx:=@if_pos
def qB:=@Array.ext_getElem?
def ku:=@if_neg
def Ba:=@Nat.lt_or_ge
def ru:=@Array.getElem?_eq_none
def tu:=@Bool.false_eq_true
def rL:=@if_false
def Xk:=@run_loadCells_list
def mS:=@List.getElem?_eq_some_iff
def lu:=@run_underlying
def ub:=@List.drop_eq_nil_of_le
def AZ:=@List.getElem?_toArray
def QQ:=@List.getElem?_append
def lA:=@List.length_append
def n5:=@List.length_take
def yg:=@List.getElem?_take
def wy:=@List.getElem?_drop
def Xj:=@Array.getElem?_toList
def H9:=@Array.getElem?_modify
def oQ:=@if_true
def Xi:=@Array.getElem?_push
def pv:=@Ne.symm
def o8:=@heap_alloc_new
def l5:=@Bool.and_eq_true
def QE:=@Array.all_toList
def mq:=@List.all_eq_true
def kK:=@Nat.le_refl
def wx:=@Nat.lt_of_lt_of_le
def kO:=@Nat.zero_le
def yf:=@Array.getElem?_eq_some_iff
def uR:=@Nat.mul_one
def Mh:=@List.getElem_take
def ng:=@List.getElem_mem
def nI:=@List.getD_eq_getElem?_getD
def sc:=@List.length_cons
def sb:=@Nat.succ_mul
def pF:=@List.getElem?_append_left
def o7:=@List.getElem?_append_right
def Xh:=@Nat.div_lt_iff_lt_mul
def AK:=@Nat.mod_lt
def ye:=@Nat.add_assoc
def Mg:=@Nat.zero_mul
def vA:=@Nat.add_zero
def pE:=@List.eq_nil_of_length_eq_zero
def mH:=@Nat.mul_le_mul_right
def oG:=@Nat.le_trans
def Qz:=@List.map_toArray
def nc:=@List.map_cons
def AJ:=@List.map_nil
def wv:=@List.ext_getElem?
def pN:=@List.getElem?_eq_none
def mi:=@Nat.eq_of_beq_eq_true
def Xg:=@List.cons_append
def CL:=@Array.getElem?_setIfInBounds
def ts:=@List.drop_eq_getElem_cons
def H8:=@List.range'_succ
def af7:=@Bool.or_eq_false_iff
def Xf:=@List.any_eq_false
def sM:=@List.mem_map
def wu:=@Bool.or_eq_true
def oO:=@List.mem_cons_self
def nV:=@List.mem_cons_of_mem
def Mf:=@Bool.not_true
def Xe:=@List.any_eq_true
def H7:=@beq_iff_eq
def nO:=@decide_eq_true_eq
def tr:=@List.mem_filter
def EP:=@List.mem_range
def Qy:=@Bool.not_eq_true'
def Xd:=@List.mem_filterMap
def CK:=@Array.getD_eq_getD_getElem?
def EO:=@List.range_succ
def EN:=@List.countP_append
def EM:=@List.nil_append
def af6:=@Array.getElem?_replicate
def H6:=@List.countP_le_length
def vz:=@wp_mono
def Me:=@List.range_eq_range'
def Xc:=@List.getElem?_cons_succ
def AI:=@Array.getElem?_append_left
def zd:=@Array.toArray_toList
def CJ:=@List.length_eq_one_iff
def CI:=@IntWalk.i64_in
def af5:=@Int.tmod_eq_emod_of_nonneg
def yd:=@Nat.le_of_eq
def uQ:=@or_congr
def rq:=@Iff.rfl
def qO:=@exists_congr
def rK:=@and_congr_right
def Qx:=@Nat.not_lt_zero
def rJ:=@List.mem_append
def mr:=@Option.some.injEq
def pq:=@Prod.mk.injEq
def oI:=@List.getElem?_map
def s9:=@Option.map_eq_some_iff
def sr:=@Array.ext'
def DL:=@List.drop_append
def GV:=@List.take_append
def oa:=@Nat.zero_add
def rM:=@Calls.mono
def Q8:=@run_append_nothing
def oT:=@List.append_nil
def DK:=@grownCap_le_maxLen
def Q7:=@run_append_grow_src
def DJ:=@grownCap_ge
def xo:=@Array.size_append
def xn:=@List.size_toArray
def GU:=@size_zeroCells
def lZ:=@Nat.add_mul
def xm:=@run_firstCells_some
def qh:=@Nat.succ_pos
def Bb:=@growslice_fits
def Q6:=@Array.getElem?_append_right
def Kq:=@Array.getElem?_append
def Q5:=@run_convert_bytes_string
def GS:=@List.foldl_cons
def pP:=@Int.toNat_natCast
def GR:=@run_bytesToString
def Q4:=@List.length_nil
def A9:=@Vector.ext
def xl:=@Bool.true_and
def DI:=@List.drop_succ_cons
def Q3:=@Nat.add_comm
def Q2:=@List.take_succ_cons
def pO:=@List.take_of_length_le
def q8:=@List.length_drop
def ZA:=@Array.toList_extract
def vQ:=@List.getElem?_set_self
def DH:=@List.getElem?_set_ne
def mf:=@List.mem_cons
def GQ:=@List.getElem?_replicate
def Q1:=@Nat.eq_of_mul_eq_mul_right
def A8:=@Nat.le_of_ble_eq_true
def Zz:=@Nat.le_mul_of_pos_right
def nQ:=@List.take_length
def Q0:=@run_buildSlice
def qH:=@Int.le_refl
def kX:=@List.length_map
def vP:=@List.map_take
def oH:=@List.append_assoc
def pz:=@underlying5
def xk:=@and_assoc
def Kp:=@underlying113
def mc:=@underlying3
def QZ:=@Bool.and_assoc
def QY:=@run_eql_struct
def A7:=@underlying47
def s8:=@underlying86
def GP:=@Nat.lt_trichotomy
def kQ:=@List.getElem?_eq_getElem
def Ko:=@List.take_succ_eq_append_getElem
def mE:=@Lib.hid
def A6:=@func266
def A5:=@func155
def Zy:=@BitVec.shiftRight_add
def Zx:=@BitVec.getLsbD_shiftLeft
def Km:=@BitVec.getLsbD_setWidth
def Zw:=@BitVec.getLsbD_of_ge
def QX:=@BitVec.getLsbD_ushiftRight
def A4:=@decide_eq_decide
def GO:=@BitVec.eq_of_getLsbD_eq
def Zv:=@BitVec.toNat_shiftLeft
def uV:=@bodyPost_ret
def QW:=@BitVec.getLsbD_xor
def GN:=@BitVec.xor_assoc
def QV:=@Nat.pow_succ
def A3:=@Nat.mul_comm
def kW:=@decide_eq_true
def la:=@decide_eq_false
def uU:=@underlying9
def Kl:=@Int.natCast_nonneg
def oq:=@List.map_append
def DG:=@Nat.sub_self
def GM:=@List.replicate_succ
def QU:=@Bool.and_self
def DF:=@List.map_drop
def A1:=@List.drop_zero
def Zu:=@Array.eq_empty_of_size_eq_zero
def QT:=@underlying4
def vO:=@underlying55
def nF:=@List.mem_of_getElem?
def Kk:=@cond_false
def Kj:=@func286
def GL:=@func261
def Ki:=@func288
def QS:=@List.take_take
def GK:=@func214
def GJ:=@func304
def DE:=@Int.emod_nonneg
def DD:=@Int.emod_lt_of_pos
def DC:=@func22
def Kh:=@List.countP_cons
def GH:=@List.pairwise_cons
def Zt:=@List.countP_eq_zero
def Kg:=@List.pairwise_iff_getElem
def DB:=@List.mem_of_find?_eq_some
def GG:=@List.find?_some
def QR:=@List.find?_eq_none
def vN:=@List.mem_iff_getElem
def Zs:=@List.filter_cons_of_pos
def DA:=@List.filter_cons_of_neg
def Zr:=@List.filter_eq_self
def s7:=@List.mem_singleton
def Kf:=@List.pairwise_append
def Ke:=@List.filter_sublist
def Zq:=@List.pairwise_singleton
def QP:=@List.filter_cons
def Kd:=@func152
def Kc:=@func151
def QO:=@Int.natCast_mul
def Kb:=@List.map_congr_left
def Zp:=@Array.toList_append
def xj:=@List.map_replicate
def uT:=@List.map_set
def pj:=@List.length_replicate
def vM:=@List.take_append_getElem
def AY:=@and_congr
def Dz:=@wpIn_mono
def py:=@congrArg
def yP:=@List.getElem?_take_of_lt
def QN:=@Nat.one_mul
def AX:=@Nat.min_eq_left
def Ka:=@IntKind.wrap_i64
def Zo:=@List.replicate_zero
def Zn:=@Lib.run_append_grow_zeros
def AU:=@Lib.run_eql_slice_nil
def QM:=@Nat.mul_le_mul
def J9:=@Nat.lt_irrefl
def Dy:=@Classical.byContradiction
def Zm:=@BitVec.toInt_eq_toNat_cond
def GF:=@Int.toNat_of_nonneg
def J8:=@func150
def Dx:=@func195
def yO:=@func98
def GD:=@List.foldl_append
def Zl:=@List.flatten_append
def QL:=@List.take_append_drop
def J7:=@func301
def GC:=@List.mem_of_mem_take
def vL:=@List.length_filter_le
def J6:=@func281
def J5:=@func282
def yN:=@func52
def QK:=@List.map_map
def Zk:=@List.take_append_of_le_length
def QJ:=@List.take_left'
def QI:=@List.getElem_of_mem
def GB:=@Nat.lt_succ_self
def Zj:=@Vector.length_toList
def GA:=@List.flatMap_append
def Dw:=@List.flatMap_cons
def s6:=@List.not_mem_nil
def Gz:=@func58
def Dv:=@func260
def Du:=@func210
def uS:=@func244
def xi:=@func208
def qG:=@underlying154
def qg:=@underlying294
def qF:=@underlying140
def qE:=@underlying141
def qD:=@underlying167
def Gy:=@List.nodup_cons
def Gx:=@List.mem_map_of_mem
def QH:=@List.nodup_nil
def J4:=@List.nodup_append
def J3:=@Nat.sub_zero
def Gw:=@List.getElem?_modify
def tY:=@underlying151
def AT:=@func96
def J2:=@ntmps96
def Zi:=@World.putObj_heap_same
def Gv:=@func94
def J1:=@func149
def Gu:=@List.length_pos_iff
def QG:=@List.sum_cons
def QF:=@List.flatMap_nil
def Zh:=@List.drop_replicate
def so:=@func271
def Gt:=@func272
def J0:=@ntmps272
def JZ:=@Bool.and_false
def yM:=@Bool.false_and
def Dt:=@func240
def JY:=@func242
def Ds:=@func139
def Dr:=@func246
def xh:=@func257
def Gs:=@func194
def JX:=@ntmps194
def JW:=@func243
def AR:=@Int.eq_ofNat_of_zero_le
def Dq:=@func234
def JV:=@func233
def Gr:=@func185
def JU:=@ntmps185
def Gq:=@func181
def AQ:=@func183
def Dp:=@func186
def JT:=@Bool.eq_false_iff
def yL:=@underlying214
def Dn:=@func111
def JS:=@func138
def JR:=@List.take_add_one
def JQ:=@func221
def Zg:=@List.findIdx?_eq_none_iff
def Dm:=@List.findIdx?_eq_some_iff_getElem
def JP:=@func222
def Dl:=@func252
def qC:=@func256
def vK:=@func251
def JO:=@ntmps251
def Gp:=@func202
def Gn:=@func254
def Gm:=@func201
def yK:=@func204
def AP:=@ntmps204
def AO:=@List.getElem?_set
def Gl:=@List.set_set
def yJ:=@func129
def Gk:=@List.mem_iff_getElem?
def JN:=@func278
def JM:=@func164
def sn:=@List.getElem?_mapIdx
def q7:=@List.length_set
def AN:=@Int.tmod_lt_of_pos
def tX:=@or_false
def xg:=@List.mem_or_eq_of_mem_set
def JL:=@func127
def JK:=@func114
def JJ:=@func144
def Dk:=@func115
def Dj:=@func76
def AM:=@func196
def JI:=@func203
def Gj:=@List.length_range
def Zf:=@List.getElem?_zip_eq_some
def QD:=@Nat.lt_trans
def oS:=@Nat.le_succ
def Ze:=@List.mem_of_mem_head?
def JH:=@Nat.le_succ_of_le
def Gi:=@func197
def xf:=@func193
def JG:=@func134
def xe:=@List.eq_of_mem_replicate
def QC:=@List.mapIdx_append
def QB:=@List.length_mapIdx
def QA:=@Nat.add_sub_cancel_left
def Gh:=@func23
def JF:=@ntmps23
def yI:=@func73
def Gg:=@func82
def AL:=@func74
def Di:=@ntmps74
def Dh:=@func11
def JE:=@ntmps11
def JD:=@List.getElem?_eq_none_iff
def Dg:=@func18
def Zd:=@Nat.lt_of_mul_lt_mul_right
def JC:=@List.drop_of_length_le
def O:=@rfl
def aa(h:Q:=by
 refine pB O f λz Z b3=>?_
 obtain⟨⟨b,o⟩,rfl⟩:∃p,A=some p:=by
  cases A with
  |none=>have:=(b3 O).1;subst this;simp at hi
  |some p=>exact⟨p,rfl⟩
 have k:¬((i:Nat):Int)=((i+1:Nat):Int):=eY;refine wE ?_;refine Wv (HI (l:=i) (h:=i+1) (m:=G.length) O O (Jb O O) (Jb O O) (Jb O O) (λ_=>rfl) kh kh kh O) hP ?_;refine wE ?_;refine Wv (PN (h:=i) O O O O kh O) hP ?_;by_cases u:cap=i+1
 .have hn:G.length=i+1:=by omega
  have Y:G.drop (i+1)= []:=ub kh;refine wE ?_;refine Wv (Yv (l:=i+1) O O O O kh kh O) hP ?_;refine Wb (Yw (i:=i) (J:=G.drop (i+1)) O O O O f kh (by rw[Y];exact aaE O f) jk jk jk O) hP ?_;refine wE ?_;refine Wv (SX (l:=i+(G.drop (i+1)).length) (h:=G.length) O O O O O O jk kh jk O) hP ?_;refine Ws (SZ O n O O (kC _ _ _) jk hE ib) hP ?_;refine wE ?_;exact BD (v:=undef) (.inr O) O O ⟨B4 O O O (by rw[F7 hi]),trivial⟩
 .refine wE ?_;refine Wv (Al (l:=i+1) O O O O kh kh kh O) hP ?_;refine Wb (Yw (i:=i) O O O O f kh (aaD O f O kh) jk jk jk O) hP ?_;refine wE ?_;refine Wv (SX (l:=i+(G.drop (i+1)).length) (h:=G.length) O O O O O O jk kh jk O) hP ?_;refine Ws (SZ O n O O (kC _ _ _) jk hE ib) hP ?_;refine wE ?_;exact BD (v:=undef) (.inr O) O O ⟨B4 O O O (by rw[F7 hi]),trivial⟩):Q:=h
def ac(h:Q:=by
 refine kL Gr O JU O ki [_,_] O λE S N i=>?_;have K:=nD JV (x);have W:=nD Du (c1);have z:=kD Dq (c2);have Z:=nD func237 (j);have n:=nD func239 (M);have Y:=nD func241 (p);have X:=kD Ds (a);have f:=kD Dq (q);refine wX ?_;apply BJ [] [16];exact n7 [(5,16)] K O O O O gV ii ii O O O;exact O;exact O;exact ig;refine wX ?_
 (apply WvN [16];(focus (exact FC [(1000,16)] W O O O O O gV ii ii O O));(focus (exact O));(focus exact ig))
 refine wX ?_;apply BJ [28] [28];exact qw [(1000,28)] Z O O O O O gV ii ii O O;exact O;exact O;exact ig;refine wX ?_;apply BJ [28] [28];exact qw [(1000,28)] n O O O O O gV ii ii O O;exact O;exact O;exact ig;refine wX ?_;apply BJ [28] [28];exact qw [(1000,28)] Y O O O O O gV ii ii O O;exact O;exact O;exact ig;refine wX ?_;rw[la F];refine Was 66 (pb false mF (lJ k) (rp ps) (nk ms)) O ?_;refine wX ?_;exact oY ⟨ri O O O (λ_=>by(repeat (first|exact xI|refine Io O ?_|refine MP ?_|refine MS ?_))),gr,trivial⟩):Q:=h
def ae(h:Q:=by
 refine kL Gr O JU O ki [_,_] O λE S N i=>?_;have K:=nD JV (x);have W:=nD Du (c1);have z:=kD Dq (c2);have Z:=nD func235 (j);have Y:=nD func241 (p);have X:=kD Ds (a);have f:=kD Dq (q);refine wX ?_;apply BJ [] [16];exact n7 [(5,16)] K O O O O gV ii ii O O O;exact O;exact O;exact ig;refine wX ?_
 (apply WvN [16];(focus (exact FC [(1000,16)] W O O O O O gV ii ii O O));(focus (exact O));(focus exact ig))
 refine wX ?_;apply BJ [28] [28];exact qw [(1000,28)] Z O O O O O gV ii ii O O;exact O;exact O;exact ig;refine wX ?_;apply BJ [28] [28];exact qw [(1000,28)] Y O O O O O gV ii ii O O;exact O;exact O;exact ig;refine wX ?_;rw[kW F];refine Was 66 (pb true (pI es) mF mF (nk ms)) O ?_;refine wX ?_;exact oY ⟨ri O O O (λ_=>by(repeat (first|exact xI|refine Io O ?_|refine MP ?_|refine MS ?_))),gr,trivial⟩):Q:=h
def ai(h:Q:=by
 refine wY ?_;apply BJ [1000] [1000];exact qw [(1000,1000)] K O O O O O gV ii ii O O;exact O;exact O;exact ig;refine wSY ?_;rw[w];refine wY ?_;apply BJ [1000] [1000];exact qw [(1000,1000)] W O O O O O gV ii ii O O;exact O;exact O;exact ig;refine wY ?_;apply BJ [1000] [1000];exact qw [(1000,1000)] z O O O O O gV ii ii O O;exact O;exact O;exact ig;refine wY ?_;apply BJ [1000] [1000];exact qw [(1000,1000)] Z O O O O O gV ii ii O O;exact O;exact O;exact ig;refine wY ?_;exact Nb ⟨⟨ii,rfl⟩,gs,trivial⟩):Q:=h
def aj(h:Q:=by
 rw[<-j3,afb A];refine wL ?_;refine Wb (PR (f:=mL.av) (x0:=mL.zero) (n:=j) O O O O O O kh kh) hP ?_;refine wL ?_;refine Wri 41 ((l.length- j:Nat):Int) O kh ?_;refine Wb (PR (f:=mL.av) (x0:=mL.zero) (n:=l.length- j) O O O O O O kh kh) hP ?_;refine wL ?_;refine Wb (Oe (f:=mL.av) O O O O O ki kh (λ_=>rfl)) hP ?_;refine wL ?_;refine Wb (Oe (f:=mL.av) O O O O O ki ki (λ_=>rfl)) hP ?_;refine Jg _ ?_;refine oz ?_;refine lU (lL.froz S 37 O) ?_;refine lU (lL.froz S 42 O) ?_;refine lU (lL.seg 2 37 O O O O jY) ?_;refine lU (lL.seg 3 42 O O O O ki) ?_;refine lU (lL.as 2 (pI (l.take j)) ((show _=some (AV.sl none 26 (((l.take j).map mL.av).take j))from rfl).trans (by rw[pO iw];rfl))) ?_;refine lU (lL.as 3 (pI (l.drop j)) ((show _=some (AV.sl none 26 ((((l.drop j).take (l.length- j)).map mL.av).take (l.length- j)))from rfl).trans (by rw[pO iw,pO i4];rfl))) ?_;refine wL ?_;exact oY ⟨pY O,pY O,gu,gr,trivial⟩):Q:=h
def ak(h:Q:=by
 repeat (first|refine Wv (w9 O O O O O O j5) hP ?_|refine MT ?_)
 intro Z y T;have hC:=K.Hb ki m T;have k:=hC.2.2;unfold mT.av at k;obtain⟨J,R,hq3⟩:=hC.2.1;have d4:=kS AM (Hg Z h J _ r.t r.lower c2 s2.sz hq3 (hk3.ok kh).w);rw[R]at d4;refine wU ?_;intro V y hV;have hD:=hC.Hb ki R hV;have B:=hD.2.2;unfold mT.av at B;obtain⟨q4,e4,hq4⟩:=hD.2.1;have d5:=kS JI (Pf V h q4 _ r.t a0 n s3.sz hq4 (hk4.ok kh).w);rw[e4]at d5;refine wU ?_;intro W y hW;have hE':=hD.Hb ki e4 hW;have d6:=kS Gi (E5 W h q.b i b _ r hE'.2.1 (hk5.ok kh) hE'.2.2);refine wU ?_;intro W2 y hW2;have hF:=hE'.then hW2;have d7:=kS xf (BO W2 h q.b i b _ (r.below (((H2.set r.t r.upper p2).set r.t r.lower c2).born r.t a0 n)).1 0 hF.2.1 (hk6.ok kh) hF.2.2);refine wU ?_;intro U y hU;refine wU ?_;exact ns O (hF.then hU) λ_=>trivial):Q:=h
def am(h:Q:=by have l:(b.length:Int)-((p+1:Nat):Int)<(F9 b p:Nat):=eY;refine nh Gt O J0 O ki [_] O λE S=>hTF λN j=>?_;have K:=nD so (x);refine wY ?_;apply BJ [1000] [1000];exact n7 [(1000,1000)] K O O O O gV ii ii O O O;exact O;exact O;exact ig;refine wSY ?_;rw[u];refine wY ?_;exact Nb ⟨⟨ii,rfl⟩,gv,trivial⟩):Q:=h
def an(h:Q:=by
 have r:=mE H;clear H
 go_enter func102,ntmps102
 go_wp2_with fail
 refine(Lq _ _ _ kh kh y).mono ?_;rintro e J ⟨rfl,rfl⟩;rw[C.out]
 go_wp2_with fail
 rw[r.out];refine(Py _ _).mono ?_;rintro e s ⟨rfl,G⟩;rw[kx z.out];have B:I0 s w.heap.size kH.zero.arr 113:=E.out.ext (((pr.refl _).alloc _).trans G);have S:=(B.row 0 9).trans (kH.row _);have t:=B.free;have j:=B.lt
 go_wp2
 exact uV (xA O (tD (cs:=(za v).arr) Kp O kH.yu O (by rw[xO _ _ _ _ _ (by rw[Ce];exact j),(B.put 0 _).row,kH.put,c.out];exact kH.row _))) O ⟨O,pr.alloc (pr.putRow (pr.trans (((pr.refl w).alloc _).alloc _) G) (kK _)) _⟩):Q:=h
def aq(h:Q:=by
 refine nh Gt O J0 O ki [_] O λE S=>hTF λN j=>?_;have K:=nD so (x);refine wY ?_;apply BJ [1000] [1000];exact n7 [(1000,1000)] K O O O O gV ii ii O O O;exact O;exact O;exact ig;refine wSY ?_;rw[u];refine wY ?_;exact Nb ⟨⟨ii,rfl⟩,gv,trivial⟩):Q:=h
def ar(h:Q:=by
 rintro e J ⟨rfl,I⟩;have H:mQ J w.heap.size 0 9=some (kH.mk (n:Int) x).arr:=I.row jD;have u:=B9 H (j:=0) kh (kH.zN _);have p:=Ac (g:=w.heap.size) (o:=1) (w:=J) (b:=x) (by rw[<-oa 1,yx H 1 8 kh];exact kH.uA _) n 8 l l jp;have v:=K2 s8 pz uU p;clear p;simp only[oa]at u
 go_wp2
 go_ret;exact⟨by rw[P.out];rfl,gP⟩):Q:=h
def au(h:Q:=by
 refine wY ?_
 (apply BJ [1000] [1000];(focus (exact abl [(1000,1000)] W O O O O O gV ii ii O O));(focus (exact O));(focus (exact O));(focus exact ig))
 refine wY ?_;refine⟨j+1,by omega,by omega,?_⟩;rw[Sw];exact ed):Q:=h
def ax(h:Q:=by have K:=nD Gt (x);refine wY ?_;apply BJ [1000,3] [1000,3];exact n7 [(1000,1000),(1001,3)] K O O O O gV ii ii O O O;exact O;exact O;exact ig;refine wY ?_;exact Nb ⟨⟨ii,rfl⟩,gs,trivial⟩):Q:=h
def ay(h:Q:=by
 refine wY ?_;apply BJ [1000] [1000];exact n7 [(1000,1000)] z O O O O gV ii ii O O O;exact O;exact O;exact ig;refine wY ?_;refine⟨j+1,by omega,by omega,?_⟩;rw[o];exact ed):Q:=h
def az(h:Q:=by
 cases m:S.may j
 .rw[m]at W;rw[ku j8]at M;rw[M]at next;refine wJ ?_;intro Z v o;refine wJ ?_;refine⟨(j+1,Z),⟨d,next Z o⟩,by dsimp only;omega,ed⟩
 .rw[m]at W;rw[kx m]at M;rw[M]at next;refine wJ ?_;intro Z v o;refine wJ ?_;refine⟨(j+1,Z),⟨d,next Z o⟩,by dsimp only;omega,ed⟩):Q:=h
def aA(h:Q:=by
 have:∀l:List (Nat×Bx),(∀p∈l,H' (σ p.1)=H (σ p.1))->pS σ H H1 l->pS σ H' H1 l:=by
  intro l
  induction l with
  |nil=>exact λ_ _=>trivial
  |cons p l Z=>
   obtain⟨c,bx⟩:=p;intro b ⟨i,o⟩;refine⟨?_,Z (λp X=>b p (nV _ X)) o⟩;cases m:kV c H1 with
   |some b1=>rw[m]at i;exact i
   |none=>rw[m]at i;exact(b (c,bx) oO).trans i
 exact this H2 (λp X=>hwr (σ p.1,ur σ p.2) (sM.2 ⟨p,X,rfl⟩)) hfr):Q:=h
def aB(h:Q:=by
 by_cases c2:0<=f.oj
 .have s:¬f2.oj≠f.oj:=λe=>e (w.1 c2).1;have v:¬f2.st<f.st:=by have:=(w.1 c2).2;omega
  repeat (first|refine wTf ?_|refine MT ?_)
  refine⟨(),trivial,?_⟩;exact ed
 .repeat (first|refine wTf ?_|refine MT ?_)
  refine⟨(),trivial,?_⟩
  (refine lL.sub ⟨?_,?_,?_⟩<;>repeat' (first|exact True.intro|rfl|apply And.intro))):Q:=h
def aC(h:Q:=by have h:=ml ki (r.eval ((s x js).trans j)) O;have g:=r.od ((s y js).trans F);simp only[Rd]at h;obtain⟨A,cap,f,k2,k3,l,_⟩:=h;injection f with f;obtain⟨b,off,c,rfl,_⟩:=l i;have hu:=(kM.ok t _ p).2.1;refine⟨.bool false,?_,by rw[kA,nM];exact⟨O,rfl⟩⟩;have I:=AU (P:=prog) w t e (some ⟨b,off,none⟩) G.length cap 0 0 hu;simp[execOp,f,g,eqGuard,I]):Q:=h
def aD(h:Q:=by
 refine kL Gn O ntmps254 O ki [_,_,_,_] O λE S N i=>?_;have W:=kD func283 (c1);refine wI ?_;exact oY ⟨ri O O O (λ_=>by(repeat (first|exact xI|refine Io O ?_|refine MP ?_|refine MS ?_))),ri O O O (λ_=>by(repeat (first|exact xI|refine Io O ?_|refine MP ?_|refine MS ?_))),gu,gr,trivial⟩):Q:=h
def aE(h:Q:=by
 refine⟨cs,?_,l⟩;have z:=pX k T iy;have:a.tmps.getD n undef= .pointer (some ⟨b,0,none⟩):=eZ;simp only[ve,this,asAddr,Sem.run_bind,Sem.run_pure,Result.andThen_ok,z];rw[<-F];cases j:na x
 .have L:=(tZ k3).2 j;obtain⟨v,rfl⟩:∃v,cs= [v]:=⟨_,L⟩;simp at L;simp[<-L]
 .simp[(tZ k3).1 j]):Q:=h
def aF(h:Q:=by
 have a:=(nL b 1).isLt;have c:=(nL b 2).isLt;unfold pZ;split
 .exact⟨by show(ll _ _ _).1.length<=_;rw[qN];omega,kO _,kO _,by show(ll _ _ _).1.length<=_;rw[qN];omega⟩
 .exact⟨kO _,by show(ll _ _ _).1.length<=_;rw[qN];omega,by show(ll _ _ _).1.length<=_;rw[qN];omega,by show(ll _ _ _).1.length<=_;rw[qN];omega⟩):Q:=h
def aG(h:Q:=by
 refine⟨A,λj m p X=>?_,k3,λj m i hi=>?_⟩
 .rw[mq]at k2;have:=k2 j (by simpa using m);rw[mq]at this;simpa using this p X
 .rw[mq]at q;have D:=q j (by simpa using m);rw[mq]at D;have R:=D i jz;rw[wu]at R;refine R.imp id λT=>?_;rw[n i kh,n j m]at T;exact aif (by simpa using T)):Q:=h
def aH(h:Q:=by
 refine wE ?_;refine Wc (V8 25 (i:=G.length) O O O O f O (kK _) (KY (uz kM O)) jY jY O) hP ?_
 repeat (first|(refine ML 6 25 l O O λC y h=>?_;obtain⟨R,L,rfl,c,_⟩:=h;rw[c])|refine wEs ?_)
 exact BD (.inr O) O ⟨R,L,by simp,rfl⟩ ⟨vl rfl,trivial⟩):Q:=h
def aI(h:Q:=by
 have p:=aiH m (j+1);by_cases Z:j<m.length
 .have o:=abz m j Z;rw[o,lA]at p;refine wO ?_;refine⟨j+1,Z,by omega,?_⟩
  (refine lL.sub ⟨?_,?_,?_⟩<;>repeat' (first|exact True.intro|rfl|apply And.intro))
  all_goals (rw[o];rfl)
 .refine wO ?_;have:j=m.length:=eY;subst this;exact oY ⟨pY (by rw[nQ];rfl),trivial⟩):Q:=h
def aJ(h:Q:=by
 have hF: [r0,J,o,m]=oN l 4:=by
  rw[JC kh]at hF;exact hF
 rw[<-hF];refine lU (lL.froz S 8 O) ?_;refine lU (lL.ahH 5 8 (zs:= [qW r0,qW J,qW o,qW m]) O O (λH=>by(repeat (first|exact xI|refine Io O ?_|refine MP ?_|refine MS ?_))) jt O) ?_;refine wON ?_;exact oY ⟨gr,trivial⟩):Q:=h
def aK(h:Q:=by
 intro l B a w y v C r
 have H:Region.ready .any ops l= []:=by
  cases h:Region.ready .any ops l with
  |nil=>rfl
  |cons i t=>
   have hi:i∈Region.ready .any ops l:=by rw[h];simp
   rw[C6 y]at hi;have:0<(List.range ops.size).countP (λi=> !lI l i):=List.countP_pos_iff.2 ⟨i,by simpa using hi.1,by simp[hi.2.1]⟩;omega
 exact⟨H,done l B a w y H r⟩):Q:=h
def aL(h:Q:=by
 have hF: [r0,J,o]=oN l 3:=by
  rw[JC kh]at hF;exact hF
 rw[<-hF];refine lU (lL.froz S 8 O) ?_;refine lU (lL.ahH 5 8 (zs:= [qW r0,qW J,qW o]) O O (λH=>by(repeat (first|exact xI|refine Io O ?_|refine MP ?_|refine MS ?_))) jt O) ?_;refine wON ?_;exact oY ⟨gr,trivial⟩):Q:=h
def aM(h:Q:=by
 repeat (first|refine Wv (w9 O O O O O O j5) hP ?_|refine MT ?_)
 intro V y hV;have hD:=K.then hV;have d6:=kS xf (BO V h q.b i b _ (r.below H2).1 0 hD.2.1 (hk4.ok kh) hD.2.2);refine wU ?_;intro U y hU;refine wU ?_;exact ns O (hD.then hU) λ_=>trivial):Q:=h
def aN(h:Q:=by
 refine wE ?_;refine Wb (y6 O O O) hP ?_;refine wE ?_;refine Wb (ah6 O O O O O (adp O f) jY jY O) hP ?_;refine wE ?_;exact BD (v:=undef) (.inr O) O O ⟨gw,trivial⟩):Q:=h
def aO(h:Q:=by
 have hF: [r0,J]=oN l 2:=by
  rw[JC kh]at hF;exact hF
 rw[<-hF];refine lU (lL.froz S 8 O) ?_;refine lU (lL.ahH 5 8 (zs:= [qW r0,qW J]) O O (λH=>by(repeat (first|exact xI|refine Io O ?_|refine MP ?_|refine MS ?_))) jt O) ?_;refine wON ?_;exact oY ⟨gr,trivial⟩):Q:=h
def aP(h:Q:=by
 unfold zm vq;dsimp only;refine kL Gp O ntmps202 O ki [_,_,_,_] O λE S N k=>?_;have W:=kD vK (s);refine wI ?_;exact oY ⟨gu,gu,ri O O O (λ_=>by(repeat (first|exact xI|refine Io O ?_|refine MP ?_|refine MS ?_))),gr,trivial⟩):Q:=h
def aQ(h:Q:=by
 unfold zm vq;dsimp only;refine kL Gm O ntmps201 O ki [_,_,_,_] O λE S N j=>?_;have W:=kD vK (s);refine wI ?_;exact oY ⟨gu,gu,ri O O O (λ_=>by(repeat (first|exact xI|refine Io O ?_|refine MP ?_|refine MS ?_))),gr,trivial⟩):Q:=h
def aR(h:Q:=by
 rw[ec]at M
 repeat (first|refine Wb (xY (zs:= [decide (f.pins=0)]) O O O O O (xT kA _ O) jY jY) hP ?_|refine tT ?_)
 refine⟨j+1,Z,by omega,?_⟩;rw[M,t2];exact ed):Q:=h
def aS(h:Q:=by
 have p:(((z.app o.dst y.e).t,(z.app o.dst y.e).h):Sp)=H5 (z.t,z.h) o y:=by rw[St.T2,St.T3];rfl
 rw[p]at k A;refine⟨y::x,by simp[a],⟨S',by simpa using b,?_⟩,λi hi=>?_⟩
 .rw[sc,LI];simpa using k
 .cases i with
  |zero=>simpa[fs]using F
  |succ i=>
   rw[LI];simpa using A i jz):Q:=h
def aT(h:Q:=by
 have hF: [r0]=oN l 1:=by
  rw[JC kh]at hF;exact hF
 rw[<-hF];refine lU (lL.froz S 8 O) ?_;refine lU (lL.ahH 5 8 (zs:= [qW r0]) O O (λH=>by(repeat (first|exact xI|refine Io O ?_|refine MP ?_|refine MS ?_))) jt O) ?_;refine wON ?_;exact oY ⟨gr,trivial⟩):Q:=h
def aU(h:Q:=by
 have:∀l:List (Nat×Bx),(∀p∈l,H' (σ p.1)=H (σ p.1))->pA σ H H1 l->pA σ H' H1 l:=by
  intro l
  induction l with
  |nil=>exact λ_ _=>trivial
  |cons p l Z=>
   obtain⟨c,bx⟩:=p;intro b ⟨i,o,D⟩;exact⟨(b (c,bx) oO).trans i,o,Z (λp X=>b p (nV _ X)) D⟩
 exact this H1 hag F):Q:=h
def aV(h:Q:=by
 repeat (first|refine Wb (oR xF O O) hP ?_|refine Wv (sI xF O O O O O O O) hP ?_|refine Ip ?_|refine wLs ?_)
 exact oY ⟨gu,trivial⟩):Q:=h
def aW(h:Q:=by refine⟨(o2 _ ki).trans n.o,(o2 _ ki).trans n.l,(o2 _ ki).trans n.r,n.rw,n.rg,n.c.off λl j=>o2 l (by have:=x8 j;omega),n.s.off λl j=>o2 l (by obtain⟨a,b,_⟩:=j;omega),n.ln,n.lp,λi L b d g=>?_⟩;exact(n.lt i L b d g).off (o2 _ ki) (o2 _ ki) (o2 _ ki)):Q:=h
def aX(h:Q:=by
 have h2:o+q<off∨off+c'.length<=o+q:=by simp at d;omega
 rcases h2 with h2|h2
 .rw[oH,oH,pF kh,pF kh]
 .rw[o7 jY,o7 jY];simp[j]):Q:=h
def aY(h:Q:=by
 by_cases a:0<=t
 .by_cases b:t<8
  .rw[kW ⟨a,b⟩];refine wE ?_;exact oY ⟨Ah O b,trivial⟩
  .rw[la (λh=>b h.2)];refine wE ?_;exact oY ⟨Ew O b,trivial⟩
 .rw[la (λh=>a h.1)];refine wE ?_;exact oY ⟨gr,trivial⟩):Q:=h
def aZ(h:Q:=by
 have k:=R g;have a:=ER n g;clear P R;refine kL func229 O ntmps229 O ki [_,_] O λE S N i=>?_;have W:=kD xh (a);have z:=kD func284 (k);have Z:=kD xi (F);refine wA ?_;exact oY ⟨gu,gr,trivial⟩):Q:=h
def a4(h:Q:=by
 have k:=P g;have a:=Ia n g;clear P R;refine kL func229 O ntmps229 O ki [_,_] O λE S N i=>?_;have W:=kD xh (a);have z:=kD func285 (k);have Z:=kD xi (F);refine wA ?_;exact oY ⟨gu,gr,trivial⟩):Q:=h
def a5(h:Q:=by
 refine wI ?_;exact oY ⟨ri O O O (λ_=>by(repeat (first|exact xI|refine Io O ?_|refine MP ?_|refine MS ?_))),ri O O O (λ_=>by(repeat (first|exact xI|refine Io O ?_|refine MP ?_|refine MS ?_))),gu,gr,trivial⟩):Q:=h
def a6(h:Q:=by
 refine wA ?_;exact oY ⟨gu,ri O O O (λ_=>by(repeat (first|exact xI|refine Io O ?_|refine MP ?_|refine MS ?_))),ri O O O (λ_=>by(repeat (first|exact xI|refine Io O ?_|refine MP ?_|refine MS ?_))),gr,trivial⟩):Q:=h
def a7(h:Q:=by
 refine nW func49 O ntmps49 O ki [_] O λE S=>hTF λN i=>?_;refine wE ?_;exact BD (v:=undef) (.inr O) O O ⟨⟨_,_,rfl,rfl,kM.u5 O,.inl (Wk.agg (.cons (Wk.data O) (.cons Wk.nil (.cons Wk.nil (.cons Wk.nil (.cons Wk.nil .nil))))))⟩,trivial⟩):Q:=h
def a8(h:Q:=by
 refine wL ?_;refine Wb (YA mL.av (n:=l.length+1) O O O O O kh kh) hP ?_;refine wL ?_;refine Was 55 (AV.sl (some 55) 26 [mL.av ⟨m.key,v⟩]) O ?_;refine wL ?_;exact oY ⟨pY O,trivial⟩):Q:=h
def a9(h:Q:=by
 repeat refine Ip ?_
 iterate 3 refine wFs ?_
 refine Jg _ ?_;refine oz ?_;refine lU (lL.froz S 2 O) ?_;refine lU (lL.froz S 3 O) ?_;refine lU (lL.ref 2 2 O O O) ?_;refine lU (lL.ref 3 3 O O O) ?_;refine wF ?_;exact⟨.inr O,gr,trivial⟩):Q:=h
def ba(h:Q:=by
 constructor
 .rintro(⟨h1,b⟩|h1|⟨h1,b⟩)
  .exact .inl ⟨h1,by omega⟩
  .exact .inr h1
  .exact .inl ⟨h1,by omega⟩
 .rintro(⟨h1,b⟩|h1)
  .rcases Nat.lt_or_gt_of_ne b with c|c
   .exact .inl ⟨h1,c⟩
   .exact .inr (.inr ⟨h1,c⟩)
  .exact .inr (.inl h1)):Q:=h
def bc(h:Q:=by
 subst J;refine kz AL O Di O ki [_,_,_] O λE T P l=>?_;cases rb
 all_goals
  unfold tE at a;refine wJ ?_;exact ns O (Rt.of I n) λ_=>⟨gx,gx,gx,trivial⟩):Q:=h
def bh(h:Q:=by
 rw[T]at h;simp only[Option.map_some,mr,pq]at h;obtain⟨a,b⟩:=h;have k:m.path.toList= []:=pE a;unfold Go.method;simp[typeInfo,hi,T,b,k,Go.follow,Go.receiverAt,lu c,Go.Place.get]):Q:=h
def bk(h:Q:=by
 obtain⟨u1,q,eb,u2⟩:=hW';have dt:=kS func40 (Hh W' h q _ u2 ok1 ok2);rw[eb]at dt;refine wJ ?_;intro V v3 hV;refine wJ ?_;refine ns O ?_ λ_=>⟨gx,gx,trivial⟩;exact⟨(z2.trans u1).trans hV.1,hV.2⟩):Q:=h
def bm(h:Q:=by
 refine kL Gs O JX O ki [_,_,_] O λE S N j=>?_;have W:=kD Dr (d);have z:=kD xi (H);refine wI ?_;exact oY ⟨gu,gu,gr,trivial⟩):Q:=h
def bp(h:Q:=by
 by_cases c5:R.1.1.pc=5
 .rw[kx c5];refine tB ?_;intro Z' v hZ';refine tB ?_;refine ns O ?_ λ_=>trivial;exact⟨z2.trans hZ'.1,hZ'.2⟩
 .rw[ku c5];refine tB ?_;refine ns O ?_ λ_=>trivial;exact⟨z2,p,rfl,z1⟩):Q:=h
def bq(h:Q:=by
 refine nh so O ntmps271 O ki [_] O λE S=>hTF λN i=>?_;have K:=kD Ki (x);refine wY ?_;exact Nb ⟨⟨ii,rfl⟩,gv,trivial⟩):Q:=h
def br(h:Q:=by
 go_enter GJ,ntmps304
 go_wp2
 go_quiet (fail)
 go_wp2
 go_ret;exact⟨by simp[E],gP⟩):Q:=h
def bs(h:Q:=by
 cases rb
 all_goals
  unfold tE at a;refine wU ?_;intro Y y s;have K:=Z.go ki s;have c:=K.2.2;unfold o9.av tE at c;refine wU ?_;exact ns O (Rt.of I (K.put ki _)) λ_=>⟨gx,trivial⟩):Q:=h
def bv(h:Q:=by
 go_enter func158,ntmps158
 go_wp2
 go_ret;exact⟨by simp[E],gP⟩):Q:=h
def bw(h:Q:=by
 go_enter A6,ntmps266
 go_wp2
 go_ret;exact⟨by simp[E],gP⟩):Q:=h
def bz(h:Q:=by
 rintro e J ⟨rfl,I⟩
 go_wp2
 go_ret;exact⟨by rw[R,TO];rfl,gP⟩):Q:=h
def bA(h:Q:=by
 go_enter func90,ntmps90
 go_wp2
 go_ret;exact⟨by simp[E],gP⟩):Q:=h
def bB(h:Q:=by
 refine kR func170 O ntmps170 O ki [_] O λE S=>?_;have W:=kD GK (c1);have z:=kD GK (Ra o.val n.add);refine wC ?_;exact oY ⟨gu,trivial⟩):Q:=h
def bC(h:Q:=by
 refine wL ?_;refine Wb (YA mL.av (n:=l.length+1) O O O O O kh kh) hP ?_;refine wL ?_;exact oY ⟨pY O,trivial⟩):Q:=h
def bD(h:Q:=by
 obtain⟨X,es,k,ps,ms⟩:=n;dsimp only at g;subst g;dsimp only[Nd.av];refine kL xh O ntmps257 O ki [_] O λE S N i=>?_;refine wA ?_;exact oY ⟨gu,trivial⟩):Q:=h
def bE(h:Q:=by
 refine wI ?_;exact oY ⟨gu,gu,ri O O O (λ_=>by(repeat (first|exact xI|refine Io O ?_|refine MP ?_|refine MS ?_))),gr,trivial⟩):Q:=h
def bF(h:Q:=by
 refine wA ?_;exact oY ⟨ri O O O (λ_=>by(repeat (first|exact xI|refine Io O ?_|refine MP ?_|refine MS ?_))),gu,gu,gr,trivial⟩):Q:=h
def bG(h:Q:=by refine Wv (ald O O O O O O (by first|exact kO _|omega) kh) hP ?_;refine wB ?_;exact oY ⟨pY O,trivial⟩):Q:=h
def bH(h:Q:=by
 obtain⟨i,hi,rfl⟩:=vN.1 N;obtain⟨j,k,rfl⟩:=vN.1 d;rcases GP i j with c|c|c
 .have:=h.lt hi k c;omega
 .subst c;rfl
 .have:=h.lt k hi c;omega):Q:=h
def bI(h:Q:=by
 repeat (first|(refine l7 (lL.HD 6 (0,0) O) ?_)|refine tT ?_)
 exact uq (v:=_) iJ O (nw.refl D) λ_=>⟨vl O,gx,trivial⟩):Q:=h
def bJ(h:Q:=by
 rw[M]at next;refine wJ ?_;intro Z v o;refine wJ ?_;refine⟨(j+1,Z),⟨d,next Z o⟩,by dsimp only;omega,ed⟩):Q:=h
def bK(h:Q:=by
 refine wH ?_;refine Wv (HG O O O O (by rw[kX];exact X)) hP ?_;refine wH ?_;exact oY ⟨pY O,trivial⟩):Q:=h
def bL(h:Q:=by
 refine wU ?_;intro Y y s;have K:=Z.Hb ki O s;have d:=K.2.2;unfold mT.av at d;refine wU ?_;exact ns O (K.put ki _) λ_=>⟨gx,gx,trivial⟩):Q:=h
def bM(h:Q:=by
 go_round
 case rel=>
  refine⟨i+1,by omega,by omega,by go_num,λj l m A=>?_⟩;by_cases D:j=i
  .subst D;exact hb
  .exact N.out j l m kh
 case measure=>simp[intOf];omega):Q:=h
def bO(h:Q:=by
 refine kL Gs O JX O ki [_,_,_] O λE S N j=>?_;refine wI ?_;exact oY ⟨gu,gu,gr,trivial⟩):Q:=h
def bQ(h:Q:=by
 repeat (first|(refine l7 (lL.HD 6 (0,0) O) ?_)|refine tT ?_)
 exact uq (v:=.pointer none) iJ O (⟨O,rfl⟩) λ_=>⟨vl O,trivial⟩):Q:=h
def bR(h:Q:=by
 refine wU ?_;intro Y y t;have K:=Z.Hb ki O t;have f:=K.2.2;unfold qP.av at f;refine wU ?_;exact ns O ((K.put ki _).put ki _) λ_=>⟨gx,trivial⟩):Q:=h
def bS(h:Q:=by refine⟨(lo,(lo+hi)/2),⟨b,by dsimp only;omega,by dsimp only;omega⟩,by dsimp only;omega,?_⟩;exact ed):Q:=h
def bT(h:Q:=by
 repeat (first|(refine l7 (lL.HD 6 (0,0) O) ?_)|refine tT ?_)
 exact uq (v:=Bu p none) iJ O (⟨O,rfl⟩) λ_=>⟨vl O,trivial⟩):Q:=h
def bU(h:Q:=by
 repeat (first|(refine l7 (lL.HD 4 (0,0) O) ?_)|refine tT ?_)
 exact uq (v:=Bu p none) iJ O (⟨O,rfl⟩) λ_=>⟨vl O,trivial⟩):Q:=h
def bV(h:Q:=by
 simp only[pb,mF,kA,Rd,qQ,Value.cells];exact ee):Q:=h
def bW(h:Q:=by
 go_wp2
 go_ret;exact⟨by simp[E],gP⟩):Q:=h
def bX(h:Q:=by
 rw[<-z];refine wB ?_;refine Wv (ah9 O O O O O kh) hP ?_;refine wB ?_;exact oY ⟨pY O,trivial⟩):Q:=h
def bY(h:Q:=by
 rw[L];refine rM i ?_;rintro e w' ⟨v,B',rfl,o,D,h5⟩;refine hK B' _ w' ((o.rel r.nt r.df λs z t=>?_).put q D);obtain⟨v0,Y,W⟩:=r.tmp s z t;exact⟨v0,Y,h5 _ _ W⟩):Q:=h
def bZ(h:Q:=by
 refine wU ?_;refine ns O ?_ λ_=>trivial;exact((((((Y.put ki _).put ki _).put ki _).put ki _).put ki _).put ki _).put ki _):Q:=h
def cd(h:Q:=by
 simp only[nc,AJ,LX]
 repeat (first|rfl|(refine congr (py List.cons (alR _ _ kh)) ?_)|(refine congr (py List.cons O) ?_))):Q:=h
def cg(h:Q:=by have W:=kD yO (s);refine wB ?_;refine⟨j+1,c,by omega,?_⟩;rw[o];exact ed):Q:=h
def ch(h:Q:=by
 refine kL vK O JO O ki [_] O λE S N k=>?_;have z:=kD qC (d);refine wI ?_;exact oY ⟨gr,trivial⟩):Q:=h
def ci(h:Q:=by
 rcases k1 with k1|k1
 .refine wV ?_;exact ek
 .refine wV ?_;exact ns O (n) λ_=>⟨gx,trivial⟩):Q:=h
def cj(h:Q:=by
 simp only[lj]at h2;simp only[Exit.inBlock];split
 .rename_i L;rw[kx L]at h2;exact⟨B',S',h1,h2⟩
 .rename_i L;rw[ku L]at h2;exact⟨B',S',h1,h2⟩):Q:=h
def ck(h:Q:=by
 refine kz JM O ntmps164 O ki [_] O λE S N D=>?_;refine wV ?_;exact ns O (mV.refl hc') λ_=>⟨gx,trivial⟩):Q:=h
def cm(h:Q:=by
 refine wX ?_;exact oY ⟨ri O O O (λ_=>by(repeat (first|exact xI|refine Io O ?_|refine MP ?_|refine MS ?_))),gr,trivial⟩):Q:=h
def co(h:Q:=by
 rw[kJ ki];constructor
 .rintro⟨c,a,b⟩;simp only[Rd]at a;obtain⟨a,rfl⟩:=a;exact⟨a,b⟩
 .rintro⟨a,rfl⟩;exact⟨[v],by simp[Rd,a],rfl⟩):Q:=h
def cr(h:Q:=by have p:¬((n.toNat:Nat):Int)<n:=eY;refine wY ?_;exact Nb ⟨⟨ii,rfl⟩,ajJ O,trivial⟩):Q:=h
def cv(h:Q:=by have hmm:(Array.map (λx=>(x.1,a.eval x.2)) l.toArray)=(l.map λp=>(p.1,a.eval p.2)).toArray:=e1;simp only[execOp,hmm,Sem.run_bind,hbs];rfl):Q:=h
def cw(h:Q:=by
 repeat (first|refine wTf ?_|refine MT ?_)
 refine⟨(),trivial,?_⟩;exact ed):Q:=h
def cy(h:Q:=by
 have H:Ai J= .mz J:=by
  match J,M with
  | [],_=>rfl
  | [y],M=>exact absurd M.symm b
  |y::z::l,_=>rfl
 rw[H,mW];exact⟨K,rfl,k3⟩):Q:=h
def cz(h:Q:=by
 refine wE ?_;refine⟨(j+1,C),⟨Z,p⟩,by dsimp only;omega,?_⟩;exact ed):Q:=h
def cA(h:Q:=by
 refine tB ?_;intro Z v w;refine tB ?_;refine ns O ?_ λ_=>trivial;rw[e8]at w;rw[kx jg];exact⟨hY2.trans w.1,w.2⟩):Q:=h
def cB(h:Q:=by
 refine⟨j+1,⟨Z,by rw[y,ais _ m t j Z L]⟩,by omega,?_⟩;exact ed):Q:=h
def cC(h:Q:=by
 cases v
 all_goals
  unfold tE at c;refine wJ ?_;exact ns O (s) λ_=>⟨gx,gx,gx,trivial⟩):Q:=h
def cD(h:Q:=by
 dsimp only[Nd.av];refine kR uS O ntmps244 O ki [_] O λE S=>?_;refine wI ?_;exact oY ⟨gr,trivial⟩):Q:=h
def cE(h:Q:=by
 refine wU ?_;intro Y y s;have d:=s.2.2;unfold mT.av at d;refine wU ?_;exact ns O (s) λ_=>⟨gx,gx,trivial⟩):Q:=h
def cF(h:Q:=by
 by_cases p:k/8%64=9
 .refine wR ?_;exact oY ⟨gu,trivial⟩
 .refine wR ?_;exact oY ⟨gu,trivial⟩):Q:=h
def cG(h:Q:=by
 refine wH ?_;exact uq (v:=undef) (.inr O) O (by rw[K];exact⟨e,F⟩) λy=>⟨ana O (by rw[K];simp[KM,lJ,SJ]) rfl,trivial⟩):Q:=h
def cH(h:Q:=by
 refine⟨j+1,Z,by omega,?_⟩
 (refine lL.sub ⟨?_,?_,?_⟩<;>repeat' (first|exact True.intro|rfl|apply And.intro))
 all_goals (rw[o];rfl)):Q:=h
def cI(h:Q:=by
 simp only[P];constructor
 .rintro⟨a,f⟩;exact⟨by simpa using a,by simpa using f⟩
 .rintro⟨a,f⟩;exact⟨by simpa using a,by simpa using f⟩):Q:=h
def cJ(h:Q:=by
 refine wJ ?_;refine⟨j+1,⟨Z,next⟩,by omega,ed⟩):Q:=h
def cK(h:Q:=by
 refine wB ?_;refine⟨j+1,c,by omega,?_⟩;rw[o];exact ed):Q:=h
def cL(h:Q:=by
 refine wI ?_;refine⟨j+1,c,by omega,?_⟩;rw[o];exact ed):Q:=h
def cM(h:Q:=by
 refine wV ?_;refine⟨j+1,Z,by omega,?_⟩;rw[s];exact ed):Q:=h
def cN(h:Q:=by
 refine⟨u,by simp,?_⟩;obtain⟨v,k,c',A,D⟩:=m2 0 y O;simp at k;subst k
 show qJ _ w _ _ y u
 rw[kJ (oV A)];exact⟨c',A,D⟩):Q:=h
def cO(h:Q:=by
 refine kL vK O JO O ki [_] O λE S N k=>?_;refine wI ?_;exact oY ⟨gr,trivial⟩):Q:=h
def cP(h:Q:=by
 repeat refine MT ?_
 refine⟨(),trivial,?_⟩;exact ed):Q:=h
def cQ(h:Q:=by
 refine⟨c,?_,U⟩;rw[<-m];have:a.tmps.getD t undef=m9 x c:=by simp[CK,A]
 simp only[ve,this];rfl):Q:=h
def cR(h:Q:=by
 subst J;refine wU ?_;exact ns O ((K.put ki _).put ki _) λ_=>⟨gx,gx,trivial⟩):Q:=h
def cS(h:Q:=by
 refine⟨j+1,Z,by omega,?_⟩;rw[t];exact ed):Q:=h
def cT(h:Q:=by
 rw[show EE p none= .pointer none from rfl];refine wV ?_;exact ns O (nw.refl D) λ_=>⟨gx,trivial⟩):Q:=h
def cU(h:Q:=by
 refine wY ?_;exact Nb ⟨⟨ii,rfl⟩,gs,trivial⟩):Q:=h
def cV(h:Q:=by
 refine wV ?_;exact⟨(),trivial,ed⟩):Q:=h
def cW(h:Q:=by
 rintro b o Z (h|⟨l,h⟩|h)
 .exact .inl h
 .rcases own2 l b h with k|k
  .omega
  .exact .inr (.inl k)
 .exact box' b o h):Q:=h
def cX(h:Q:=by
 refine wJ ?_;intro Y y s;have d9:=HZ Y i b _ s.2.2;refine wJ ?_;exact ns O (s) λ_=>⟨gx,trivial⟩):Q:=h
def cY(h:Q:=by
 refine wI ?_;exact oY ⟨gu,gu,gu,gr,trivial⟩):Q:=h
def cZ(h:Q:=by
 refine wV ?_;exact ns O (O) λ_=>⟨⟨4,_,rfl,rfl,kM.u5 O,.inl (Wk.data O)⟩,gx,trivial⟩):Q:=h
def c4(h:Q:=by
 refine wV ?_;intro Y v s;refine wV ?_;exact ns O (D.toC s F) λ_=>⟨gx,gx,trivial⟩):Q:=h
def dc(h:Q:=by
 refine wV ?_;exact ns O (O) λ_=>⟨⟨4,_,rfl,rfl,kM.u5 O,.inl (E6 _)⟩,gx,trivial⟩):Q:=h
def dd(h:Q:=by
 intro b;refine wU ?_;exact uq (v:=.pointer (some ⟨b,0,none⟩)) (.inr O) O ⟨b,rfl,rfl⟩ λ_=>⟨vl O,trivial⟩):Q:=h
def dg(h:Q:=by have e:St.h ⟨T,(g,.froz x)::H⟩=l9 (St.h ⟨T,H⟩) g (.froz x):=kZ _ _ _;exact⟨B,by rw[e];exact r.froz t⟩):Q:=h
def dh(h:Q:=by
 refine wY ?_;exact Nb ⟨⟨ii,rfl⟩,gv,trivial⟩):Q:=h
def di(h:Q:=by have G:l≠(25,8*h+t):=λe=>i (.inr (.inr jr));simp only[ky _ _ K,ky _ _ G]):Q:=h
def dj(h:Q:=by
 intro Y v y;refine wV ?_;exact ns O (D.toC y (VC _ _ _)) λ_=>⟨aaM O,gx,trivial⟩):Q:=h
def dk(h:Q:=by
 refine wU ?_;exact ns O (Rt.of I ((K.put ki _).put ki _)) λ_=>⟨gx,trivial⟩):Q:=h
def dm(h:Q:=by
 rcases Ba i ops.size with h|h
 .exact h
 .rw[ub jE]at g;cases g):Q:=h
def dp(h:Q:=by
 refine⟨m9 y c::K,?_,by simp[l],by simp only[oe];exact⟨c,K,rfl,k2,F⟩⟩;simp[List.mapM_cons,e,k3]):Q:=h
def dq(h:Q:=by have c1:=kD Kc (s);refine wL ?_;exact oY ⟨gu,gr,trivial⟩):Q:=h
def dr(h:Q:=by have c1:=kD yO (s);refine wL ?_;exact oY ⟨gu,gr,trivial⟩):Q:=h
def ds(h:Q:=by
 refine wU ?_;exact ns O (Uw.of I (((K.put ki _).put ki _).put ki _)) λ_=>trivial):Q:=h
def dv(h:Q:=by have G:l≠(25,8*h+t):=λe=>k2 ju;simp only[ky _ _ K,ky _ _ G]):Q:=h
def dx(h:Q:=by
 rw[ku ki];refine wV ?_;exact ns O (nw.refl D) λ_=>⟨gx,trivial⟩):Q:=h
def dy(h:Q:=by
 obtain⟨rfl,rfl⟩:=b3 O;refine wE ?_;exact BD (v:=undef) (.inr O) O O ⟨aaM O,trivial⟩):Q:=h
def dz(h:Q:=by
 refine MU ?_;exact uq (v:=undef) (.inr O) O trivial λ_=>⟨gx,trivial⟩):Q:=h
def dA(h:Q:=by
 refine wE ?_;exact BD (v:=undef) (.inr O) O O ⟨B4 O O O (by simp[kA]),trivial⟩):Q:=h
def dB(h:Q:=by
 refine .inr ⟨?_,h,rfl,λ_ _ _=>rfl⟩;cases bx<;>first|rfl|exact absurd (r.nB h).1 i):Q:=h
def dC(h:Q:=by
 rw[o];exact ed):Q:=h
def dD(h:Q:=by
 refine wH ?_;exact ns O (⟨mP.refl i X,h⟩) λ_=>⟨gx,trivial⟩):Q:=h
def dE(h:Q:=by
 refine wE ?_;exact BD (v:=undef) (.inr O) O O ⟨gx,trivial⟩):Q:=h
def dF(h:Q:=by
 refine wV ?_;exact ns O (mV.refl u) λ_=>⟨gx,trivial⟩):Q:=h
def dG(h:Q:=by
 rw[lq.nok w];rw[w]at c1;refine wC ?_;exact oY ⟨gr,trivial⟩):Q:=h
def dH(h:Q:=by
 refine wL ?_;exact oY ⟨gu,gr,trivial⟩):Q:=h
def dI(h:Q:=by
 refine wM ?_;exact oY ⟨gu,gr,trivial⟩):Q:=h
def dJ(h:Q:=by
 refine wV ?_;exact ns O (O) λ_=>⟨gx,trivial⟩):Q:=h
def dK(h:Q:=by
 refine wT ?_;exact ns O (O) λ_=>⟨gx,trivial⟩):Q:=h
def dL(h:Q:=by
 refine wU ?_;exact ns O (O) λ_=>⟨gx,trivial⟩):Q:=h
def dM(h:Q:=by
 refine wJ ?_;exact ns O (O) λ_=>⟨gx,trivial⟩):Q:=h
def dN(h:Q:=by
 refine wL ?_;exact oY ⟨gr,gr,trivial⟩):Q:=h
def dO(h:Q:=by
 refine wF ?_;exact oY ⟨gr,gr,trivial⟩):Q:=h
def dP(h:Q:=by
 refine wT ?_;intro Y v t;refine wT ?_;exact ns O (t) λ_=>trivial):Q:=h
def dQ(h:Q:=by
 refine wV ?_;exact ns O (O) λ_=>⟨gw,trivial⟩):Q:=h
def dR(h:Q:=by
 rw[nQ];refine wB ?_;exact oY ⟨pY O,trivial⟩):Q:=h
def dS(h:Q:=by
 refine wR ?_;exact oY ⟨gu,trivial⟩):Q:=h
def dU(h:Q:=by
 refine wO ?_;exact oY ⟨gr,trivial⟩):Q:=h
def dV(h:Q:=by
 refine wC ?_;exact oY ⟨gr,trivial⟩):Q:=h
def dW(h:Q:=by
 refine wB ?_;exact oY ⟨gr,trivial⟩):Q:=h
def dX(h:Q:=by
 refine wL ?_;exact oY ⟨gr,trivial⟩):Q:=h
def dY(h:Q:=by
 refine wI ?_;exact oY ⟨gr,trivial⟩):Q:=h
def dZ(h:Q:=by
 refine wE ?_;exact oY ⟨gr,trivial⟩):Q:=h
def d1(h:Q:=by
 refine wB ?_;exact oY ⟨si O,trivial⟩):Q:=h
def ed(h:Q:=by(refine lL.sub ⟨?_,?_,?_⟩<;>repeat' (first|exact True.intro|rfl|apply And.intro))):Q:=h
def ee(h:Q:=by refine⟨O,?_⟩;repeat (first|rfl|refine⟨[_],_,rfl,⟨O,rfl⟩,?_⟩)):Q:=h
def ek(h:Q:=by exact ns O (n) λ_=>⟨B4 O O O O,trivial⟩):Q:=h
def en(h:Q:=by exact⟨p.dom g h0,b,p.oj g b h0 h1,h2⟩):Q:=h
def ep(h:Q:=by exact⟨e,k',kB _ _ _,by omega,λh=>by omega⟩):Q:=h
def eu(h:Q:=by exact pO (by simp)):Q:=h
def ew(h:Q:=by exact⟨_,o8 w.drew _,_,rfl,hge,hcmax cap,hsz⟩):Q:=h
def ez(h:Q:=by exact fresh [] (by simp;omega) (by simp[ov]) (by simp[Builtin.firstCells])):Q:=h
def eA(h:Q:=by exact⟨_,hput,cap,rfl,hroom,m4,by rw[hsp];exact m5⟩):Q:=h
def eB(h:Q:=by exact⟨O,rfl⟩):Q:=h
def eC(h:Q:=by exact oY ⟨pY O,pY O,trivial⟩):Q:=h
def eD(h:Q:=by exact BD (v:=undef) (.inr O) O O ⟨B4 O O O (by simp[kA,l]),trivial⟩):Q:=h
def eE(h:Q:=by exact BD (v:=undef) (.inr O) O O ⟨B4 O O O (by simp[kA,c2]),trivial⟩):Q:=h
def eF(h:Q:=by exact oY ⟨Pw O O O O,Pw O O O O,K8 O O O,trivial⟩):Q:=h
def eG(h:Q:=by exact ns O (O) λ_=>⟨B4 O O O (by simp[k3,kA,SJ]),trivial⟩):Q:=h
def eI(h:Q:=by exact ns O (O) λ_=>⟨B4 O O O (by simp[k3,l,y,kA,SJ]),trivial⟩):Q:=h
def eJ(h:Q:=by exact ns O (mV.refl q) λ_=>⟨B4 O O O O,trivial⟩):Q:=h
def eK(h:Q:=by exact⟨_,kQ a,by simpa using b⟩):Q:=h
def eL(h:Q:=by exact ns O (⟨λ_ _=>rfl,o⟩) λ_=>trivial):Q:=h
def eM(h:Q:=by exact ns O (nw.refl D) λ_=>⟨aaM O,trivial⟩):Q:=h
def eN(h:Q:=by exact ns O (d.put (by simp) _) λ_=>trivial):Q:=h
def eO(h:Q:=by exact ns O (n.put (by simp) _) λ_=>trivial):Q:=h
def eP(h:Q:=by exact(k.cl i c b d g).off λa q A=>o a _ (by omega) (by omega)):Q:=h
def eQ(h:Q:=by exact ns O (Z) λ_=>⟨B4 O O O O,trivial⟩):Q:=h
def eR(h:Q:=by exact ns O (K.put (by simp) _) λ_=>⟨B4 O O O O,trivial⟩):Q:=h
def eS(h:Q:=by exact ns O (o) λ_=>⟨B4 O O O O,trivial⟩):Q:=h
def eV(h:Q:=by exact ns O (hF) λ_=>⟨B4 O O O O,trivial⟩):Q:=h
def eW(h:Q:=by exact⟨r,H,(mT.xc x r).mono (by omega)⟩):Q:=h
def eX(h:Q:=by exact⟨λ_=>⟨O,qH _⟩,λ_=>rfl⟩):Q:=h
def eY(h:Q:=by omega):Q:=h
def eZ(h:Q:=by simp[CK,D,m9]):Q:=h
def e1(h:Q:=by simp):Q:=h
def e6(h:Q:=by unfold Addr.add;split<;>simp_all):Q:=h
def e7(h:Q:=by rw[A3];exact Nat.div_add_mod j n):Q:=h
def e9(h:Q:=by simpa[Rd]using h):Q:=h
def fc(h:Q:=by simp[Rd]at h):Q:=h
def fd(h:Q:=by simpa[qQ]using h):Q:=h
def ff(h:Q:=by simpa[oe]using h):Q:=h
def fg(h:Q:=by subst e;rw[hi]at hL;cases hL):Q:=h
def fh(h:Q:=by simp[mO]at d):Q:=h
def fj(h:Q:=by rw[mX k2];exact pC _ _ (by simpa using i)):Q:=h
def fk(h:Q:=by cases h):Q:=h
def fm(h:Q:=by rw[e,u]at c;cases c):Q:=h
def fo(h:Q:=by simp only[ov]at h;subst h;simp):Q:=h
def fq(h:Q:=by simp at h):Q:=h
def ft(h:Q:=by simp[sU]at h):Q:=h
def fu(h:Q:=by cases h:fn.body<;>simp_all):Q:=h
def fv(h:Q:=by apply sr;simp):Q:=h
def fw(h:Q:=by simp[hol,hnl,lZ]):Q:=h
def fy(h:Q:=by simp;omega):Q:=h
def fz(h:Q:=by simpa using hn):Q:=h
def fA(h:Q:=by rw[n5];omega):Q:=h
def fC(h:Q:=by rw[<-z5];rfl):Q:=h
def fD(h:Q:=by rw[<-sb];exact mH _ hi):Q:=h
def fE(h:Q:=by rw[nH,nH];simp[Lib.compareBytes,sJ]):Q:=h
def fF(h:Q:=by rw[nH,nH];simp):Q:=h
def fG(h:Q:=by simp[sJ]):Q:=h
def fH(h:Q:=by simp at c;omega):Q:=h
def fI(h:Q:=by have:=h.head b hb;omega):Q:=h
def fJ(h:Q:=by simpa using hi):Q:=h
def fK(h:Q:=by simp only[UE]at ht;obtain⟨h1,rfl⟩:=ht;exact R5 hg h1 h):Q:=h
def fL(h:Q:=by simp only[UE]at s;obtain⟨a,rfl⟩:=s;exact⟨hn,λ_=>rfl⟩):Q:=h
def fM(h:Q:=by simp only[tg,Rd]):Q:=h
def fN(h:Q:=by simp[mO]at h):Q:=h
def fO(h:Q:=by simpa using hnm):Q:=h
def fP(h:Q:=by cases y<;>first|exact F|exact absurd O (hn _)):Q:=h
def fQ(h:Q:=by rw[n5,q8];omega):Q:=h
def fR(h:Q:=by rw[<-lZ];exact mH _ x):Q:=h
def fS(h:Q:=by simpa using Z):Q:=h
def fT(h:Q:=by rw[<-lZ];exact mH _ z):Q:=h
def fU(h:Q:=by simpa using g):Q:=h
def fV(h:Q:=by simp[s5]):Q:=h
def fW(h:Q:=by rw[q8];omega):Q:=h
def fX(h:Q:=by rw[kX];omega):Q:=h
def fY(h:Q:=by simp[rX]):Q:=h
def fZ(h:Q:=by unfold mo;rw[kx A]):Q:=h
def f9(h:Q:=by rw[oI,z];rfl):Q:=h
def ga(h:Q:=by simpa using k2):Q:=h
def gc(h:Q:=by rw[g];rfl):Q:=h
def gg(h:Q:=by rw[JR,z,oq];rfl):Q:=h
def gh(h:Q:=by rw[nI,kQ (by omega)];rfl):Q:=h
def gi(h:Q:=by rw[oI,L];rfl):Q:=h
def gj(h:Q:=by rw[oI,H];rfl):Q:=h
def gk(h:Q:=by rw[oI,G];rfl):Q:=h
def gm(h:Q:=by rw[Lz,D.lp]):Q:=h
def gn(h:Q:=by rw[e]at m;exact absurd m (uy (by simp))):Q:=h
def gp(h:Q:=by simpa using L):Q:=h
def gq(h:Q:=by rw[oI,kQ Z];rfl):Q:=h
def gr(h:Q:=by exact K8 O O O):Q:=h
def gs(h:Q:=by exact akQ O O O O):Q:=h
def gu(h:Q:=by exact Pw O O O O):Q:=h
def gv(h:Q:=by exact anf O O O):Q:=h
def gw(h:Q:=by exact ana O O O):Q:=h
def gx(h:Q:=by exact B4 O O O O):Q:=h
def gy(h:Q:=by(first|exact oB O O|exact Yq O O|exact vW O O O O (by first|assumption|omega|decide)|exact wg O O O O (by first|assumption|omega|decide)|exact tl O O O|exact vV O O O|exact xV O O O|exact xU O O|exact aem O O O O (by first|rfl|assumption|omega|(simp;done)|(simp;omega))|exact rW O O O (by omega)|exact xZ O O O (by omega)|exact uh O O O (by omega)|exact sG O O O (by omega)|exact vf O O O (by omega)|exact qx O O O O (by assumption)|exact C4 ⟨_,mc⟩ pz O O|exact C2 ⟨_,mc⟩ vO O O|exact aeI ⟨_,underlying357⟩ vO O O|exact ajN ⟨_,vO⟩ mc O O|exact ajO ⟨_,pz⟩ mc O O|exact C3 s8 pz uU O O|exact SV O O O O O O O (by first|assumption|omega) (by simp) (by decide)|exact Ez kM rfl rfl rfl zL (kK _) (by decide)|exact PT rfl rfl rfl rfl rfl (by omega) (by omega)|exact wh rfl rfl rfl rfl (by omega)|exact wi rfl rfl rfl rfl (by omega)|exact uF rfl rfl rfl rfl (by omega)|exact uG rfl rfl rfl rfl (by omega)|exact sH rfl rfl rfl rfl rfl rfl rfl (by omega) (by omega)|exact Yt rfl rfl rfl rfl rfl rfl (by first|rfl|assumption|omega|(simp;done)|(simp;omega)) (by first|rfl|assumption|omega|(simp;done)|(simp;omega))|exact SU O O O O O O O O (by first|rfl|assumption|omega|(simp;done)|(simp;omega)) (by first|rfl|assumption|omega|(simp;done)|(simp;omega)) (by first|rfl|assumption|omega|(simp;done)|(simp;omega))|exact wQ O O O|exact zc O O|exact t5 O O O O O|exact vb O O O O O O O|exact Am O O O)):Q:=h
def gz(h:Q:=by(first|exact zB O O O O|exact aes O O O O O (by first|exact uE O|exact xT _ _ O|exact o_zero O) (by first|rfl|assumption|omega|(simp;done)|(simp;omega)) (by first|omega|(simp;omega)|(simp;done)) (by first|omega|(simp;omega)|(simp;done))|exact PD O O O O O (by first|exact uE O|exact xT _ _ O|exact o_zero O) (by first|omega|(simp;omega)|(simp;done)) (by first|omega|(simp;omega)|(simp;done))|exact xY O O O O O (by first|exact uE O|exact xT _ _ O|exact o_zero O) (by first|omega|(simp;omega)|(simp;done)) (by first|omega|(simp;omega)|(simp;done))|exact xW O O O O O (by first|exact uE O|exact xT _ _ O|exact o_zero O) (by first|omega|(simp;omega)|(simp;done)) (by first|omega|(simp;omega)|(simp;done))|exact xX O O O O O (by first|exact uE O|exact xT _ _ O|exact o_zero O) (by first|omega|(simp;omega)|(simp;done)) (by first|omega|(simp;omega)|(simp;done))|exact PU O O O|exact xH O O O O O O O O O|exact tQ O O O|exact Yu O O O O O (by first|rfl|assumption|omega|(simp;done)|(simp;omega)) (by first|rfl|assumption|omega|(simp;done)|(simp;omega)) (by first|rfl|assumption|omega|(simp;done)|(simp;omega)) (by first|rfl|assumption|omega|(simp;done)|(simp;omega))|exact SS (f:=lN) (z:=0#8) mc O O O O O O (by omega) (by first|rfl|assumption|omega|(simp;done)|(simp;omega)) (by first|omega|(simp;omega)|(simp;done)) (by first|omega|(simp;omega)|(simp;done)))):Q:=h
def gA(h:Q:=by(first|exact oB O O|exact vW O O O O (by first|assumption|omega|decide)|exact wg O O O O (by first|assumption|omega|decide)|exact tl O O O|exact vV O O O|exact xV O O O|exact xU O O|exact rW O O O (by omega)|exact xZ O O O (by omega)|exact uh O O O (by omega)|exact sG O O O (by omega)|exact vf O O O (by omega)|exact Cm O O O (by omega)|exact Ck O O O (by omega)|exact t6 O O O (by decide) O|exact vI O O O|exact vH O O O|exact Ao O O O|exact qx O O O O (by assumption)|exact An O O O|exact wh O O O O (by omega)|exact wi O O O O (by omega)|exact uF O O O O (by omega)|exact uG O O O O (by omega)|exact sH O O O O O O O (by omega) (by omega)|exact sI q9 O O O O O O O|exact sI zero_Cal O O O O O O O|exact sI zero_state O O O O O O O|exact sI zero_search O O O O O O O|exact S6 O O O O|exact Am O O O|exact w9 O O O O O O (by assumption)|exact sI tv O O O O O O O|exact wQ O O O|exact zc O O|exact t5 O O O O O|exact vb O O O O O O O|exact y7 O O O|exact BN O O O O O O O O O|exact Cn O O O O O O|exact Cl O O O (by omega)|exact FD O O O (by omega))):Q:=h
def gB(h:Q:=by(first|exact oB O O|exact vW O O O O (by first|assumption|omega|decide)|exact wg O O O O (by first|assumption|omega|decide)|exact tl O O O|exact vV O O O|exact xV O O O|exact xU O O|exact rW O O O (by omega)|exact xZ O O O (by omega)|exact uh O O O (by omega)|exact sG O O O (by omega)|exact vf O O O (by omega)|exact Cm O O O (by omega)|exact Ck O O O (by omega)|exact t6 O O O (by decide) O|exact vI O O O|exact vH O O O|exact Ao O O O|exact qx O O O O (by assumption)|exact An O O O|exact wh O O O O (by omega)|exact wi O O O O (by omega)|exact uF O O O O (by omega)|exact uG O O O O (by omega)|exact sH O O O O O O O (by omega) (by omega)|exact wQ O O O|exact zc O O|exact t5 O O O O O|exact vb O O O O O O O|exact y7 O O O|exact Am O O O|exact w9 O O O O O O (by assumption)|exact ak7 O O O|exact alc ⟨_,mc⟩ underlying265 O O (by omega)|exact alb ⟨_,underlying265⟩ mc O O (by omega)|exact BN O O O O O O O O O|exact Cn O O O O O O|exact Cl O O O (by omega)|exact FD O O O (by omega))):Q:=h
def gC(h:Q:=by(first|exact oB O O|exact vW O O O O (by first|assumption|omega|decide)|exact wg O O O O (by first|assumption|omega|decide)|exact tl O O O|exact vV O O O|exact xV O O O|exact xU O O|exact rW O O O (by omega)|exact xZ O O O (by omega)|exact uh O O O (by omega)|exact sG O O O (by omega)|exact vf O O O (by omega)|exact Cm O O O (by omega)|exact Ck O O O (by omega)|exact t6 O O O (by decide) O|exact vI O O O|exact vH O O O|exact Ao O O O|exact qx O O O O (by assumption)|exact An O O O|exact wh O O O O (by omega)|exact wi O O O O (by omega)|exact uF O O O O (by omega)|exact uG O O O O (by omega)|exact sH O O O O O O O (by omega) (by omega)|exact wQ O O O|exact zc O O|exact t5 O O O O O|exact vb O O O O O O O|exact y7 O O O|exact BN O O O O O O O O O|exact Cn O O O O O O|exact Cl O O O (by omega)|exact FD O O O (by omega))):Q:=h
def gD(h:Q:=by(first|exact zB O O O O|exact xY O O O O O (by first|exact uE O|exact xT _ _ O) (by first|omega|(simp;omega)|simp) (by first|omega|(simp;omega)|simp)|exact xW rfl rfl rfl rfl rfl (by first|exact uE rfl|exact xT _ _ rfl) (by first|omega|(simp;omega)|simp) (by first|omega|(simp;omega)|simp)|exact xX rfl rfl rfl rfl rfl (by first|exact uE rfl|exact xT _ _ rfl) (by first|omega|(simp;omega)|simp) (by first|omega|(simp;omega)|simp)|exact y6 rfl rfl rfl|exact xH rfl rfl rfl rfl rfl rfl rfl rfl rfl|exact tQ rfl rfl rfl|exact oR q9 rfl rfl|exact oR zero_Cal rfl rfl|exact oR zero_state rfl rfl|exact oR zero_b14 rfl rfl|exact oR tv rfl rfl|exact qo tv rfl rfl rfl rfl rfl rfl rfl rfl|exact qo q9 rfl rfl rfl rfl rfl rfl rfl rfl)):Q:=h
def gE(h:Q:=by repeat (first|exact GZ.nil|refine GZ.cons (.inl ⟨O,rfl⟩) ?_|refine GZ.cons (.inr ⟨_,_,_,_,_,_,_,rfl,rfl,(by first|with_reducible assumption|with_reducible exact kC _ _ _|(refine(ky _ _ (by first|with_reducible assumption|exact pv (by with_reducible assumption)|decide|(intro h;cases h))).trans ?_;first|with_reducible assumption|with_reducible exact kC _ _ _|(refine(ky _ _ (by first|with_reducible assumption|exact pv (by with_reducible assumption)|decide|(intro h;cases h))).trans ?_;first|with_reducible assumption|with_reducible exact kC _ _ _|(refine(ky _ _ (by first|with_reducible assumption|exact pv (by with_reducible assumption)|decide|(intro h;cases h))).trans ?_;first|with_reducible assumption|with_reducible exact kC _ _ _))))⟩) ?_)):Q:=h
def gF(h:Q:=by first|with_reducible assumption|with_reducible exact kC _ _ _|(refine(ky _ _ (by first|with_reducible assumption|exact pv (by with_reducible assumption)|decide|(intro h;cases h))).trans ?_;first|with_reducible assumption|with_reducible exact kC _ _ _|(refine(ky _ _ (by first|with_reducible assumption|exact pv (by with_reducible assumption)|decide|(intro h;cases h))).trans ?_;first|with_reducible assumption|with_reducible exact kC _ _ _|(refine(ky _ _ (by first|with_reducible assumption|exact pv (by with_reducible assumption)|decide|(intro h;cases h))).trans ?_;first|with_reducible assumption|with_reducible exact kC _ _ _)))):Q:=h
def gG(h:Q:=by(first|exact zB O O O O|exact xY O O O O O (by first|exact uE O|exact xT _ _ O) (by first|omega|(simp;omega)|simp) (by first|omega|(simp;omega)|simp)|exact xW rfl rfl rfl rfl rfl (by first|exact uE rfl|exact xT _ _ rfl) (by first|omega|(simp;omega)|simp) (by first|omega|(simp;omega)|simp)|exact xX rfl rfl rfl rfl rfl (by first|exact uE rfl|exact xT _ _ rfl) (by first|omega|(simp;omega)|simp) (by first|omega|(simp;omega)|simp)|exact y6 rfl rfl rfl|exact xH rfl rfl rfl rfl rfl rfl rfl rfl rfl|exact tQ rfl rfl rfl)):Q:=h
def gH(h:Q:=by(first|exact nX kM (d:=none) O O O O O O O O O O|exact aeq (f:=lN) (z:=0#8) O O O O (by first|rfl|assumption|omega|(simp;done)|(simp;omega)) (by first|rfl|assumption|omega|(simp;done)|(simp;omega)) (by first|rfl|assumption|omega|(simp;done)|(simp;omega)))):Q:=h
def gI(h:Q:=by(first|exact PL O O O O O O|exact kE.i (oB O O)|exact kE.i (Lh O O)|exact kE.i (HH O O O O)|exact kE.i (Li O O O)|exact kE.i (wQ O O O)|exact kE.i (vb O O O O O O O)|exact kE.i (XE O O O O O O O))):Q:=h
def gJ(h:Q:=by(first|exact S5 O O O O|exact FE O O O O|exact ali O O O O|exact aeM O O O O|exact alj O O O O Z3|exact IC underlying100 O O O Rz akh|exact ah4 O O O O O O O (by assumption) O)):Q:=h
def gK(h:Q:=by repeat (first|with_reducible assumption|with_reducible exact I0.new (by simp)|with_reducible refine I0.past ?_ _|with_reducible refine I0.drew ?_|with_reducible refine I0.drewN ?_ _|refine I0.ext ?_ (by with_reducible assumption))):Q:=h
def gL(h:Q:=by first|with_reducible assumption|(apply Pu;first|with_reducible assumption|(apply Pu;first|with_reducible assumption|(apply Pu;first|with_reducible assumption|(apply Pu;with_reducible assumption))))):Q:=h
def gM(h:Q:=by(first|exact we underlying23 O O O|exact we underlying42 O O O|exact sI xF O O O O O O O|exact sI q9 O O O O O O O)):Q:=h
def gN(h:Q:=by first|exact aie|exact Jh.no|exact HL Jh.no|exact HL (HL Jh.no)|exact HL (HL (HL Jh.no))|exact λS h=>absurd h.1 (by simp)):Q:=h
def gO(h:Q:=by(first|exact on_ld O O O (by first|rfl|assumption|omega|(simp;done)|(simp;omega)) (by first|rfl|assumption|omega|(simp;done)|(simp;omega)) O)):Q:=h
def gP(h:Q:=by repeat (first|exact pr.refl _|assumption|refine pr.drew ?_|refine pr.drewN ?_ _|refine pr.alloc ?_ _|refine pr.trans ?_ (by assumption))):Q:=h
def gQ(h:Q:=by show kV k ((k,_)::T)=_;rw[show kV k ((k,Hf k y)::T)=l9 (λj=>kV j T) k (Hf k y) k from congrFun (kZ _ _ _) k,kB]):Q:=h
def gR(h:Q:=by intro H';simp only[nc,AJ];(repeat (first|exact xI|refine Io O ?_|refine MP ?_|refine MS ?_));done):Q:=h
def gS(h:Q:=by first|exact ac1 O (by with_reducible exact aoN)|exact ac1 O (by with_reducible exact aoO)|exact aky O):Q:=h
def gT(h:Q:=by(first|exact oR q9 O O|exact oR acn O O|exact qo BM O O O O O O O O)):Q:=h
def gU(h:Q:=by(first|exact kE.i (xH O O O O O O O O O)|exact kE.i (O6 O O O O O O O O O))):Q:=h
def gV(h:Q:=by repeat (first|exact .nil|refine .cons (.inl ⟨O,rfl⟩) ?_|refine .cons (.inr ⟨O,λ_=>Wk.tok⟩) ?_)):Q:=h
def gW(h:Q:=by first|with_reducible assumption|exact pv (by with_reducible assumption)|decide|(intro h;cases h)):Q:=h
def gY(h:Q:=by rw[aiI];(refine lL.sub ⟨?_,?_,?_⟩<;>repeat' (first|exact True.intro|rfl|apply And.intro))):Q:=h
def gZ(h:Q:=by(first|exact sI BM O O O O O O O|exact sI tv O O O O O O O)):Q:=h
def g9(h:Q:=by rw[l];(refine lL.sub ⟨?_,?_,?_⟩<;>repeat' (first|exact True.intro|rfl|apply And.intro))):Q:=h
def hc(h:Q:=by repeat (first|with_reducible assumption|refine mY.put ?_ (A8 O))):Q:=h
def hf(h:Q:=by first|decide+kernel|(simp only[nc,AJ];decide+kernel)):Q:=h
def ho(h:Q:=by(first|exact nX kM (d:=none) O O O O O O O O O O)):Q:=h
def hp(h:Q:=by subst e;exact .inr (.inr (.inr ⟨by simp,by simp,by dsimp only;omega⟩))):Q:=h
def hr(h:Q:=by repeat' (first|exact True.intro|rfl|apply And.intro|(simp;done))):Q:=h
def hs(h:Q:=by(first|exact on_make O O O O O O O O (by omega) (by omega))):Q:=h
def hE(h:Q:=by rw[F7 hi,akC hi];simp only[lZ,uR];omega):Q:=h
def hG(h:Q:=by simp only[nc,AJ,anK,anJ,anI];exact O):Q:=h
def hI(h:Q:=by simp only[Op.operands];simp;simp at F;exact .inr (.inr (.inl F))):Q:=h
def hJ(h:Q:=by simp only[Op.operands];simp;simp at F;exact .inr (.inr (.inr F))):Q:=h
def hP(h:Q:=by(first|exact Vg|exact Vh O (by with_reducible rfl))):Q:=h
def hQ(h:Q:=by first|exact uE O|exact xT _ _ O|exact o_zero O):Q:=h
def h7(h:Q:=by first|rfl|assumption|omega|(simp;done)|(simp;omega)):Q:=h
def h8(h:Q:=by first|exact Vg|exact Vh O (by with_reducible rfl)):Q:=h
def ia(h:Q:=by simp only[Op.operands];simp;simp at F;exact .inr (.inl F)):Q:=h
def ib(h:Q:=by rw[F7 hi];simp only[lZ,uR];omega):Q:=h
def ic(h:Q:=by simp only[lA,List.length_singleton];omega):Q:=h
def ig(h:Q:=by(first|exact Vg|exact Vh O (by with_reducible rfl))):Q:=h
def ii(h:Q:=by repeat' (first|exact True.intro|rfl|apply And.intro)):Q:=h
def ij(h:Q:=by rw[ky _ _ (by simp),ky _ _ (by simp),kC]):Q:=h
def ik(h:Q:=by rw[ky _ _ (by simp),ky _ _ (by simp)];exact c):Q:=h
def im(h:Q:=by simp only[Op.operands];simp;simp at F;exact .inr F):Q:=h
def io(h:Q:=by rw[e];exact .inr (.inl ⟨by simp,by simp,rfl⟩)):Q:=h
def ip(h:Q:=by injection h with h;subst h;exact⟨hD,by simp⟩):Q:=h
def iq(h:Q:=by simp[Op.operands,Call.operands];exact .inr F):Q:=h
def ir(h:Q:=by simp[Op.operands,Call.operands];exact .inr I):Q:=h
def it(h:Q:=by first|exact .inl O|exact .inr ⟨_,_,rfl⟩):Q:=h
def iu(h:Q:=by first|exact uE O|exact xT _ _ O):Q:=h
def iv(h:Q:=by first|with_reducible assumption|assumption):Q:=h
def iw(h:Q:=by rw[kX,n5];omega):Q:=h
def iy(h:Q:=by intro h;cases x<;>simp_all[na,lE]):Q:=h
def iz(h:Q:=by show w.heap.size<(w.heap.push _).size;simp):Q:=h
def iA(h:Q:=by simpa using(mS.1 a).1):Q:=h
def iB(h:Q:=by rw[(B.put 0 _).row,Vl.put];exact Vl.row _):Q:=h
def iC(h:Q:=by show(kV c' H2).isSome=true;rw[f];rfl):Q:=h
def iD(h:Q:=by first|omega|(simp;omega)|(simp;done)):Q:=h
def iE(h:Q:=by subst e;exact .inl ⟨by simp,by simp,rfl⟩):Q:=h
def iF(h:Q:=by first|assumption|omega|(simp;omega)):Q:=h
def iG(h:Q:=by rw[e];exact .inl ⟨.inr (.inl O),rfl⟩):Q:=h
def iH(h:Q:=by have:=k.ev;show S.ev.length<=_;omega):Q:=h
def iI(h:Q:=by rw[ky _ _ (by simp),kC];rfl):Q:=h
def iJ(h:Q:=by first|exact .inl O|exact .inr O):Q:=h
def iK(h:Q:=by first|assumption|omega|exact O):Q:=h
def iL(h:Q:=by rw[e];exact⟨by simp,by simp,rfl⟩):Q:=h
def iM(h:Q:=by have:=k.mh;simpa using this):Q:=h
def iN(h:Q:=by have:=m.mh;simpa using this):Q:=h
def iO(h:Q:=by first|omega|(simp;omega)|simp):Q:=h
def iP(h:Q:=by first|assumption|omega|decide):Q:=h
def iQ(h:Q:=by rw[ky _ _ (by simp),kC]):Q:=h
def iR(h:Q:=by simp[Op.operands];exact⟨p.1,X⟩):Q:=h
def iS(h:Q:=by cases bx<;>first|rfl|cases h):Q:=h
def iT(h:Q:=by rw[xn];exact hfit):Q:=h
def iU(h:Q:=by rw[e];exact .inl ⟨.inl O,rfl⟩):Q:=h
def iV(h:Q:=by simp[Op.operands,Call.operands]):Q:=h
def iW(h:Q:=by simp[go_sem,C0,vX]):Q:=h
def iX(h:Q:=by rw[hc2];exact vo hc1):Q:=h
def iY(h:Q:=by rw[rT];assumption):Q:=h
def iZ(h:Q:=by rw[xo];omega):Q:=h
def i0(h:Q:=by rw[kX];exact u):Q:=h
def i1(h:Q:=by rw[<-nJ hc1];exact hfit):Q:=h
def i2(h:Q:=by rw[kX];exact i):Q:=h
def i3(h:Q:=by unfold kP.ask;split<;>rfl):Q:=h
def i4(h:Q:=by rw[q8];omega):Q:=h
def i5(h:Q:=by rw[hl2];simp at F⊢;omega):Q:=h
def i6(h:Q:=by rw[n5];omega):Q:=h
def i7(h:Q:=by have:=enc.size G[i];omega):Q:=h
def i8(h:Q:=by rw[m];exact YS _ _ c):Q:=h
def i9(h:Q:=by simp[Op.operands];exact F):Q:=h
def ja(h:Q:=by simpa using pg k9):Q:=h
def jb(h:Q:=by rw[kX];omega):Q:=h
def jc(h:Q:=by rw[lP];omega):Q:=h
def jd(h:Q:=by first|assumption|omega):Q:=h
def je(h:Q:=by rw[Bh]at h;cases h):Q:=h
def jf(h:Q:=by rw[ZS]at h;cases h):Q:=h
def jg(h:Q:=by unfold ae5;simp;omega):Q:=h
def jh(h:Q:=by with_reducible assumption):Q:=h
def ji(h:Q:=by rw[aek L,<-U];omega):Q:=h
def jj(h:Q:=by have:=x8 g;omega):Q:=h
def jk(h:Q:=by rw[F7 hi];omega):Q:=h
def jl(h:Q:=by simpa[mR]using d):Q:=h
def jm(h:Q:=by rw[pV];omega):Q:=h
def jn(h:Q:=by simpa[mO]using h):Q:=h
def jo(h:Q:=by simpa[mO]using F):Q:=h
def jp(h:Q:=by unfold maxLen;omega):Q:=h
def jq(h:Q:=by simp[kY.put,kq]):Q:=h
def jr(h:Q:=by rw[e];simp;omega):Q:=h
def js(h:Q:=by simp[Op.operands]):Q:=h
def jt(h:Q:=by simp[qW,lE]):Q:=h
def ju(h:Q:=by rw[e];simp[CLs]):Q:=h
def jv(h:Q:=by rw[kC];rfl):Q:=h
def jw(h:Q:=by dsimp only;omega):Q:=h
def jx(h:Q:=by simpa using hfit):Q:=h
def jy(h:Q:=by simpa using hnl):Q:=h
def jz(h:Q:=by simpa using hi):Q:=h
def jA(h:Q:=by simpa using hb):Q:=h
def jB(h:Q:=by rw[z5];omega):Q:=h
def jC(h:Q:=by decide+kernel):Q:=h
def jD(h:Q:=by simp[go_sem]):Q:=h
def jE(h:Q:=by simpa using h):Q:=h
def jF(h:Q:=by simpa using p):Q:=h
def jG(h:Q:=by simpa using n):Q:=h
def jH(h:Q:=by simpa using y):Q:=h
def jI(h:Q:=by simpa using Y):Q:=h
def jJ(h:Q:=by simpa using e):Q:=h
def jK(h:Q:=by simpa using c):Q:=h
def jL(h:Q:=by simpa using F):Q:=h
def jM(h:Q:=by simpa using U):Q:=h
def jN(h:Q:=by simpa using g):Q:=h
def jO(h:Q:=by simpa using d):Q:=h
def jP(h:Q:=by simp[mR]):Q:=h
def jQ(h:Q:=by simpa using a):Q:=h
def jR(h:Q:=by rw[adV]):Q:=h
def jS(h:Q:=by simpa using W):Q:=h
def jT(h:Q:=by simpa using N):Q:=h
def jU(h:Q:=by simpa using i):Q:=h
def jV(h:Q:=by simpa using o):Q:=h
def jW(h:Q:=by rw[kC]):Q:=h
def jX(h:Q:=by rw[e];simp):Q:=h
def jY(h:Q:=by simp;omega):Q:=h
def jZ(h:Q:=by rw[c];rfl):Q:=h
def j0(h:Q:=by rw[v];rfl):Q:=h
def j4(h:Q:=by rw[u];rfl):Q:=h
def j5(h:Q:=by assumption):Q:=h
def j6(h:Q:=by kernel_rfl):Q:=h
def j7(h:Q:=by exact O):Q:=h
def j8(h:Q:=by simp[m]):Q:=h
def j9(h:Q:=by simp[u]):Q:=h
def kc(h:Q:=by simp[e]):Q:=h
def kd(h:Q:=by cases h):Q:=h
def ke(h:Q:=by rw[e]):Q:=h
def kg(h:Q:=by decide):Q:=h
def kh(h:Q:=by omega):Q:=h
def ki(h:Q:=by simp):Q:=h
def kj(h:Q:=by rfl):Q:=h
def hTF(h:(!true)=false->(!false)=true->Q):Q:=h O O
