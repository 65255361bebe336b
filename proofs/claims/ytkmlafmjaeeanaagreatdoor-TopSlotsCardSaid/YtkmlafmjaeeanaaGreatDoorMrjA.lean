/- TopSlots, part A: the laws of steps through code, plain facts of bits, runs and lists. -/
import Derived.Carry
import Derived.ChangeMaps4
import Derived.Deep.AppendSrc
import Derived.Deep.Draws
import Derived.Deep.Grids
import Derived.Deep.Quiet
import Derived.Deep.Slices
import Derived.Ground.Names2Prog
import Derived.Ground.SlsfProg
import Derived.Laws.Externs
import Derived.Laws.ResultCell
import Derived.Laws.StructEq
import Derived.Lib.AppendIntMem
import Derived.Lib.AppendZerosOnto
import Derived.Lib.Builder
import Derived.Lib.Bytealg
import Derived.Lib.CountLaws
import Derived.Lib.Hide
import Derived.Lib.IndexBytes
import Derived.Lib.IndexLaws
import Derived.Lib.IndexMore
import Derived.Lib.ItoaLen
import Derived.Lib.ItoaNum
import Derived.Lib.Join
import Derived.Lib.LaidTab
import Derived.Lib.SlBytesConst
import Derived.Lib.Split
import Derived.Lib.SplitLaws
import Derived.Lib.UnsafeStr
import Derived.MapKept
import Derived.Maps.RangeRun
import Derived.OpenShut
import Derived.OrdersHeld
import Derived.OrdersIn
import Derived.ProofKit
import Derived.RangeFuncBound
import Derived.RangeFuncCalls
import Derived.RangeFuncFrom
import Derived.RangeFuncLeaves
import Derived.RecoverIn
import Derived.Scope
import Derived.Shelf.Bits.Mul64
import Derived.Shelf.LaysM
import Derived.Shelf.SlGeneric
import Derived.Shelf.SlSortCmp.HeapSort1
import Derived.Shelf.SlSortCmp.Insertion
import Derived.Shelf.SlSortCmp.Insertion1
import Derived.Shelf.SlSortCmp.Median1
import Derived.Shelf.SlSortCmp.NoneTotal
import Derived.Shelf.SlSortCmp.PartialInsertion1
import Derived.Shelf.SlSortCmp.Partition1
import Derived.Shelf.SlSortCmp.PartitionEqual1
import Derived.Shelf.SlSortCmp.Pdq1
import Derived.Shelf.SlSortCmp.Pivot1
import Derived.Shelf.SlSortCmp.ReverseRange1
import Derived.Shelf.SlSortCmp.SiftDown1
import Derived.Shelf.SlSortCmp.Whole1
import Derived.Shelf.Slices.Clone
import Derived.Shelf.Slices.Turned
import Derived.Shelf.Small.Bits
import Derived.Shelf.Small.Strs
import Derived.Shelf.Strconv.Itoa0
import Derived.Shelf.Strconv.Itoa1
import Derived.Shelf.Strconv.Itoa2
import Derived.Shelf.Strconv.Itoa3
import Derived.Shelf.Strings.Builder1
import Derived.Shelf.Strings.Builder2
import Derived.Shelf.Strings.Builder2Cap
import Derived.Shelf.Strings.BuilderF
import Derived.Shelf.Strings.Count
import Derived.Shelf.Strings.Cut
import Derived.Shelf.Strings.Explode
import Derived.Shelf.Strings.OnBuilder
import Derived.Shelf.Strings.Prefix
import Derived.Shelf.Strings.Repeat
import Derived.Shelf.Strings.RuneCount
import Derived.Shelf.Strings.Search1
import Derived.Shelf.Strings.Search2
import Derived.Shelf.Strings.Search3
import Derived.Shelf.Strings.Shaped
import Derived.Shelf.Strings.Split
import Derived.Shelf.Strings.SplitShaped
import Derived.Shelf.Unicode.Decode
import Derived.Shelf.Unicode.DecodeAny
import Derived.Shelf.Unicode.DecodeSlow
import Derived.Shelf.Utf8.RuneCount
import Derived.ShutString
import Derived.SizedLaws
import Derived.SliceStrings
import Derived.Sort.AssemblyPlain
import Derived.Sort.Defs
import Derived.Sort.LotC
import Derived.Sort.Statements
import Derived.Sort.Walk13a
import Derived.Sort.WalkA14
import Derived.Sort.WalkB3
import Derived.StillTail
import Derived.Stop.LaidErr
import Derived.WalkKit
import Derived.WalkLawsBesides
import Derived.WalkSpells
import Derived.Test.YtkmlafmjaeeanaaGreatDoorProg
import Derived.Test.YtkmlafmjaeeanaaGreatDoorRows
set_option linter.all false
set_option maxHeartbeats 2000000
set_option maxRecDepth 20000
open Go Go.RowKit Go.Proofs.Tryz
open _root_ renaming rfl→Z,Nat→Y,Int→H,List→Ae,if_neg→Ag,if_pos→Ai,Array→Ap,congrArg→Ar,Option→Av,Bool→Aw,trivial→AB,UInt8→AH,String→AJ,absurd→AK,decide_eq_true→AM,decide_eq_false→AN,of_decide_eq_true→AO,dif_pos→AQ,of_decide_eq_false→AR
open _root_.Array renaming replicate→JW
open _root_.Bool renaming true→Af,false→Aj
open _root_.ByteArray renaming size→PS,toList→RB
open _root_.Go renaming World→Ad,Value→Ah,TypeId→Ay,Addr→AC,Operand→AD,Program→AE,Act→AF,Oper→AG,IntKind→AI,Code→AL,Exit→AP
open _root_.List renaming replicate→BG,length→DW,range'→GX,length→Aim
open _root_.Nat renaming blt→BL,beq→Jw,reducePow→Lh,cast→Mf,strongRecOn→Ub
open _root_.Option renaming some→Ns,some→X,none→Aa
open _root_.UInt8 renaming ofNat→BS
namespace Go.Proofs.YtkmlafmjaeeanaaGreatDoor
def Bq:=@Nat.le_refl
def BA:=@List.length_append
def BD:=@Nat.zero_le
def BF:=@Nat.le_trans
def BM:=@List.getElem_mem
def BN:=@List.getElem?_eq_getElem
def BX:=@List.getD_eq_getElem?_getD
def BY:=@List.length_take
def Ck:=@List.mem_map
def Cm:=@List.length_replicate
def Cp:=@List.map_cons
def Cq:=@List.append_assoc
def Cv:=@List.length_cons
def CG:=@List.mem_singleton
def CJ:=@List.length_singleton
def CK:=@List.length_drop
def CQ:=@List.mem_range
def CR:=@List.take_append_getElem
def Db:=@Nat.lt_or_ge
def Dm:=@Classical.not_not
def Ds:=@List.drop_eq_getElem_cons
def Dz:=@List.mem_append
def DA:=@List.take_of_length_le
def DP:=@List.getElem?_map
def DQ:=@List.length_map
def DX:=@List.map_append
def DY:=@List.take_length
def El:=@List.mem_cons_of_mem
def Ev:=@List.nil_append
def EE:=@List.map_map
def EO:=@List.map_nil
def EP:=@Nat.sub_self
def EY:=@List.flatMap_cons
def EZ:=@List.length_nil
def Fa:=@List.mem_cons_self
def Fb:=@Option.mem_toList
def Fq:=@Int.eq_ofNat_of_zero_le
def FA:=@List.getElem?_append_left
def FM:=@List.cons_append
def FN:=@Nat.pow_le_pow_right
def FO:=@Option.map_some
def FV:=@List.range_succ
def FW:=@Nat.zero_add
def Ge:=@List.drop_drop
def Gx:=@List.eq_nil_of_length_eq_zero
def Gy:=@List.map_toArray
def GU:=@List.ext_getElem?
def GV:=@List.length_range
def Hl:=@List.getElem?_append_right
def Hm:=@List.mem_iff_getElem
def Hn:=@List.pairwise_cons
def Ho:=@List.take_append_drop
def Hp:=@List.take_left'
def Hq:=@Nat.min_eq_left
def HF:=@List.getElem?_eq_some_iff
def HG:=@List.length_set
def HH:=@List.mem_of_mem_take
def HI:=@List.replicate_succ
def Ia:=@List.flatMap_append
def Ib:=@List.pairwise_iff_getElem
def Ic:=@Nat.mul_one
def ID:=@Bool.and_true
def IE:=@Bool.true_and
def II:=@List.all_cons
def IJ:=@List.all_nil
def IK:=@List.drop_length
def IL:=@List.flatMap_def
def IM:=@List.getElem?_eq_none
def IN:=@List.set_cons_zero
def IP:=@Nat.mod_eq_of_lt
def IQ:=@Nat.pow_succ
def Ju:=@List.map_congr_left
def Jv:=@Nat.add_zero
def Jy:=@Nat.eq_zero_or_pos
def Kg:=@List.length_pos_iff
def Ki:=@Nat.add_sub_cancel_left
def Kj:=@Nat.lt_of_lt_of_le
def Kk:=@Nat.mod_lt
def KX:=@List.drop_eq_nil_of_le
def KY:=@List.filter_append
def KZ:=@List.forall_mem_cons
def La:=@List.forall_mem_nil
def Le:=@List.mem_filter
def Lf:=@List.set_cons_succ
def Ll:=@UInt8.toNat_inj
def LR:=@Array.getElem?_eq_some_iff
def LY:=@List.filter_cons
def LZ:=@List.foldl_cons
def Ma:=@List.map_singleton
def Mb:=@List.pairwise_append
def Mc:=@List.pairwise_map
def Md:=@List.set_append_right
def Me:=@List.take_add_one
def Mg:=@Nat.or_lt_two_pow
def MX:=@Classical.byContradiction
def Ng:=@List.all_eq_true
def Nh:=@List.drop_zero
def Ni:=@List.ext_getElem
def Nj:=@List.flatten_cons
def Nk:=@List.getElem?_range
def Nl:=@List.getElem_inj
def Nn:=@List.nodup_range
def No:=@Nat.add_assoc
def Np:=@Nat.shiftRight_eq_div_pow
def Nq:=@Option.map_eq_some_iff
def Nr:=@Option.map_none
def Ot:=@List.drop_of_length_le
def Ou:=@List.getElem_map
def Ov:=@List.mem_flatMap
def Ow:=@List.replicate_succ'
def Ox:=@List.take_zero
def Oz:=@Nat.div_le_self
def OA:=@Nat.le_of_eq
def OB:=@Nat.le_of_lt
def OC:=@Nat.lt_succ_self
def OD:=@Nat.mul_comm
def OE:=@Nat.mul_le_mul
def OF:=@Nat.mul_le_mul_right
def OG:=@Nat.xor_lt_two_pow
def PP:=@Bool.or_eq_true
def PR:=@Bool.toNat_le
def PX:=@Int.le_refl
def PY:=@Int.natCast_mul
def Qd:=@List.foldl_append
def Qe:=@List.getElem?_cons_succ
def Qf:=@List.idxOf_lt_length_of_mem
def Qg:=@List.nodup_cons
def Qh:=@List.range_eq_range'
def Qi:=@List.take_succ_cons
def Qk:=@Nat.le_succ
def Ql:=@Nat.succ_mul
def Qm:=@Nat.testBit_lt_two_pow
def Rz:=@Bool.and_eq_false_iff
def RA:=@Bool.eq_iff_iff
def RH:=@Int.toNat_natCast
def RN:=@List.drop_left'
def RO:=@List.drop_succ_cons
def RQ:=@List.flatMap_nil
def RR:=@List.getElem_set
def RS:=@List.mem_of_getElem?
def RT:=@List.singleton_append
def RU:=@Nat.add_comm
def RV:=@Nat.add_mul
def RW:=@Nat.add_sub_cancel
def Tu:=@Classical.em
def TD:=@Int.toNat_of_nonneg
def TG:=@List.concat_eq_append
def TH:=@List.drop_append_of_le_length
def TJ:=@List.eq_nil_or_concat
def TL:=@List.getElem?_drop
def TM:=@List.getElem?_reverse
def TN:=@List.getElem_idxOf
def TO:=@List.length_zipIdx
def TP:=@List.map_take
def TQ:=@List.mem_append_left
def TR:=@List.mem_of_mem_drop
def TS:=@List.mergeSort_perm
def TT:=@List.replicate_zero
def TU:=@List.set_append_left
def TV:=@Nat.eq_of_testBit_eq
def TW:=@Nat.le_succ_of_le
def TX:=@Nat.le_total
def TY:=@Nat.log2_lt
def TZ:=@Nat.lt_trichotomy
def Ua:=@Nat.pow_add
def Uc:=@Nat.two_pow_pos
def VY:=@Array.getElem?_modify
def VZ:=@Array.toList_map
def Wt:=@List.append_inj_left
def Wu:=@List.drop_take
def Wv:=@List.eraseIdx_eq_take_drop_succ
def Ww:=@List.filter_eq_self
def Wx:=@List.foldl_map
def Wy:=@List.getElem?_set
def Wz:=@List.getElem_append_left
def WA:=@List.getLast?_concat
def WB:=@List.length_flatten
def WC:=@List.map_drop
def WD:=@List.map_pmap
def WE:=@List.nodup_append
def WF:=@List.nodup_nil
def WG:=@List.pairwise_lt_range
def WH:=@List.prefix_append
def WI:=@List.range'_succ
def WJ:=@List.size_toArray
def WK:=@List.take_append_of_le_length
def WL:=@List.take_take
def WM:=@List.zipIdx_cons
def WN:=@List.zip_cons_cons
def WP:=@Nat.div_div_eq_div_mul
def WQ:=@Nat.lt_of_le_of_lt
def WR:=@Nat.mul_assoc
def WY:=@UInt8.toNat_ofNat'
def cY:=@List.dropWhile_cons_of_neg
def cZ:=@List.eq_of_mem_replicate
def dc:=@List.getLast?_eq_getElem?
def de:=@List.pairwise_mergeSort
def dh:=@List.takeWhile_append_of_pos
def di:=@List.take_succ_eq_append_getElem
def J{p:Prop}(h:p:=by omega):p:=h
def Bc{p:Prop}(h:p:=by decide):p:=h
def Be{p:Prop}(h:p:=by kernel_rfl):p:=h
def Bx{p:Prop}(h:p:=by simp;omega):p:=h
def Bl{p:Prop}(h:p:=by simp):p:=h
def CE{p:Prop}(h:p:=by simp only[maxLen];omega):p:=h
def Cr{p:Prop}(h:p:=by assumption):p:=h
def Bh{p:Prop}(h:p:=by grind):p:=h
def Ozi{p:Prop}(h:p:=by intros;omega):p:=h
abbrev Bg:=Ae AH
abbrev Bm:=Ae Ah
abbrev Bi:=Ae Y
abbrev U(n:H):Ah:=.int .i64 n
section
abbrev BJ:=Ae (Y×Ah)
def lk:BJ->Y->Av Ah
 |[],_=>Aa
 |(i,v)::r,t=>match Jw i t with|true=>X v|false=>lk r t
def ev(σ:BJ):AD->Av Ah
 |.tmp t=>lk σ t
 |.const v=>X v
 |.global g=>X (.pointer (X ⟨g,0,Aa⟩))
 |.func f=>X (.func (.func f) #[] #[])
def evs(σ:BJ):Ae AD->Av (Bm)
 |[]=>X []
 |x::r=>match ev σ x with
  |some v=>match evs σ r with
   |some vs=>X (v::vs)
   |none=>Aa
  |none=>Aa
structure Fr(n:Y)(σ:BJ)(a:AF):Prop where
 size:a.tmps.size=n
 val:∀t v,lk σ t=X v->a.tmps[t]? =X v
 df:a.defers=[]
def Fr.ev{n:Y}{σ:BJ}{a:AF}(h:Fr n σ a){x:AD}{v:Ah}(hx:ev σ x=X v):a.eval x=v:=by
 cases x with
 |tmp t=>
  have:=h.val t v hx;simp[Act.eval,this]
 |const u=>simpa[Go.Proofs.YtkmlafmjaeeanaaGreatDoor.ev,Act.eval]using hx
 |global g=>simpa[Go.Proofs.YtkmlafmjaeeanaaGreatDoor.ev,Act.eval]using hx
 |func f=>simpa[Go.Proofs.YtkmlafmjaeeanaaGreatDoor.ev,Act.eval]using hx
def Fr.evs{n:Y}{σ:BJ}{a:AF}(h:Fr n σ a):∀{xs:Ae AD} {vs:Bm},evs σ xs=X vs->xs.map a.eval=vs
 |[],vs,hx=>by simpa[Go.Proofs.YtkmlafmjaeeanaaGreatDoor.evs]using hx
 |x::xs,vs,hx=>by
  unfold Go.Proofs.YtkmlafmjaeeanaaGreatDoor.evs at hx;split at hx
  .rename_i v hv;split at hx
   .rename_i us hus;injection hx with hx;subst hx;simp[h.ev hv,h.evs hus]
   .cases hx
  .cases hx
def Pj(σ:BJ)(d:Y)(v:Ah):lk ((d,v)::σ) d=X v:=by simp[lk]
def Ph(σ:BJ)(d t:Y)(v:Ah):lk ((d,v)::σ) t=if d=t then X v else lk σ t:=by
 by_cases h:d=t
 .subst h;simp[Pj]
 .have:Jw d t=Aj:=by
   cases hb:Jw d t with
   |false=>rfl
   |true=>simp_all
  simp[lk,this,h]
def Fr.put{n:Y}{σ:BJ}{a:AF}(h:Fr n σ a){d:Y}(i:BL d n=Af)(v:Ah):Fr n ((d,v)::σ) (a.put (X d) v):=by
 have g:=by simpa[Nat.blt_eq]using i
 refine⟨by simpa[Act.put]using h.size,fun t u f=>?_,h.df⟩;rw[Ph]at f;by_cases e:d=t
 .subst e;simp at f;subst f;simp[Act.put,h.size,g]
 .simp[e]at f;simp[Act.put];rw[Array.getElem?_setIfInBounds_ne e];exact h.val t u f
def Eh:BJ->BJ->Prop
 |[],_=>True
 |(t,v)::r,σ=>lk σ t=X v/\Eh r σ
def Eh.lk{σ:BJ}:∀{σ':BJ},Eh σ' σ->∀{t:Y} {v:Ah},lk σ' t=X v->lk σ t=X v
 |[],_,_,_,h=>by simp[Go.Proofs.YtkmlafmjaeeanaaGreatDoor.lk]at h
 |(i,u)::r,hs,t,v,h=>by
  rw[Ph]at h;by_cases e:i=t
  .subst e;simp at h;subst h;exact hs.1
  .simp[e]at h;exact hs.2.lk h
def Fr.sub{n:Y}{σ σ':BJ}{a:AF}(h:Fr n σ a)(hs:Eh σ' σ):Fr n σ' a:=⟨h.size,fun t v ht=>h.val t v (hs.lk ht),h.df⟩
inductive KI where
 |code (c:AL)
 |blk (id:Y)
 |asr (I:AF->Ad->Prop)
def Dx(P:AE)(R:AF->Ad->Prop):Ae KI->AP->AF->Ad->Prop
 |[],.normal=>R
 |[],.ret=>R
 |[],_=>fun _ _=>False
 |.code c::k,e=>match e with|.normal=>fun a w=>c.wp P (Dx P R k) a w|e=>Dx P R k e
 |.blk id::k,e=>match e with|.exit i=>fun a w=>if i=id then Dx P R k .normal a w else Dx P R k (.exit i) a w|e=>Dx P R k e
 |.asr I::k,e=>match e with|.normal=>I|e=>Dx P R k e
def GI(id:Y):Ae KI->Av (Ae KI)
 |[]=>Aa
 |.blk i::k=>match Jw id i with|true=>X k|false=>GI id k
 |.code _::k=>GI id k
 |.asr _::k=>GI id k
def KW(P:AE)(R:AF->Ad->Prop)(k:Ae KI)(n:Y)(σ:BJ)(w:Ad):Prop:=∀a,Fr n σ a->Dx P R k .normal a w
section
variable{P:AE}{R:AF->Ad->Prop}{k:Ae KI}{n:Y}{σ:BJ}{w:Ad}
def zq(c:AL)(k:Ae KI):Dx P R (.code c::k)=Exit.then (fun a w=>c.wp P (Dx P R k) a w) (Dx P R k):=by
 funext e a w;cases e<;>simp[Dx,Exit.then]
def zo(id:Y)(k:Ae KI):Dx P R (.blk id::k)=Exit.inBlock id (Dx P R k):=by
 funext e a w;cases e<;>simp[Dx,Exit.inBlock]
def Vq{id:Y}:∀{k k':Ae KI},GI id k=X k'->∀a w,Dx P R k (.exit id) a w=Dx P R k' .normal a w
 |[],_,h,_,_=>by simp[GI]at h
 |.code c::k,k',h,a,w=>by simp[GI]at h;exact Vq h a w
 |.asr I::k,k',h,a,w=>by simp[GI]at h;exact Vq h a w
 |.blk i::k,k',h,a,w=>by
  simp[GI]at h;simp only[Dx];by_cases e:id=i
  .simp_all
  .have:Jw id i=Aj:=by
    cases hb:Jw _ i with
    |false=>rfl
    |true=>simp_all
   rw[this]at h;rw[Ag e];exact Vq h a w
def Vs:∀(k:Ae KI) (a:AF) (w:Ad),Dx P R k .ret a w=R a w
 |[],_,_=>rfl
 |.code _::k,a,w=>Vs k a w
 |.blk _::k,a,w=>Vs k a w
 |.asr _::k,a,w=>Vs k a w
def Ek{x y:AL}(h:KW P R (.code x::.code y::k) n σ w):KW P R (.code (.seq x y)::k) n σ w:=fun a d=>by
 have:=h a d;refine wp_seq ?_;rwa[<-zq]
def KW.block{id:Y}{c:AL}(h:KW P R (.code c::.blk id::k) n σ w):KW P R (.code (.block id c)::k) n σ w:=fun a d=>by
 have:=h a d;refine wp_block ?_;rwa[<-zo]
def cW{id:Y}(h:KW P R k n σ w):KW P R (.blk id::k) n σ w:=Cr
def KW.skip(h:KW P R k n σ w):KW P R (.code .skip::k) n σ w:=fun a d=>wp_skip (h a d)
def qg{l:Y}(h:KW P R k n σ w):KW P R (.code (.label l)::k) n σ w:=fun a d=>wp_label (h a d)
def qf{id:Y}{d:Ae KI}(hk:GI id k=X d)(h:KW P R d n σ w):KW P R (.code (.exit id)::k) n σ w:=fun a e=>
 wp_exit (by rw[Vq hk];exact h a e)
def Gd(h:∀a,Fr n σ a->R a w):KW P R (.code .ret::k) n σ w:=fun a d=>wp_ret (by rw[Vs];grind)
def KW.done(h:∀a,Fr n σ a->R a w):KW P R [] n σ w:=h
def HE{c:AD}{x y:AL}{b:Aw}(f:ev σ c=X (.bool b))(ht:b=Af->KW P R (.code x::k) n σ w)(hf:b=Aj->KW P R (.code y::k) n σ w):
 KW P R (.code (.cond c x y)::k) n σ w:=fun a d=>
 wp_cond_split (d.ev f) (fun e=>ht e a d) (fun e=>hf e a d)
def TE{c:AD}{x y:AL}{p:Prop}[Decidable p](hc:ev σ c=X (.bool (decide p)))(ht:p->KW P R (.code x::k) n σ w)(hf:¬p->KW P R (.code y::k) n σ w):
 KW P R (.code (.cond c x y)::k) n σ w:=
 HE hc Bh Bh
def qd{c:AD}{x y:AL}(hc:ev σ c=X (.bool Af))(h:KW P R (.code x::k) n σ w):KW P R (.code (.cond c x y)::k) n σ w:=
 HE hc (fun _=>h) Bl
def qc{c:AD}{x y:AL}(hc:ev σ c=X (.bool Aj))(h:KW P R (.code y::k) n σ w):KW P R (.code (.cond c x y)::k) n σ w:=
 HE hc Bl (fun _=>h)
def Met{ι:Type}(n:Y)(I:ι->Prop)(S:ι->BJ)(W:ι->Ad)(a:AF)(w:Ad):Prop:=∃i,I i/\Fr n (S i) a/\w=W i
def KW.cut{ι:Type}(I:ι->Prop)(S:ι->BJ)(W:ι->Ad){c:AL}(h:KW P R (.code c::.asr (Met n I S W)::k) n σ w)(h2:∀i,I i->KW P R k n (S i) (W i)):
 KW P R (.code c::k) n σ w:=fun a j=>by
 have d:=h a j;simp[Dx]at d ⊢;refine Code.wp_mono (fun e m w' q=>?_) d;cases e with
 |normal=>obtain⟨i,f,g,rfl⟩:=q;exact h2 i f _ g
 |_=>omega
def cX{ι:Type}{I:ι->Prop}{S:ι->BJ}{W:ι->Ad}(i:ι)(hs:Eh (S i) σ)(hw:w=W i)(hi:I i):KW P R (.asr (Met n I S W)::k) n σ w:=
 fun _ ha=>⟨i,hi,ha.sub hs,hw⟩
def Oc{ι:Type}(n:Y)(I:ι->Prop)(S:ι->BJ)(W:ι->Ad)(μ:ι->Y)(i:ι)(a:AF)(w:Ad):Prop:=∃j,I j/\μ j<μ i/\Fr n (S j) a/\w=W j
def KW.back{ι:Type}{I:ι->Prop}{S:ι->BJ}{W:ι->Ad}{μ:ι->Y}{i:ι}(j:ι)(d:Eh (S j) σ)(a:w=W j)(hi:I j)(hm:μ j<μ i):
 KW P R (.asr (Oc n I S W μ i)::k) n σ w:=fun _ e=>⟨j,hi,hm,e.sub d,a⟩
def jN(M:Y->Prop):∀m,M m->∃m,M m/\∀m',M m'->m<=m':=by
 intro m
 induction m using Ub with
 |_ m ih=>
  grind
def RM{ι:Type}(I:ι->Prop)(S:ι->BJ)(W:ι->Ad)(μ:ι->Y){c:AL}(i:ι)(A:Eh (S i) σ)(y:w=W i)(hi:I i)
 (d:∀i,I i->KW P R (.code c::.asr (Oc n I S W μ i)::k) n (S i) (W i)):KW P R (.code (.loop c)::k) n σ w:=fun a E=>by
 let M (a:AF) (w:Ad) (m:Y):=∃i,I i/\Fr n (S i) a/\w=W i/\μ i=m
 have o:∀a w,(∃m,M a w m)->∃m,M a w m/\∀m',M a w _->m<=m':=fun a w⟨m,g⟩=>jN _ m g
 let ν (a:AF) (w:Ad):=Classical.epsilon fun m=>M a w m/\∀m',M a w m'->m<=m'
 have v:∀a w,(∃m,M a w m)->M a w (ν a w)/\∀m',M a w _->ν a w<=m':=fun a w h=>Classical.epsilon_spec (o a w h);refine wp_loop (fun a w=>∃m,M a w m) ν ⟨_,i,hi,E.sub A,y,Z⟩ fun K w' g=>?_;obtain⟨⟨j,C,D,f,B⟩,_⟩:=v K w' g;have h:=d j C _ D;subst f;refine Code.wp_mono (fun e G x q=>?_) h;cases e with
 |normal=>
  obtain⟨L,t,T,r,p⟩:=q;refine⟨⟨_,_,t,r,p,Z⟩,?_⟩;have:=(v _ _ ⟨_,_,t,r,p,Z⟩).2 _ ⟨_,t,r,p,Z⟩;omega
 |_=>exact q
end
section
variable{P:AE}{R:AF->Ad->Prop}{k:Ae KI}{n:Y}{σ:BJ}{w:Ad}
def bO{α:Type}(n:Y)(I:α->Prop)(S:α->BJ)(W:α->Ad)(μ:α->Y)(x0:α):AF->Ad->Prop:=
 Oc n (fun p:α=>I p) (fun p=>S p) (fun p=>W p) (fun p=>μ p) x0
def KW.loop1{α:Type}(I:α->Prop)(S:α->BJ)(W:α->Ad)(μ:α->Y){c:AL}(x0:α)(hs:Eh (S x0) σ)(hw:w=W x0)(hi:I x0)
 (round:∀x0,I x0->KW P R (.code c::.asr (bO n I S W μ x0)::k) n (S x0) (W x0)):KW P R (.code (.loop c)::k) n σ w:=
 RM (fun p:α=>I p) (fun p=>S p) (fun p=>W p) (fun p=>μ p) x0 hs hw hi fun p hp=>round p hp
def KW.back1{α:Type}{I:α->Prop}{S:α->BJ}{W:α->Ad}{μ:α->Y}{d:α}(a:α)(f:Eh (S a) σ)(e:w=W a)(hi:I a)(hm:μ a<μ d):
 KW P R (.asr (bO n I S W μ d)::k) n σ w:=
 KW.back (I:=fun p:α=>I p) (S:=fun p=>S p) (W:=fun p=>W p) (μ:=fun p=>μ p) a f e hi hm
def bP{α β:Type}(n:Y)(I:α->β->Prop)(S:α->β->BJ)(W:α->β->Ad)(μ:α->β->Y)(x0:α)(x1:β):AF->Ad->Prop:=
 Oc n (fun p:α×β=>I p.1 p.2) (fun p=>S p.1 p.2) (fun p=>W p.1 p.2) (fun p=>μ p.1 p.2) (x0,x1)
def Met2{α β:Type}(n:Y)(I:α->β->Prop)(S:α->β->BJ)(W:α->β->Ad):AF->Ad->Prop:=
 Met n (fun p:α×β=>I p.1 p.2) (fun p=>S p.1 p.2) (fun p=>W p.1 p.2)
def qh{α β:Type}(I:α->β->Prop)(S:α->β->BJ)(W:α->β->Ad)(μ:α->β->Y){c:AL}(x0:α)(x1:β)(hs:Eh (S x0 x1) σ)(hw:w=W x0 x1)(hi:I x0 x1)
 (round:∀x0 x1,I x0 x1->KW P R (.code c::.asr (bP n I S W μ x0 x1)::k) n (S x0 x1) (W x0 x1)):KW P R (.code (.loop c)::k) n σ w:=
 RM (fun p:α×β=>I p.1 p.2) (fun p=>S p.1 p.2) (fun p=>W p.1 p.2) (fun p=>μ p.1 p.2) (x0,x1) hs hw hi fun p hp=>round p.1 p.2 hp
def qa{α β:Type}{I:α->β->Prop}{S:α->β->BJ}{W:α->β->Ad}{μ:α->β->Y}{f:α}{e:β}(d:α)(a:β)(h:Eh (S d a) σ)(g:w=W d a)(hi:I d a)(hm:μ d a<μ f e):
 KW P R (.asr (bP n I S W μ f e)::k) n σ w:=
 KW.back (I:=fun p:α×β=>I p.1 p.2) (S:=fun p=>S p.1 p.2) (W:=fun p=>W p.1 p.2) (μ:=fun p=>μ p.1 p.2) (d,a) h g hi hm
def KW.cut2{α β:Type}(I:α->β->Prop)(S:α->β->BJ)(W:α->β->Ad){c:AL}(h:KW P R (.code c::.asr (Met2 n I S W)::k) n σ w)
 (h2:∀x0 x1,I x0 x1->KW P R k n (S x0 x1) (W x0 x1)):KW P R (.code c::k) n σ w:=
 KW.cut (fun p:α×β=>I p.1 p.2) (fun p=>S p.1 p.2) (fun p=>W p.1 p.2) h Bh
def KW.meet2{α β:Type}{I:α->β->Prop}{S:α->β->BJ}{W:α->β->Ad}(d:α)(a:β)(f:Eh (S d a) σ)(e:w=W d a)(hi:I d a):
 KW P R (.asr (Met2 n I S W)::k) n σ w:=
 cX (I:=fun p:α×β=>I p.1 p.2) (S:=fun p=>S p.1 p.2) (W:=fun p=>W p.1 p.2) (d,a) f e hi
def bQ{α β γ:Type}(n:Y)(I:α->β->γ->Prop)(S:α->β->γ->BJ)(W:α->β->γ->Ad)(μ:α->β->γ->Y)(x0:α)(x1:β)(x2:γ):AF->Ad->Prop:=
 Oc n (fun p:α×β×γ=>I p.1 p.2.1 p.2.2) (fun p=>S p.1 p.2.1 p.2.2) (fun p=>W p.1 p.2.1 p.2.2) (fun p=>μ p.1 p.2.1 p.2.2) (x0,x1,x2)
def KW.loop3{α β γ:Type}(I:α->β->γ->Prop)(S:α->β->γ->BJ)(W:α->β->γ->Ad)(μ:α->β->γ->Y){c:AL}(x0:α)(x1:β)(x2:γ)(hs:Eh (S x0 x1 x2) σ)(hw:w=W x0 x1 x2)(hi:I x0 x1 x2)
 (round:∀x0 x1 x2,I x0 x1 x2->KW P R (.code c::.asr (bQ n I S W μ x0 x1 x2)::k) n (S x0 x1 x2) (W x0 x1 x2)):KW P R (.code (.loop c)::k) n σ w:=
 RM (fun p:α×β×γ=>I p.1 p.2.1 p.2.2) (fun p=>S p.1 p.2.1 p.2.2) (fun p=>W p.1 p.2.1 p.2.2) (fun p=>μ p.1 p.2.1 p.2.2) (x0,x1,x2) hs hw hi fun p hp=>round p.1 p.2.1 p.2.2 hp
def KW.back3{α β γ:Type}{I:α->β->γ->Prop}{S:α->β->γ->BJ}{W:α->β->γ->Ad}{μ:α->β->γ->Y}{h:α}{g:β}{f:γ}(e:α)(d:β)(a:γ)(j:Eh (S e d a) σ)(i:w=W e d a)(hi:I e d a)(hm:μ e d a<μ h g f):
 KW P R (.asr (bQ n I S W μ h g f)::k) n σ w:=
 KW.back (I:=fun p:α×β×γ=>I p.1 p.2.1 p.2.2) (S:=fun p=>S p.1 p.2.1 p.2.2) (W:=fun p=>W p.1 p.2.1 p.2.2) (μ:=fun p=>μ p.1 p.2.1 p.2.2) (e,d,a) j i hi hm
def bR{α β γ δ:Type}(n:Y)(I:α->β->γ->δ->Prop)(S:α->β->γ->δ->BJ)(W:α->β->γ->δ->Ad)(μ:α->β->γ->δ->Y)(x0:α)(x1:β)(x2:γ)(x3:δ):AF->Ad->Prop:=
 Oc n (fun p:α×β×γ×δ=>I p.1 p.2.1 p.2.2.1 p.2.2.2) (fun p=>S p.1 p.2.1 p.2.2.1 p.2.2.2) (fun p=>W p.1 p.2.1 p.2.2.1 p.2.2.2) (fun p=>μ p.1 p.2.1 p.2.2.1 p.2.2.2) (x0,x1,x2,x3)
def KW.loop4{α β γ δ:Type}(I:α->β->γ->δ->Prop)(S:α->β->γ->δ->BJ)(W:α->β->γ->δ->Ad)(μ:α->β->γ->δ->Y){c:AL}(x0:α)(x1:β)(x2:γ)(x3:δ)(hs:Eh (S x0 x1 x2 x3) σ)(hw:w=W x0 x1 x2 x3)(hi:I x0 x1 x2 x3)
 (round:∀x0 x1 x2 x3,I x0 x1 x2 x3->KW P R (.code c::.asr (bR n I S W μ x0 x1 x2 x3)::k) n (S x0 x1 x2 x3) (W x0 x1 x2 x3)):KW P R (.code (.loop c)::k) n σ w:=
 RM (fun p:α×β×γ×δ=>I p.1 p.2.1 p.2.2.1 p.2.2.2) (fun p=>S p.1 p.2.1 p.2.2.1 p.2.2.2) (fun p=>W p.1 p.2.1 p.2.2.1 p.2.2.2) (fun p=>μ p.1 p.2.1 p.2.2.1 p.2.2.2) (x0,x1,x2,x3) hs hw hi fun p hp=>round p.1 p.2.1 p.2.2.1 p.2.2.2 hp
def KW.back4{α β γ δ:Type}{I:α->β->γ->δ->Prop}{S:α->β->γ->δ->BJ}{W:α->β->γ->δ->Ad}{μ:α->β->γ->δ->Y}{j:α}{i:β}{h:γ}{g:δ}(f:α)(e:β)(d:γ)(a:δ)(o:Eh (S f e d a) σ)(m:w=W f e d a)(hi:I f e d a)(hm:μ f e d a<μ j i h g):
 KW P R (.asr (bR n I S W μ j i h g)::k) n σ w:=
 KW.back (I:=fun p:α×β×γ×δ=>I p.1 p.2.1 p.2.2.1 p.2.2.2) (S:=fun p=>S p.1 p.2.1 p.2.2.1 p.2.2.2) (W:=fun p=>W p.1 p.2.1 p.2.2.1 p.2.2.2) (μ:=fun p=>μ p.1 p.2.1 p.2.2.1 p.2.2.2) (f,e,d,a) o m hi hm
end
def OW(P:AE)(R:AF->Ad->Prop)(ops:Ap AG)(l:Ae AG)(k:Ae KI)(n:Y)(σ:BJ)(w:Ad):Prop:=∀a,Fr n σ a->wpList P ops (Dx P R k) l a w
def BK(ops:Ap AG)(σ:BJ):Av (Y×Aw)->Av Aw
 |none=>X Af
 |some (j,want)=>match (ops[j]?).bind (·.dst)with
  |some t=>match lk σ t with
   |some (.bool b)=>X (b==want)
   |some (.tuple _)=>X Aj
   |_=>Aa
  |none=>Aa
def IC{ops:Ap AG}{σ:BJ}{n:Y}{a:AF}(f:Fr n σ a){o:AG}{b:Aw}(h:BK ops σ o.guard=X b):Region.wanted o (yielded ops a.tmps)=b:=by
 unfold Region.wanted;cases hg:o.guard with
 |none=>rw[hg]at h;simpa[BK]using h
 |some jw=>
  rw[hg]at h;simp[BK]at h;split at h
  .rename_i t e;split at h
   .rename_i u d;injection h with h;subst h;have:=f.val t _ d;simp only[yielded,e,Option.bind_some,this];rfl
   .rename_i u d;injection h with h;subst h;have:=f.val t _ d;simp only[yielded,e,Option.bind_some,this];rfl
   .cases h
  .cases h
section
variable{P:AE}{R:AF->Ad->Prop}{ops:Ap AG}{l rest:Ae AG}{k:Ae KI}{n:Y}{σ:BJ}{w w':Ad}
def KW.region{id:Y}(h:OW P R l.toArray l k n σ w):KW P R (.code (.region id l.toArray Aj)::k) n σ w:=fun a d=>wp_region_lit (h a d)
def OW.nil(h:KW P R k n σ w):OW P R ops [] k n σ w:=h
def OW.as(t:Y)(g:Ah){v:Ah}(ht:lk σ t=X v)(e:v=g)(h:OW P R ops l k n ((t,g)::σ) w):OW P R ops l k n σ w:=fun a f=>
 h a ⟨f.size,fun i u d=>by
  rw[Ph]at d;by_cases j:t=i
  .subst j;simp at d;subst d;rw[<-e];exact f.val t _ ht
  .simp[j]at d;exact f.val i u d,f.df⟩
def KW.as(t:Y)(d:Ah){v:Ah}(ht:lk σ t=X v)(e:v=d)(h:KW P R k n ((t,d)::σ) w):KW P R k n σ w:=fun a f=>
 OW.as (P:=P) (R:=R) (ops:=#[]) (l:=[]) t d ht e h a f
def OW.split(t:Y){b:Aw}(ht:lk σ t=X (.bool b))(h1:b=Af->OW P R ops l k n ((t,.bool Af)::σ) w)(h2:b=Aj->OW P R ops l k n ((t,.bool Aj)::σ) w):OW P R ops l k n σ w:=by
 cases b with
 |true=>exact OW.as t _ ht Z (h1 Z)
 |false=>exact OW.as t _ ht Z (h2 Z)
def qC(t:Y){p:Prop}[Decidable p](ht:lk σ t=X (.bool (decide p)))(h1:p->OW P R ops l k n ((t,.bool Af)::σ) w)(h2:¬p->OW P R ops l k n ((t,.bool Aj)::σ) w):OW P R ops l k n σ w:=
 OW.split t ht Bh Bh
def EX(P:AE)(n:Y)(σ:BJ)(op:Op)(ty:Ay)(w:Ad)(v:Ah)(w':Ad):Prop:=
 ∀(a:AF),Fr n σ a->∀(dst:Av Tmp) (pos:AJ) (after:Ap Edge) (g:Av (Y×Aw)),(execOp a.eval ⟨dst,op,ty,pos,after,g⟩).run P w=.ok (.value v) w'
def EU(P:AE)(n:Y)(σ:BJ)(op:Op)(ty:Ay)(w w':Ad):Prop:=
 ∀(a:AF),Fr n σ a->∀(dst:Av Tmp) (pos:AJ) (after:Ap Edge) (g:Av (Y×Aw)),(execOp a.eval ⟨dst,op,ty,pos,after,g⟩).run P w=.ok .skip w'
def EC(P:AE)(n:Y)(σ:BJ)(op:Op)(ty:Ay)(w:Ad)(f:FuncId)(args:Ap Ah):Prop:=
 ∀(a:AF),Fr n σ a->∀(dst:Av Tmp) (pos:AJ) (after:Ap Edge) (g:Av (Y×Aw)),(execOp a.eval ⟨dst,op,ty,pos,after,g⟩).run P w=.ok (.enter f args) w
def OW.val{d:Y}{op:Op}{ty:Ay}{e:AJ}{after:Ap Edge}{g:Av (Y×Aw)}{v:Ah}(i:BK ops σ g=X Af)(j:BL d n=Af)(he:EX P n σ op ty w v w')
 (h:OW P R ops rest k n ((d,v)::σ) w'):OW P R ops (⟨X d,op,ty,e,after,g⟩::rest) k n σ w:=fun a f=>by
 have m:=he a f (X d) e after g;unfold wpList;rw[Ai (IC f i)];refine .inl ?_;unfold Oper.wp;rw[m];exact h _ (f.put j v)
def RX{op:Op}{ty:Ay}{d:AJ}{after:Ap Edge}{g:Av (Y×Aw)}(f:BK ops σ g=X Af)(he:EU P n σ op ty w w')
 (h:OW P R ops rest k n σ w'):OW P R ops (⟨Aa,op,ty,d,after,g⟩::rest) k n σ w:=fun a e=>by
 have i:=he a e Aa d after g;unfold wpList;rw[Ai (IC e f)];refine .inl ?_;unfold Oper.wp;rw[i];exact h _ e
def HK{d:Y}{op:Op}{ty:Ay}{e:AJ}{after:Ap Edge}{g:Av (Y×Aw)}(i:BK ops σ g=X Aj)(j:BL d n=Af)
 (h:OW P R ops rest k n ((d,undef)::σ) w):OW P R ops (⟨X d,op,ty,e,after,g⟩::rest) k n σ w:=fun a f=>by
 unfold wpList;rw[Ag (by rw[IC f i];simp)];exact h _ (f.put j _)
def Bn(P:AE)(f:FuncId)(args:Bm)(w:Ad)(Q:Ah->Ad->Prop):Prop:=
 (∃fn,P.funcs[f]? =X fn/\(!(fn.name== "runtime.NumGoroutine") && fn.body.isSome)=Af)/\Calls P f args.toArray w fun e w'=>∃v,e=.returned v/\Q v w'
def Bn.mono{f:FuncId}{args:Bm}{Q Q':Ah->Ad->Prop}(h:Bn P f args w Q)(hq:∀v w',Q v w'->Q' v w'):Bn P f args w Q':=
 ⟨h.1,h.2.mono Bh⟩
def Ri {f:FuncId} {fn:Func} (hf:P.funcs[f]? =X fn) (a:(!(fn.name== "runtime.NumGoroutine") && fn.body.isSome)=Af) (args:Ap Ah):
 (callFunc f args).run P w=.ok (.enter f args) w:=by
 simp only[Bool.and_eq_true,Bool.not_eq_true',beq_eq_false_iff_ne]at a;have d:fn.body≠Aa:=by intro e;rw[e]at a;grind
 unfold callFunc;simp[Sem.run,hf,a.1,d]
def dt{d:Y}{op:Op}{ty:Ay}{i:AJ}{after:Ap Edge}{g:Av (Y×Aw)}{f:FuncId}{args:Bm}{Q:Ah->Ad->Prop}(o:BK ops σ g=X Af)(p:BL d n=Af)
 (he:EC P n σ op ty w f args.toArray) (r:Bn P f args w Q) (h:∀v w',Q v w'->OW P R ops rest k n ((d,v)::σ) w'):OW P R ops (⟨X d,op,ty,i,after,g⟩::rest) k n σ w:=fun a j=>by
 have t:=he a j (X d) i after g;unfold wpList;rw[Ai (IC j o)];refine .inl ?_;unfold Oper.wp;rw[t];refine r.2.mono fun e m⟨v,he,q⟩=>?_;subst he;exact h v _ q _ (j.put p v)
def RC {f:FuncId} {xs:Ae AD} {vs:Bm} {d:Ap Ay} {ty:Ay} {fn:Func} (hf:P.funcs[f]? =X fn) (h:(!(fn.name== "runtime.NumGoroutine") && fn.body.isSome)=Af) (hx:evs σ xs=X vs):
 EC P n σ (.call { callee:=.value (.func f),args:=xs.toArray,argTypes:=d }) ty w f vs.toArray:=fun a i j e after g=>by
 rw[execOp_call_go];have:#[]++xs.toArray.map a.eval++#[]=vs.toArray:=by simp[i.evs hx]
 rw[this];exact Ri hf h _
def OW.call{d:Y}{f:FuncId}{xs:Ae AD}{e:Ap Ay}{ty:Ay}{a:AJ}{after:Ap Edge}{g:Av (Y×Aw)}{vs:Bm}{Q:Ah->Ad->Prop}
 (j:BK ops σ g=X Af) (m:BL d n=Af) (hx:evs σ xs=X vs) (i:Bn P f vs w Q) (h:∀v w',Q v w'->OW P R ops rest k n ((d,v)::σ) w'):
 OW P R ops (⟨X d,.call { callee:=.value (.func f),args:=xs.toArray,argTypes:=e },ty,a,after,g⟩::rest) k n σ w:=by
 obtain⟨⟨fn,p,o⟩,_⟩:=id i;exact dt j m (RC p o hx) i h
end
def QW(P:AE)(R:AF->Ad->Prop)(ops:Ap AG)(l:Ae AG)(k:Ae KI)(n:Y)(σ:BJ)(w:Ad):Prop:=∀a,Fr n σ a->
 wpQuiet P ops (fun w'=>∃m,w'=w.drewN m) (fun a'=>∀w',(∃m,w'=w.drewN m)->Dx P R k .normal a' w') l a
section
variable{P:AE}{R:AF->Ad->Prop}{ops:Ap AG}{l rest:Ae AG}{k:Ae KI}{n:Y}{σ:BJ}{w:Ad}
def Ws{id:Y}(hm:P.follows .mixedOrders=Af)(e:Region.lexB .any l.toArray=Af)(h:QW P R l.toArray l k n σ w):KW P R (.code (.region id l.toArray Af)::k) n σ w:=fun a d=>
 wp_region_quiet_lit hm e (h a d)
def QW.nil(h:∀m,KW P R k n σ (w.drewN m)):QW P R ops [] k n σ w:=fun a d=>wpQuiet_nil (by rintro w'⟨m,rfl⟩;exact h m a d)
def QW.val{d:Y}{op:Op}{ty:Ay}{e:AJ}{after:Ap Edge}{g:Av (Y×Aw)}{v:Ah}(i:BK ops σ g=X Af)(j:BL d n=Af)(he:∀m,EX P n σ op ty (w.drewN m) v (w.drewN m))
 (h:QW P R ops rest k n ((d,v)::σ) w):QW P R ops (⟨X d,op,ty,e,after,g⟩::rest) k n σ w:=fun a f=>by
 unfold wpQuiet;rw[Ai (IC f i)];refine⟨v,?_,h _ (f.put j v)⟩;rintro w'⟨m,rfl⟩;unfold Oper.quietAt;rw[he m a f _ _ _ g];exact⟨Z,Z⟩
def qF{d:Y}{op:Op}{ty:Ay}{e:AJ}{after:Ap Edge}{g:Av (Y×Aw)}(i:BK ops σ g=X Aj)(j:BL d n=Af)
 (h:QW P R ops rest k n ((d,undef)::σ) w):QW P R ops (⟨X d,op,ty,e,after,g⟩::rest) k n σ w:=fun a f=>by
 unfold wpQuiet;rw[Ag (by rw[IC f i];simp)];exact h _ (f.put j _)
def QW.as(t:Y)(g:Ah){v:Ah}(ht:lk σ t=X v)(e:v=g)(h:QW P R ops l k n ((t,g)::σ) w):QW P R ops l k n σ w:=fun a f=>
 h a ⟨f.size,fun i u d=>by
  rw[Ph]at d;by_cases j:t=i
  .subst j;simp at d;subst d;rw[<-e];exact f.val t _ ht
  .simp[j]at d;exact f.val i u d,f.df⟩
def qG(t:Y){p:Prop}[Decidable p](ht:lk σ t=X (.bool (decide p)))(h1:p->QW P R ops l k n ((t,.bool Af)::σ) w)(h2:¬p->QW P R ops l k n ((t,.bool Aj)::σ) w):QW P R ops l k n σ w:=by
 by_cases a:p
 .exact QW.as t _ ht Bh (h1 a)
 .exact QW.as t _ ht Bh (h2 a)
def WX(P:AE)(f:FuncId)(args:Bm)(w:Ad)(v:Ah):Prop:=Bn P f args w fun v' w'=>v'=v/\∃m,w'=w.drewN m
def QW.call{d:Y}{f:FuncId}{xs:Ae AD}{p:Ap Ay}{ty:Ay}{i:AJ}{after:Ap Edge}{g:Av (Y×Aw)}{vs:Bm}{v:Ah}
 (t:BK ops σ g=X Af) (x:BL d n=Af) (hx:evs σ xs=X vs) (y:∀m,WX P f vs (w.drewN m) v) (h:QW P R ops rest k n ((d,v)::σ) w):
 QW P R ops (⟨X d,.call { callee:=.value (.func f),args:=xs.toArray,argTypes:=p },ty,i,after,g⟩::rest) k n σ w:=fun a o=>by
 unfold wpQuiet;rw[Ai (IC o t)];refine⟨v,?_,h _ (o.put x v)⟩;rintro w'⟨m,rfl⟩;unfold Oper.quietAt;obtain⟨⟨fn,B,A⟩,j⟩:=y m;rw[RC B A hx a o _ _ _ g];refine⟨Z,j.mono ?_⟩;rintro e q⟨C,rfl,rfl,r,rfl⟩;exact⟨Z,m+r,Bl⟩
end
def HW(P:AE)(R:AF->Ad->Prop)(ops:Ap AG)(l:Ae AG)(N:Y)(k:Ae KI)(n:Y)(σ:BJ)(w:Ad):Prop:=∀a,Fr n σ a->
 wpStill P ops w (fun a'=>wpList P ops (Dx P R k) (l.drop N) a' w) (l.take N) a
section
variable{P:AE}{R:AF->Ad->Prop}{ops:Ap AG}{l rest:Ae AG}{N:Y}{k:Ae KI}{n:Y}{σ:BJ}{w:Ad}
def Kf{id:Y}(N:Y)(hm:P.follows .mixedOrders=Af)(e:Region.lexTailB .any l.toArray N=Af)(h:HW P R l.toArray l N k n σ w.drew):KW P R (.code (.region id l.toArray Af)::k) n σ w:=fun a d=>
 wp_region_still_tail N hm e (h a d)
def HW.tail(h:OW P R ops l k n σ w):HW P R ops l 0 k n σ w:=Cr
def HW.val{d:Y}{op:Op}{ty:Ay}{e:AJ}{after:Ap Edge}{g:Av (Y×Aw)}{v:Ah}(i:BK ops σ g=X Af)(j:BL d n=Af)(he:EX P n σ op ty w v w)
 (h:HW P R ops rest N k n ((d,v)::σ) w):HW P R ops (⟨X d,op,ty,e,after,g⟩::rest) (N+1) k n σ w:=fun a f=>by
 show wpStill P _ w _ (_::rest.take N) a;unfold wpStill;rw[Ai (IC f i)];unfold Oper.still;rw[he a f _ _ _ g];exact⟨Z,h _ (f.put j v)⟩
end
def Ln:Y->Bm->BJ
 |_,[]=>[]
 |i,v::r=>(i,v)::Ln (i+1) r
def dI:∀(l:Bm) (i t:Y) (v:Ah),lk (Ln i l) t=X v->i<=t/\l[t-i]? =X v
 |[],_,_,_,h=>by simp[Ln,lk]at h
 |u::r,i,t,v,h=>by
  simp[Ln]at h;rw[Ph]at h;by_cases e:i=t
  .grind
  .simp[e]at h;obtain⟨h1,h2⟩:=dI r (i+1) t v h;grind
def Fr.start(args:Bm)(m:Y):Fr (Aim args+m) (Ln 0 args) { tmps:=args.toArray++JW m undef,defers:=[] }:=
 ⟨Bl,fun t v h=>by
  obtain⟨_,h2⟩:=dI args 0 t v h;grind,Z⟩
def Bw{P:AE}{f:FuncId}{fn:Func}{c:AL}{args:Bm}{w:Ad}{Q:Ah->Ad->Prop}{n:Y}(hf:P.funcs[f]? =X fn)(i:fn.body=X c)(d:fn.ntmps=n)
 (m:(!(fn.name== "runtime.NumGoroutine") && fn.body.isSome)=Af) (hl:Aim args+(n-Aim args)=n)
 (h:KW P (fun a w'=>bodyPost P fn (fun e w'=>∃v,e=.returned v/\Q v w') .ret a w') [.code c] n (Ln 0 args) w):Bn P f args w Q:=by
 refine⟨Bh,calls_of_wp hf i ?_⟩
 have g:Fr n (Ln 0 args) { tmps:=args.toArray++JW (fn.ntmps-args.toArray.size) undef,defers:=[] }:=by
  have:=Fr.start args (n-Aim args);rw[hl]at this;simpa[d]using this
 have j:=h _ g;refine Code.wp_mono (fun e o w' q=>?_) j;cases e with
 |normal=>exact q
 |ret=>exact q
 |_=>exact q.elim
section
variable{P:AE}{fn:Func}{Q:Ah->Ad->Prop}{n:Y}{σ:BJ}{w:Ad}{k:Ae KI}
def MK{v:Ah}(hr:∀a,Fr n σ a->(results fn a.tmps).run P w=.ok v w)(hq:Q v w):∀a,Fr n σ a->bodyPost P fn (fun e w'=>∃v,e=.returned v/\Q v w') .ret a w:=
 fun a ha=>⟨ha.df,v,hr a ha,v,Z,hq⟩
def ret1{t:Y}{v:Ah}(hs:fn.results=#[.tmp t])(hv:lk σ t=X v)(hq:Q v w):∀a,Fr n σ a->bodyPost P fn (fun e w'=>∃v,e=.returned v/\Q v w') .ret a w:=
 MK (fun a ha=>by rw[results_tmp hs];simp[ha.val t v hv]) hq
def HS(hs:fn.results=#[])(hq:Q (.tuple #[]) w):∀a,Fr n σ a->bodyPost P fn (fun e w'=>∃v,e=.returned v/\Q v w') .ret a w:=
 MK (fun _ _=>results_none hs _ _ _) hq
def ret2{t u:Y}{v x:Ah}(hs:fn.results=#[.tmp t,.tmp u])(hv:lk σ t=X v)(hx:lk σ u=X x)(hq:Q (.tuple #[v,x]) w):∀a,Fr n σ a->bodyPost P fn (fun e w'=>∃v,e=.returned v/\Q v w') .ret a w:=
 MK (fun a ha=>by rw[results_tmp2 hs];simp[ha.val t v hv,ha.val u x hx]) hq
def ret3{t u s:Y}{v x y:Ah}(hs:fn.results=#[.tmp t,.tmp u,.tmp s])(hv:lk σ t=X v)(hx:lk σ u=X x)(hy:lk σ s=X y)(hq:Q (.tuple #[v,x,y]) w):
 ∀a,Fr n σ a->bodyPost P fn (fun e w'=>∃v,e=.returned v/\Q v w') .ret a w:=
 MK (fun a ha=>by rw[results_tmp3 hs];simp[ha.val t v hv,ha.val u x hx,ha.val s y hy]) hq
end
end
section
def maxN:AI->Y
 |.i8=>127|.i16=>32767|.i32=>2147483647|.i64=>9223372036854775807
 |.u8=>255|.u16=>65535|.u32=>4294967295|.u64=>18446744073709551615
def QO:AI->Y
 |.u8=>256|.u16=>65536|.u32=>4294967296|.u64=>18446744073709551616|_=>0
def LQ{k:AI}{m a:Y}(hm:maxN k=m)(h:a<=m):k.wrap (a:H)=a:=by
 subst hm
 cases k<;>simp only[maxN]at h<;>first
  |exact IntWalk.i8_in _ J|exact IntWalk.i16_in _ J|exact IntWalk.i32_in _ J|exact IntWalk.i64_in _ J
  |exact IntWalk.u8_in _ J|exact IntWalk.u16_in _ J|exact IntWalk.u32_in _ J|exact IntWalk.u64_in _ J
def oU{k:AI}{m a:Y}(hm:QO k=m)(e:0<m):k.wrap (a:H)=((a%m:Y):H):=by
 subst hm;cases k<;>simp[QO]at e<;>simp[QO,IntKind.wrap,IntKind.bits,IntKind.signed]
def bE{k:AI}{m:Y}{a:H}(e:k.signed=Af)(hm:maxN k=m)(h:-((m:H)+1)<=a/\a<=m):k.wrap a=a:=by
 subst hm
 cases k<;>simp[IntKind.signed]at e<;>simp only[maxN]at h<;>first
  |exact IntWalk.i8_in _ J|exact IntWalk.i16_in _ J|exact IntWalk.i32_in _ J|exact IntWalk.i64_in _ J
def kj(k:AI):maxN k<2 ^ k.bits:=by cases k<;>decide
abbrev Bj(l:Bg):Ah:=.string ⟨⟨l⟩⟩
section
variable{P:AE}{n:Y}{σ:BJ}{w:Ad}{t t':Ay}{ty:Ay}{x y:AD}{k:AI}{a b m:Y}{c d:H}
def EX.move{v:Ah}(hx:ev σ x=X v):EX P n σ (.move x) ty w v w:=fun a f h e after g=>by
 simp only[execOp,f.ev hx];rfl
def CI{v:Ah}(hx:ev σ x=X v):EX P n σ (.assign x) ty w v w:=fun a f h e after g=>by
 simp only[execOp,f.ev hx];rfl
def Om{z:AD}{v:Ah}(hx:ev σ x=X (.bool Af))(h:ev σ y=X v):EX P n σ (.pick x y z) ty w v w:=fun a e l f after g=>by
 simp only[execOp,e.ev hx,e.ev h];rfl
def Jp{z:AD}{v:Ah}(hx:ev σ x=X (.bool Aj))(h:ev σ z=X v):EX P n σ (.pick x y z) ty w v w:=fun a e l f after g=>by
 simp only[execOp,e.ev hx,e.ev h];rfl
def Gb{op:BinOp}{u v r:Ah}(hx:ev σ x=X u)(h:ev σ y=X v)(o:(eqGuard op t x y u v).run P w=.ok () w)(l:(binOp op t u v).run P w=.ok r w):EX P n σ (.binOp op t x y t') ty w r w:=fun a e p f after g=>by
 simp only[execOp,e.ev hx,e.ev h,Sem.run_bind,o,l,Result.andThen_ok];rfl
def uR(op:BinOp)(i j:H):(eqGuard op t x y (.int k i) (.int k j)).run P w=.ok () w:=by
 unfold eqGuard;simp
def YL(op:BinOp)(i j:ByteArray):(eqGuard op t x y (.string i) (.string j)).run P w=.ok () w:=by
 unfold eqGuard;simp
def EV{op:BinOp}{i j:H}{r:Ah}(hx:ev σ x=X (.int k i))(hy:ev σ y=X (.int k j))(hr:(binOp op t (.int k i) (.int k j)).run P w=.ok r w):EX P n σ (.binOp op t x y t') ty w r w:=
 Gb hx hy (uR op i j) hr
def JX(hx:ev σ x=X (.int k (a:H)))(hy:ev σ y=X (.int k (b:H)))(hm:maxN k=m)(h:a+b<=m):EX P n σ (.binOp .add t x y t') ty w (.int k ((a+b:Y):H)) w:=
 EV hx hy (by
  have:=LQ hm h;simp only[Int.natCast_add]at this ⊢;simp[binOp,Op.intArith,this])
def Kb(hx:ev σ x=X (.int k (a:H)))(hy:ev σ y=X (.int k (b:H)))(hm:maxN k=m)(h:b<=a/\a<=m):EX P n σ (.binOp .sub t x y t') ty w (.int k ((a-b:Y):H)) w:=
 EV hx hy (by
  have:=LQ hm (show a-b<=m by omega);rw[Int.natCast_sub h.1]at this ⊢;simp[binOp,Op.intArith,this])
def Wf(hx:ev σ x=X (.int k (a:H)))(hy:ev σ y=X (.int k (b:H)))(hm:maxN k=m)(h:a*b<=m):EX P n σ (.binOp .mul t x y t') ty w (.int k ((a*b:Y):H)) w:=
 EV hx hy (by
  have:=LQ hm h;simp only[PY]at this ⊢;simp[binOp,Op.intArith,this])
def cI(hx:ev σ x=X (.int k (a:H)))(hy:ev σ y=X (.int k (b:H)))(hm:maxN k=m)(h:0<b/\a<=m):EX P n σ (.binOp .quo t x y t') ty w (.int k ((a/b:Y):H)) w:=
 EV hx hy (by
  have hle:a/b<=a:=Oz _ _;have:=LQ hm (show a/b<=m by omega);have hb:¬(b:H)=0:=J;have hq:(a:H).tdiv b=((a/b:Y):H):=rfl;unfold binOp;simp only[ne_eq,not_true_eq_false,if_false,Op.intDiv,Ag hb,hq,this];rfl)
def cJ(hx:ev σ x=X (.int k (a:H)))(hy:ev σ y=X (.int k (b:H)))(h:0<b):EX P n σ (.binOp .rem t x y t') ty w (.int k ((a%b:Y):H)) w:=
 EV hx hy (by
  have hb:¬(b:H)=0:=J;have hq:(a:H).tmod b=((a%b:Y):H):=rfl;unfold binOp;simp only[ne_eq,not_true_eq_false,if_false,Op.intDiv,Ag hb,hq];rfl)
def kY{k:AI}{a:Y}(h:a<=maxN k):(BitVec.ofInt k.bits (a:H)).toNat=a:=by
 rw[BitVec.ofInt_natCast,BitVec.toNat_ofNat];exact IP (WQ h (kj k))
def QP{k:AI}{a:Y}(h:a<=maxN k):a%2 ^ k.bits=a:=IP (WQ h (kj k))
def dR(k:AI):∃j,maxN k+1=2 ^ j:=by cases k<;>first|exact⟨7,Z⟩|exact⟨15,Z⟩|exact⟨31,Z⟩|exact⟨63,Z⟩|exact⟨8,Z⟩|exact⟨16,Z⟩|exact⟨32,Z⟩|exact⟨64,Z⟩
def Wd(hx:ev σ x=X (.int k (a:H)))(hy:ev σ y=X (.int k (b:H)))(hm:maxN k=m)(h:a<=m/\b<=m):EX P n σ (.binOp .and t x y t') ty w (.int k ((a &&& b:Y):H)) w:=
 EV hx hy (by
  subst hm;have hle:a &&& b<=a:=Nat.and_le_left;have:=LQ Z (show a &&& b<=maxN k by omega);simp[binOp,Op.intBits,QP h.1,QP h.2,this])
def Ol(hx:ev σ x=X (.int k (a:H)))(hy:ev σ y=X (.int k (b:H)))(hm:maxN k=m)(h:a<=m/\b<=m):EX P n σ (.binOp .or t x y t') ty w (.int k ((a|||b:Y):H)) w:=
 EV hx hy (by
  subst hm;obtain⟨j,hj⟩:=dR k;have hlt:a|||b<2 ^ j:=Mg J J
  have:=LQ Z (show a|||b<=maxN k by omega);simp[binOp,Op.intBits,QP h.1,QP h.2,this])
def Jq(hx:ev σ x=X (.int k (a:H)))(hy:ev σ y=X (.int k (b:H)))(hm:maxN k=m)(h:a<=m/\b<=m):EX P n σ (.binOp .xor t x y t') ty w (.int k ((a ^^^ b:Y):H)) w:=
 EV hx hy (by
  subst hm;obtain⟨j,hj⟩:=dR k;have hlt:a ^^^ b<2 ^ j:=OG J J;have:=LQ Z (show a ^^^ b<=maxN k by omega);simp[binOp,Op.intBits,QP h.1,QP h.2,this])
def Nb{j p:Y}(hx:ev σ x=X (.int k (a:H)))(e:ev σ y=X (.int k (b:H)))(f:2 ^ j=p)(g:b+1=p)(hm:maxN k=m)(h:a<=m/\b<=m):EX P n σ (.binOp .and t x y t') ty w (.int k ((a%p:Y):H)) w:=by
 have l:=Wd (P:=P) (n:=n) (w:=w) (t:=t) (t':=t') (ty:=ty) hx e hm h
 have:a &&& b=a%p:=by
  rw[show b=p-1 by omega,<-f];exact Nat.and_two_pow_sub_one_eq_mod a j
 grind
def Hk{s p:Y}{k':AI}(hx:ev σ x=X (.int k (a:H)))(hy:ev σ y=X (.int k' (s:H)))(hp:2 ^ s=p)(hs:s<=k.bits)(hm:maxN k=m)(h:a*p<=m):
 EX P n σ (.binOp .shl t x y t') ty w (.int k ((a*p:Y):H)) w:=
 Gb hx hy (by rfl) (by
  subst hp;have:=LQ hm h;have hn:¬(s:H)<0:=J;simp only[PY,Int.natCast_pow,Int.cast_ofNat_Int]at this ⊢;simp[binOp,Op.shift,hn,Hq hs,this])
def IF{s p:Y}{k':AI}(hx:ev σ x=X (.int k (a:H)))(hy:ev σ y=X (.int k' (s:H)))(hp:2 ^ s=p)(hs:s<=k.bits)(hm:QO k=m)(h:0<m):
 EX P n σ (.binOp .shl t x y t') ty w (.int k (((a*p)%m:Y):H)) w:=
 Gb hx hy (by rfl) (by
  subst hp;have:=oU (a:=a*2 ^ s) hm h;have hn:¬(s:H)<0:=J;rw[<-this];simp only[PY,Int.natCast_pow,Int.cast_ofNat_Int];simp[binOp,Op.shift,hn,Hq hs])
def IG{s p:Y}{k':AI}(hx:ev σ x=X (.int k (a:H)))(e:ev σ y=X (.int k' (s:H)))(g:2 ^ s=p)(f:s<=k.bits):
 EX P n σ (.binOp .shr t x y t') ty w (.int k ((a/p:Y):H)) w:=
 Gb hx e (by rfl) (by
  subst g;have hn:¬(s:H)<0:=J
  have hf:(a:H).fdiv (2 ^ s)=((a/2 ^ s:Y):H):=by
   rw[Int.fdiv_eq_ediv_of_nonneg _ Bh];simp
  simp[binOp,Op.shift,hn,Hq f,hf])
def JR{op:BinOp}{i j:H}{q:Aw}(h:(Op.intCmp op i j).run P w=.ok (.bool q) w)(e:(match op with|.eql|.neq|.lss|.leq|.gtr|.geq=>Af|_=>Aj)=Af):(binOp op t (.int k i) (.int k j)).run P w=.ok (.bool q) w:=by
 cases op<;>simp at e<;>simpa[binOp]using h
def Oi(hx:ev σ x=X (.int k (a:H)))(hy:ev σ y=X (.int k (b:H))):EX P n σ (.binOp .lss t x y t') ty w (.bool (decide (a<b))) w:=
 EV hx hy (JR (by simp[Op.intCmp]) Z)
def bZ(hx:ev σ x=X (.int k (a:H)))(hy:ev σ y=X (.int k (b:H))):EX P n σ (.binOp .leq t x y t') ty w (.bool (decide (a<=b))) w:=
 EV hx hy (JR (by simp[Op.intCmp]) Z)
def Og(hx:ev σ x=X (.int k (a:H)))(hy:ev σ y=X (.int k (b:H))):EX P n σ (.binOp .gtr t x y t') ty w (.bool (decide (b<a))) w:=
 EV hx hy (JR (by simp[Op.intCmp]) Z)
def pm(hx:ev σ x=X (.int k (a:H)))(hy:ev σ y=X (.int k (b:H))):EX P n σ (.binOp .geq t x y t') ty w (.bool (decide (b<=a))) w:=
 EV hx hy (JR (by simp[Op.intCmp]) Z)
def Oe(hx:ev σ x=X (.int k (a:H)))(e:ev σ y=X (.int k (b:H))):EX P n σ (.binOp .eql t x y t') ty w (.bool (decide (a=b))) w:=
 EV hx e (JR (by
  have:((a:H)==(b:H))=decide (a=b):=by rw[RA];simp;omega
  simp only[Op.intCmp,this];rfl) Z)
def cC(hx:ev σ x=X (.int k (a:H)))(e:ev σ y=X (.int k (b:H))):EX P n σ (.binOp .neq t x y t') ty w (.bool (decide (a≠b))) w:=
 EV hx e (JR (by
  have:((a:H) !=(b:H))=decide (a≠b):=by rw[RA];simp;omega
  simp only[Op.intCmp,this];rfl) Z)
def Oj(hx:ev σ x=X (.int k c))(hy:ev σ y=X (.int k d)):EX P n σ (.binOp .lss t x y t') ty w (.bool (decide (c<d))) w:=
 EV hx hy (JR (by rfl) Z)
def ci(hx:ev σ x=X (.int k c))(hy:ev σ y=X (.int k d)):EX P n σ (.binOp .leq t x y t') ty w (.bool (decide (c<=d))) w:=
 EV hx hy (JR (by rfl) Z)
def Oh(hx:ev σ x=X (.int k c))(hy:ev σ y=X (.int k d)):EX P n σ (.binOp .gtr t x y t') ty w (.bool (decide (d<c))) w:=
 EV hx hy (JR (by rfl) Z)
def pn(hx:ev σ x=X (.int k c))(hy:ev σ y=X (.int k d)):EX P n σ (.binOp .geq t x y t') ty w (.bool (decide (d<=c))) w:=
 EV hx hy (JR (by rfl) Z)
def Of(hx:ev σ x=X (.int k c))(hy:ev σ y=X (.int k d)):EX P n σ (.binOp .eql t x y t') ty w (.bool (decide (c=d))) w:=
 EV hx hy (JR (by rfl) Z)
def cD(hx:ev σ x=X (.int k c))(hy:ev σ y=X (.int k d)):EX P n σ (.binOp .neq t x y t') ty w (.bool (decide (c≠d))) w:=
 EV hx hy (JR (by simp[Op.intCmp,bne,BEq.beq]) Z)
def JZ(hx:ev σ x=X (.int k c))(hy:ev σ y=X (.int k d))(hs:k.signed=Af)(hm:maxN k=m)(h:-((m:H)+1)<=c+d/\c+d<=m):EX P n σ (.binOp .add t x y t') ty w (.int k (c+d)) w:=
 EV hx hy (by simp[binOp,Op.intArith,bE hs hm h])
def RG(hx:ev σ x=X (.int k c))(hy:ev σ y=X (.int k d))(hs:k.signed=Af)(hm:maxN k=m)(h:-((m:H)+1)<=c-d/\c-d<=m):EX P n σ (.binOp .sub t x y t') ty w (.int k (c-d)) w:=
 EV hx hy (by simp[binOp,Op.intArith,bE hs hm h])
def cF(hx:ev σ x=X (.int k (a:H)))(f:k.signed=Aj)(hm:maxN k=m)(h:a<=m):EX P n σ (.unOp .xor t x) ty w (.int k ((m-a:Y):H)) w:=fun A o q l after g=>by
 subst hm;have v:(maxN k:H)=k.max:=by cases k<;>first|rfl|simp[IntKind.signed]at f
 have p:(BitVec.ofInt k.bits k.max ^^^ BitVec.ofInt k.bits (a:H)).toNat=maxN k-a:=by
  have e:BitVec.ofInt k.bits k.max=BitVec.allOnes k.bits:=by cases k<;>first|rfl|simp[IntKind.signed]at f
  rw[e,BitVec.allOnes_xor,BitVec.toNat_not,kY h];have:maxN k+1=2 ^ k.bits:=by cases k<;>first|rfl|simp[IntKind.signed]at f
  omega
 have:=LQ Z (show maxN k-a<=maxN k by omega);simp only[execOp,o.ev hx];simp only[Op.unary,Op.intBits,f,Bool.false_eq_true,if_false,p,this];rfl
def LS{s e:Ay}{k':AI}{dd:TypeDesc}(l:P.underlying s=X dd)(hv:P.underlying e=X (.int k))(hx:ev σ x=X (.int k' (a:H)))(hm:maxN k=m)(h:a<=m):EX P n σ (.convert s e x) ty w (.int k (a:H)) w:=fun A o p f after g=>by
 have:=LQ hm h;simp only[execOp,o.ev hx];simp[convert,run_underlying l,run_underlying hv,Sem.run_bind,Conv.intToInt,this]
def MY{s e:Ay}{k':AI}{dd:TypeDesc}(l:P.underlying s=X dd)(hv:P.underlying e=X (.int k))(hx:ev σ x=X (.int k' (a:H)))(hm:QO k=m)(h:0<m):EX P n σ (.convert s e x) ty w (.int k ((a%m:Y):H)) w:=fun A o p f after g=>by
 have:=oU (a:=a) hm h;simp only[execOp,o.ev hx];simp[convert,run_underlying l,run_underlying hv,Sem.run_bind,Conv.intToInt,this]
def EX.extract{i:Y}{vs:Ap Ah}{v:Ah}(hx:ev σ x=X (.tuple vs))(hi:vs[i]? =X v):EX P n σ (.extract x i) ty w v w:=fun A f h e after g=>by
 simp only[execOp,f.ev hx];simp[Instr.extract,hi]
def Tz{p:Aw}(hx:ev σ x=X (.bool p)):EX P n σ (.unOp .not t x) ty w (.bool !p) w:=fun A f h e after g=>by
 simp only[execOp,f.ev hx];rfl
end
section
variable{P:AE}{n:Y}{σ:BJ}{w:Ad}{t t':Ay}{ty:Ay}{x y:AD}{s r:Bg}
def Na(ht:P.underlying t=X .string)(hx:ev σ x=X (Bj s)):EX P n σ (.call { callee:=.builtin .len,args:=#[x],argTypes:=#[t] }) ty w (.int .i64 (Aim s:H)) w:=fun A f h e after g=>by
 simp only[execOp,resolve,invoke,builtin,Sem.run_bind,Sem.run_pure,Result.andThen_ok,Gy,Cp,EO,f.ev hx];simp[Builtin.len_,run_underlying ht,goInt];rfl
def PU{e:Ay}{A:Av AC}{l c:Y}(ht:P.underlying t=X (.slice e))(hx:ev σ x=X (.slice A l c)):EX P n σ (.call { callee:=.builtin .len,args:=#[x],argTypes:=#[t] }) ty w (.int .i64 (l:H)) w:=fun A h o f after g=>by
 simp only[execOp,resolve,invoke,builtin,Sem.run_bind,Sem.run_pure,Result.andThen_ok,Gy,Cp,EO,h.ev hx];simp[Builtin.len_,run_underlying ht,goInt]
def EW{i:Y}{k:AI}{c:AH}(ht:P.underlying t=X .string)(hx:ev σ x=X (Bj s))(o:ev σ y=X (.int k (i:H)))(hi:s[i]? =X c):EX P n σ (.index t x y) ty w (.int .u8 (c.toNat:H)) w:=fun A h B l after g=>by
 obtain⟨f,p⟩:=HF.1 hi
 have v:(⟨⟨s⟩⟩:ByteArray)[i]? =X c:=by
  have e:i<(⟨⟨s⟩⟩:ByteArray).size:=f;have q:(⟨⟨s⟩⟩:ByteArray)[i]=c:=p;rw[getElem?_pos (⟨⟨s⟩⟩:ByteArray) i e,q]
 simp only[execOp,h.ev hx,h.ev o];simp[Instr.index,asIntOf,run_underlying ht,Sem.run_bind,v]
def HD(hx:ev σ x=X (Bj s))(e:ev σ y=X (Bj r)):EX P n σ (.binOp .eql t x y t') ty w (.bool (decide (s=r))) w:=
 Gb hx e (YL _ _ _) (by
  have:(RB ⟨⟨s⟩⟩==RB ⟨⟨r⟩⟩)=decide (s=r):=by
   rw[RA];simp
  simp only[binOp,Op.stringOp,this];rfl)
def Nc(hx:ev σ x=X (Bj s))(e:ev σ y=X (Bj r)):EX P n σ (.binOp .neq t x y t') ty w (.bool (decide (s≠r))) w:=
 Gb hx e (YL _ _ _) (by
  have:(!(RB ⟨⟨s⟩⟩==RB ⟨⟨r⟩⟩))=decide (s≠r):=by
   rw[RA];simp
  simp only[binOp,Op.stringOp,this];rfl)
def JY(hx:ev σ x=X (Bj s))(e:ev σ y=X (Bj r))(h:Aim s+Aim r<=9223372036854775807):EX P n σ (.binOp .add t x y t') ty w (Bj (s++r)) w:=
 Gb hx e (YL _ _ _) (by
  have h0:¬(((PS ⟨⟨s⟩⟩+PS ⟨⟨r⟩⟩:Y):H)>IntKind.i64.max):=by
   show ¬(((Aim s+Aim r:Y):H)>9223372036854775807);omega
  have f:((⟨⟨s⟩⟩:ByteArray)++⟨⟨r⟩⟩)=⟨⟨s++r⟩⟩:=by
   apply ByteArray.ext;rw[ByteArray.data_append];simp
  unfold binOp;simp only[Op.stringOp,Ag h0,f];rfl)
def TA{p:Prop}[Decidable p](hx:ev σ x=X (.bool (decide p))):EX P n σ (.unOp .not t x) ty w (.bool (decide (¬p))) w:=fun A f h e after g=>by
 simp only[execOp,f.ev hx,decide_not];rfl
def Yf(s:Bg)(i j:Y):(⟨⟨s⟩⟩:ByteArray).extract i j=⟨⟨(s.drop i).take (j-i)⟩⟩:=by
 apply ByteArray.ext;simp
def Td{k:AI}{i:Y}(y:Y)(c:BoundsCode)(h:i<=y):(Instr.sliceBound (.int k (i:H)) y c).run P w=.ok i w:=by
 have e:(0:H)<=(i:H)/\(i:H)<=(y:H):=J;simp[Instr.sliceBound,asIntOf,Sem.run_bind,h]
section
variable{k k':AI}{i j:Y}{lo hi:AD}
def Oo(ht:P.underlying t=X .string)(hx:ev σ x=X (Bj s))(hl:ev σ lo=X (.int k (i:H)))(o:ev σ hi=X (.int k' (j:H)))(h:i<=j/\j<=Aim s):
 EX P n σ (.slice t x (X lo) (X hi) Aa) ty w (Bj ((s.drop i).take (j-i))) w:=fun A e p f after g=>by
 have l:j<=PS ⟨⟨s⟩⟩:=h.2;simp only[execOp,e.ev hx,e.ev hl,e.ev o,FO,Nr];simp[Instr.sliceAt,run_underlying ht,Instr.slice,Instr.sliceBounds,Sem.run_bind,Td _ _ l,Td _ _ h.1,Yf]
def Nd(ht:P.underlying t=X .string)(hx:ev σ x=X (Bj s))(hl:ev σ lo=X (.int k (i:H)))(h:i<=Aim s):
 EX P n σ (.slice t x (X lo) Aa Aa) ty w (Bj (s.drop i)) w:=fun A f p l after g=>by
 have o:i<=PS ⟨⟨s⟩⟩:=h;have e:(s.drop i).take (PS ⟨⟨s⟩⟩-i)=s.drop i:=DA (by rw[CK];exact Bq _);simp only[execOp,f.ev hx,f.ev hl,FO,Nr];simp[Instr.sliceAt,run_underlying ht,Instr.slice,Instr.sliceBounds,Sem.run_bind,Td _ _ o,Yf,e]
def Ka(ht:P.underlying t=X .string)(hx:ev σ x=X (Bj s))(o:ev σ hi=X (.int k' (j:H)))(h:j<=Aim s):
 EX P n σ (.slice t x Aa (X hi) Aa) ty w (Bj (s.take j)) w:=fun A e p f after g=>by
 have l:j<=PS ⟨⟨s⟩⟩:=h;simp only[execOp,e.ev hx,e.ev o,FO,Nr];simp[Instr.sliceAt,run_underlying ht,Instr.slice,Instr.sliceBounds,Sem.run_bind,Td _ _ l,Yf]
end
def pu{k:AI}{a b:Y}{e:Ap Ay}(hx:ev σ x=X (.int k (a:H)))(l:ev σ y=X (.int k (b:H))):EX P n σ (.call { callee:=.builtin .min,args:=#[x,y],argTypes:=e }) ty w (.int k ((min a b:Y):H)) w:=fun A f o h after g=>by
 simp only[execOp,resolve,invoke,builtin,Sem.run_bind,Sem.run_pure,Result.andThen_ok,Gy,Cp,EO,f.ev hx,f.ev l];have:(if(b:H)<a then(b:H)else a)=((min a b:Y):H):=by split<;>omega
 simp only[Builtin.min_,Builtin.min2,List.foldlM,Sem.run_bind,Sem.run_pure,Result.andThen_ok,this]
end
def Bk(w:Ad)(b:Y)(T:Ay)(l:Bm):Prop:=∃fr:Y×Y,w.heap[b]? =X (.cells l.toArray T fr)/\(Aim l<=fr.1∨fr.2<=fr.1)
abbrev Bf(w w':Ad):Prop:=Below w.heap.size w w'
section
variable{w w':Ad}{b:Y}{T:Ay}{l:Bm}
def Bk.lt(h:Bk w b T l):b<w.heap.size:=by
 obtain⟨a,h,_⟩:=h;grind
def Bk.cell(h:Bk w b T l)(i:Y):w.cell? ⟨b,i,Aa⟩=l[i]?:=by
 obtain⟨a,h,_⟩:=h;simp[World.cell?,h]
def Bk.cell_of(h:Bk w b T l){i:Y}{v:Ah}(hi:l[i]? =X v):w.cell? ⟨b,i,Aa⟩=X v:=(h.cell i).trans hi
def Bk.free(h:Bk w b T l)(i:Y)(hi:i<Aim l):w.frozen? ⟨b,i,Aa⟩=Aj:=by
 obtain⟨⟨d,a⟩,h,f⟩:=h;simp only[World.frozen?,h];grind
def Bk.of_block(h:Bk w b T l)(f:w'.heap[b]? =w.heap[b]?):Bk w' b T l:=by
 obtain⟨d,h,a⟩:=h;exact⟨d,Bh,a⟩
def Bk.new(w:Ad)(T:Ay)(l:Bm):Bk (w.alloc (.cells l.toArray T)) w.heap.size T l:=⟨(0,0),heap_alloc_new w _,.inr (Bq _)⟩
def Bk.alloc(h:Bk w b T l)(o:Obj):Bk (w.alloc o) b T l:=h.of_block (Below.heap_alloc w o b h.lt)
def Bk.drew(h:Bk w b T l):Bk w.drew b T l:=h
def Bk.drewN(h:Bk w b T l)(m:Y):Bk (w.drewN m) b T l:=h
def Bk.below{B:Y}(h:Bk w b T l)(hb:Below B w w')(hlt:b<B):Bk w' b T l:=h.of_block (hb.block b hlt)
def Bk.ext(h:Bk w b T l)(hb:Bf w w'):Bk w' b T l:=h.below hb h.lt
def Bk.far(h:Bk w b T l){p:AC}(hp:b≠p.block)(u:Ah):Bk (w.setCell p u) b T l:=h.of_block (Below.heap_setCell w p u b hp)
def Bk.grown{row:Av Y}(h:Bk w b T l)(hg:w.grownBy w' row)(hne:X b≠row):Bk w' b T l:=h.of_block (hg.block b h.lt hne)
def Bk.set(h:Bk w b T l)(i:Y)(u:Ah):Bk (w.setCell ⟨b,i,Aa⟩ u) b T (l.set i u):=by
 have d:=h.lt;obtain⟨a,h,g⟩:=h;have f:w.heap[b]=.cells l.toArray T a:=(LR.1 h).2;refine⟨a,?_,Bh⟩;simp only[World.setCell,VY,if_true,h,FO];simp
def Bk.ne{d:Y}{f:Ay}{g:Bm}(h:Bk w b T l)(a:Bk w d f g)(i:T≠f):b≠d:=by
 rintro rfl;obtain⟨k,h,_⟩:=h;obtain⟨j,a,_⟩:=a;grind
def Bk.det{a:Bm}{f:Ay}(h:Bk w b T l)(d:Bk w b f a):T=f/\l=a:=by
 obtain⟨i,h,_⟩:=h;obtain⟨g,d,_⟩:=d;grind
def Bf.refl(w:Ad):Bf w w:=Below.refl _ _
def Bf.trans{a b c:Ad}(h:Bf a b)(k:Bf b c):Bf a c:=Below.trans h (k.mono h.size)
def Bf.alloc(w:Ad)(o:Obj):Bf w (w.alloc o):=(Below.refl _ _).alloc (Bq _) o
def Bf.drew(w:Ad):Bf w w.drew:=(Below.refl _ _).drew
def Ul{B:Y}{a w:Ad}(h:Below B a w)(m:Y):Below B a (w.drewN m):=⟨h.os,h.tape,h.output,h.size,h.block⟩
def Bf.drewN(w:Ad)(m:Y):Bf w (w.drewN m):=Ul (Below.refl _ _) m
def Rj(P:AE)(w:Ad)(b o:Y)(T:Ay):∀(vs:Bm) (i:Y) (l:Bm) (w:Ad),Bk w b T l->o+i+Aim vs<=Aim l->(∀v∈vs,v.oneCell'=Af)->
 ∃w',(storeCells ⟨b,o,Aa⟩ vs i).run P w=.ok () w'/\Bk w' b T (l.take (o+i)++vs++l.drop (o+i+Aim vs))/\w.grownBy w' (X b)
 |[],i,l,w,h,_,_=>⟨w,Z,by simpa using h,⟨Z,Z,Z,Bq _,fun _ _ _=>rfl⟩⟩
 |v::vs,i,l,w,h,hl,h1=>by
  simp only[Cv]at hl;have hlt:o+i<Aim l:=J;have hc:w.cell? ⟨b,o+i,Aa⟩=X l[o+i]:=h.cell_of (BN hlt);have hf:=h.free (o+i) hlt;have hadd:(⟨b,o,Aa⟩:AC).add i=⟨b,o+i,Aa⟩:=by unfold Addr.add;split<;>simp_all
  obtain⟨w',m,q,d⟩:=Rj P w b o T vs (i+1) (l.set (o+i) v) (w.setCell ⟨b,o+i,Aa⟩ v) (h.set (o+i) v) Bh (fun u j=>h1 u Bh);have f:=h1 v Bl
  have g:(store ⟨b,o+i,Aa⟩ v).run P w=.ok () (w.setCell ⟨b,o+i,Aa⟩ v):=by
   cases v<;>simp[Value.oneCell']at f<;>simp[store,Sem.run,hc,hf]
  refine⟨w',?_,?_,⟨d.os,d.tape,d.output,by have:=d.size;simp_all,fun k p a=>?_⟩⟩
  .simp only[storeCells,Sem.run_bind,hadd,g,Result.andThen_ok];omega
  .have A:(l.set (o+i) v).take (o+(i+1))=l.take (o+i)++[v]:=by
    rw[show o+(i+1)=(o+i)+1 by omega,Me];rw[List.take_set_of_le (Bq _)];simp[hlt]
   have r:(l.set (o+i) v).drop (o+(i+1)+Aim vs)=l.drop (o+i+(Aim vs+1)):=by
    rw[List.drop_set_of_lt J];congr 1;omega
   simp_all
  .rw[d.block k (by simp_all) a];exact Below.heap_setCell w _ v k (fun e=>a (by rw[e]))
end
def TI(P:AE)(T:Ay)(z:Ah)(s b:Y):Prop:=(P.info? T).map (fun i=>(i.zero,i.size,i.bytes))=X (X z,s,b)
def TI.at{P:AE}{T:Ay}{z:Ah}{s b:Y}(h:TI P T z s b):∃i,P.info? T=X i/\i.zero=X z/\i.size=s/\i.bytes=b:=by
 unfold TI at h;simp_all
def flat:TypeDesc->Aw
 |.struct _|.array _ _=>Aj
 |_=>Af
section
variable{P:AE}{n:Y}{σ:BJ}{w w':Ad}{t t' e:Ay}{ty:Ay}{x y:AD}{b o:Y}{l:Bm}{T:Ay}{z v:Ah}{s bs:Y}
def MN{d:TypeDesc}(a:P.underlying t=X d):(isAgg t).run P w=.ok (!flat d) w:=by
 unfold isAgg;rw[Sem.run_bind,run_underlying a w];cases d<;>rfl
def Fj(h:TI P t z s bs):(sizeOf t).run P w=.ok s w:=by
 obtain⟨i,a,_,rfl,_⟩:=h.at;simp[sizeOf,typeInfo,a,Sem.run_bind]
def NR(h:TI P t z s bs):(zeroValue t).run P w=.ok z w:=by
 obtain⟨i,d,a,_⟩:=h.at;simp[zeroValue,typeInfo,d,a,Sem.run_bind]
def EX.alloc(h:TI P t z s bs)(hl:z.cells.toList=l):EX P n σ (.alloc t) ty w (.pointer (X ⟨w.heap.size,0,Aa⟩)) (w.alloc (.cells l.toArray t)):=fun A f d a after g=>by
 subst hl;simp only[execOp,Instr.alloc,Sem.run_bind,NR h,Result.andThen_ok];rfl
def EX.box(hx:ev σ x=X v)(hl:v.cells.toList=l):EX P n σ (.box t x) ty w (.pointer (X ⟨w.heap.size,0,Aa⟩)) (w.alloc (.cells l.toArray t)):=fun A d f a after g=>by
 subst hl;simp only[execOp,Instr.box,d.ev hx,Sem.run_bind];rfl
def Cg{d:TypeDesc}{a:AC}(h:P.underlying t=X d)(i:flat d=Af)(hx:ev σ x=X (.pointer (X a)))(m:w.cell? a=X v):EX P n σ (.load t x) ty w v w:=fun A j k f after g=>by
 simp only[execOp,Instr.loadAt,Instr.sureAddr,j.ev hx,Sem.run_bind,Sem.run_pure,Result.andThen_ok,loadVar,MN h,i];simp_all
def KT{d:TypeDesc}(k:P.underlying t=X d)(p:flat d=Aj)(h:TI P t z s bs)(hx:ev σ x=X (.pointer (X ⟨b,o,Aa⟩)))(m:Aim l=s)
 (C:∀j u,l[j]? =X u->w.cell? ⟨b,o+j,Aa⟩=X u):EX P n σ (.load t x) ty w (.agg l.toArray) w:=fun A q r i after g=>by
 have a:=run_loadCells_list (P:=P) w ⟨b,o,Aa⟩ l (fun j u B=>by
  have f:(⟨b,o,Aa⟩:AC).add j=⟨b,o+j,Aa⟩:=by unfold Addr.add;split<;>simp_all
  grind)
 simp only[execOp,Instr.loadAt,Instr.sureAddr,q.ev hx,Sem.run_bind,Sem.run_pure,Result.andThen_ok,loadVar,MN k,p,Fj h];rw[m]at a;simp[Fj h,a,Sem.run_bind]
def Jl{d:TypeDesc}(hu:P.underlying t=X d)(hd:flat d=Aj)(h:TI P t z s bs)(hx:ev σ x=X (.pointer (X ⟨b,0,Aa⟩)))(hb:Bk w b T l)(hs:Aim l=s):EX P n σ (.load t x) ty w (.agg l.toArray) w:=
 KT hu hd h hx hs fun j u hj=>by rw[FW];exact hb.cell_of hj
def EU.store{a:AC}{u:Ah}(h:TI P t z 1 bs)(hx:ev σ x=X (.pointer (X a)))(m:ev σ y=X v)(h1:v.oneCell'=Af)(p:w.cell? a=X u)(hf:w.frozen? a=Aj):EU P n σ (.store t x y) ty w (w.setCell a v):=fun A j q k after g=>by
 have f:(Go.store a v).run P w=.ok () (w.setCell a v):=by
  cases v<;>simp[Value.oneCell']at h1<;>simp[Go.store,Sem.run,p,hf]
 have i:v.cells=#[v]:=by cases v<;>simp[Value.oneCell']at h1<;>rfl
 have d:a.add 0=a:=by unfold Addr.add;simp
 simp only[execOp,Instr.storeAt,Instr.sureAddr,j.ev hx,j.ev m,Sem.run_bind,Sem.run_pure,Result.andThen_ok,storeVar,Fj h,i];simp[storeCells,Sem.run_bind,d,f]
def RD{i:Y}(h:TI P t z 1 bs)(hx:ev σ x=X (.pointer (X ⟨b,i,Aa⟩)))(hy:ev σ y=X v)(h1:v.oneCell'=Af)(hb:Bk w b T l)(hi:i<Aim l):EU P n σ (.store t x y) ty w (w.setCell ⟨b,i,Aa⟩ v):=
 EU.store h hx hy h1 (hb.cell_of (BN hi)) (hb.free i hi)
def LF{v:Ah}(h:v.oneCell'=Af):v.cells=#[v]:=by cases v<;>simp[Value.oneCell']at h<;>rfl
def Tv{vs:Bm}(h:TI P t z s bs)(hx:ev σ x=X (.pointer (X ⟨b,o,Aa⟩)))(f:ev σ y=X (.agg vs.toArray))(q:Aim vs=s)(h1:vs.all (·.oneCell')=Af)(m:Bk w b T l)(hl:o+Aim vs<=Aim l):
 ∃w',EU P n σ (.store t x y) ty w w'/\Bk w' b T (l.take o++vs++l.drop (o+Aim vs))/\w.grownBy w' (X b):=by
 obtain⟨w',r,k,j⟩:=Rj P w b o T vs 0 l w m J (fun v i=>Ng.1 h1 v i);refine⟨w',fun A a p d after g=>?_,J,j⟩;simp only[execOp,Instr.storeAt,Instr.sureAddr,a.ev hx,a.ev f,Sem.run_bind,Sem.run_pure,Result.andThen_ok,storeVar,Fj h,Value.cells];simp_all
def PT{m:Y}{k:AI}{i:Y}(p:P.underlying t=X (.array m e))(h:TI P e z s bs)(hx:ev σ x=X (.pointer (X ⟨b,o,Aa⟩)))(j:ev σ y=X (.int k (i:H)))(hi:i<m):
 EX P n σ (.indexAddr t x y) ty w (.pointer (X ⟨b,o+i*s,Aa⟩)) w:=fun A d q f after g=>by
 have r:(0:H)<=(i:H)/\(i:H)<(m:H):=J;have a:(⟨b,o,Aa⟩:AC).add (i*s)=⟨b,o+i*s,Aa⟩:=by unfold Addr.add;split<;>simp_all
 simp only[execOp,d.ev hx,d.ev j];simp[Instr.indexAt,asIntOf,run_underlying p,Sem.run_bind,Instr.sureAddr,hi,Fj h,a]
def MZ{k:AI}{i len cap:Y}(m:P.underlying t=X (.slice e))(h:TI P e z s bs)(hx:ev σ x=X (.slice (X ⟨b,o,Aa⟩) len cap))(j:ev σ y=X (.int k (i:H)))(hi:i<len):
 EX P n σ (.indexAddr t x y) ty w (.pointer (X ⟨b,o+i*s,Aa⟩)) w:=fun A d p f after g=>by
 have q:(0:H)<=(i:H)/\(i:H)<(len:H):=J;have a:(⟨b,o,Aa⟩:AC).add (i*s)=⟨b,o+i*s,Aa⟩:=by unfold Addr.add;split<;>simp_all
 simp only[execOp,d.ev hx,d.ev j];simp[Instr.indexAt,asIntOf,run_underlying m,Sem.run_bind,Instr.sureAddr,hi,Fj h,a]
def LV{m:Y}{k:AI}{i:Y}(d:P.underlying t=X (.array m e))(h:TI P e z 1 bs)(hx:ev σ x=X (.pointer (X ⟨b,o,Aa⟩)))(a:ev σ y=X (.int k (i:H)))(hi:i<m):
 EX P n σ (.indexAddr t x y) ty w (.pointer (X ⟨b,o+i,Aa⟩)) w:=by simpa using PT (ty:=ty) (w:=w) (n:=n) d h hx a hi
def KS{k:AI}{i len cap:Y}(d:P.underlying t=X (.slice e))(h:TI P e z 1 bs)(hx:ev σ x=X (.slice (X ⟨b,o,Aa⟩) len cap))(a:ev σ y=X (.int k (i:H)))(hi:i<len):
 EX P n σ (.indexAddr t x y) ty w (.pointer (X ⟨b,o+i,Aa⟩)) w:=by simpa using MZ (ty:=ty) (w:=w) (n:=n) d h hx a hi
def LU{m:Y}{k:AI}{i:Y}(d:P.underlying t=X (.array m e))(h:TI P e z 1 bs)(hx:ev σ x=X (.pointer (X ⟨b,0,Aa⟩)))(a:ev σ y=X (.int k (i:H)))(hi:i<m):
 EX P n σ (.indexAddr t x y) ty w (.pointer (X ⟨b,i,Aa⟩)) w:=by simpa using PT (ty:=ty) (w:=w) (n:=n) d h hx a hi
def KQ{k:AI}{i len cap:Y}(d:P.underlying t=X (.slice e))(h:TI P e z 1 bs)(hx:ev σ x=X (.slice (X ⟨b,0,Aa⟩) len cap))(a:ev σ y=X (.int k (i:H)))(hi:i<len):
 EX P n σ (.indexAddr t x y) ty w (.pointer (X ⟨b,i,Aa⟩)) w:=by simpa using MZ (ty:=ty) (w:=w) (n:=n) d h hx a hi
def DV{a:AC}(hx:ev σ x=X (.pointer (X a))):EX P n σ (.nilCheck x) ty w (.pointer (X a)) w:=fun A f h d after g=>by
 simp only[execOp,f.ev hx];rfl
end
def Sl(w:Ad)(B:Y)(A:Av AC)(xs:Bm):Prop:=
 xs=[]∨∃b o,A=X ⟨b,o,Aa⟩/\b<B/\∀j u,xs[j]? =X u->w.cell? ⟨b,o+j,Aa⟩=X u
def BC(k:AI)(l:Bi):Bm:=l.map fun(x:Y)=>Value.int k (x:H)
def BI(l:Bg):Bm:=l.map fun c=>Value.int .u8 (c.toNat:H)
def Bp(w:Ad)(B:Y)(T:Ay)(s:Y)(v:Ah)(n:Y)(xs:Bm):Prop:=
 Aim xs=n*s/\((v=.slice Aa 0 0/\n=0)∨
  ∃g cap rest,v=.slice (X ⟨g,0,Aa⟩) n cap/\B<=g/\Bk w g T (xs++rest)/\Aim xs+Aim rest=cap*s/\n<=cap/\cap<=maxLen)
section
variable{w w':Ad}{B B':Y}{A:Av AC}{xs:Bm}{T:Ay}{s n:Y}{v:Ah}
def Sl.at_(h:Sl w B A xs)(hx:0<Aim xs):∃b o,A=X ⟨b,o,Aa⟩/\b<B/\∀j u,xs[j]? =X u->w.cell? ⟨b,o+j,Aa⟩=X u:=by
 rcases h with h|h
 .grind
 .omega
def Sl.keep(h:Sl w B A xs)(hk:∀p:AC,p.block<B->w'.cell? p=w.cell? p):Sl w' B A xs:=by
 rcases h with h|⟨b,o,i,a,g⟩
 .exact .inl h
 .exact .inr ⟨b,o,i,a,fun j u f=>(hk _ a).trans (g j u f)⟩
def Sl.more(h:Sl w B A xs)(g:B<=B'):Sl w B' A xs:=by
 rcases h with h|⟨b,o,f,i,a⟩
 .exact .inl h
 .exact .inr ⟨b,o,f,J,a⟩
def Sl.below(h:Sl w B A xs)(hb:Below B w w'):Sl w' B A xs:=h.keep fun _ hp=>hb.cell hp
def Sl.ext(h:Sl w B A xs)(g:Bf w w'):Sl w' B A xs:=by
 rcases h with h|⟨b,o,l,i,f⟩
 .exact .inl h
 .exact .inr ⟨b,o,l,i,fun j u a=>(g.cell (block_lt_of_cell (f j u a))).trans (f j u a)⟩
def Sl.pre(h:Sl w B A xs)(m:Y):Sl w B A (xs.take m):=by
 rcases h with h|⟨b,o,g,f,a⟩
 .subst h;left;simp
 .exact .inr ⟨b,o,g,f,fun j u i=>a j u (by
   grind)⟩
def Sl.Agf{b:Y}{l:Bm}(h:Bk w b T l)(hB:b<B):Sl w B (X ⟨b,0,Aa⟩) l:=.inr ⟨b,0,Z,hB,fun j u hu=>by rw[FW];exact h.cell_of hu⟩
def Bk.sl{b:Y}{l:Bm}(h:Bk w b T l):Sl w w.heap.size (X ⟨b,0,Aa⟩) l:=Sl.Agf h h.lt
def Bp.nil(w:Ad)(B:Y)(T:Ay)(s:Y):Bp w B T s (.slice Aa 0 0) 0 []:=⟨Bl,Bl⟩
def Bp.lt(h:Bp w B T s v n xs):∀k,v.ownBlock=X k->B<=k/\k<w.heap.size:=by
 intro k a;rcases h.2 with⟨rfl,_⟩|⟨g,j,rest,rfl,i,f,_⟩
 .simp[Value.ownBlock]at a
 .simp[Value.ownBlock]at a;subst a;exact⟨i,f.lt⟩
def Bp.Agr(h:Bp w B T s v n xs)(hk:∀k,v.ownBlock=X k->w'.heap[k]? =w.heap[k]?):Bp w' B T s v n xs:=by
 refine⟨h.1,?_⟩;rcases h.2 with j|⟨g,i,rest,rfl,f,a,r⟩
 .grind
 .exact .inr ⟨g,_,_,Z,f,a.of_block (hk g Z),r⟩
def Bp.ext(h:Bp w B T s v n xs)(hx:Bf w w'):Bp w' B T s v n xs:=h.Agr fun k hk=>hx.block k (h.lt k hk).2
def Bp.grown{row:Av Y}(h:Bp w B T s v n xs)(hg:w.grownBy w' row)(hne:v.ownBlock=Aa∨v.ownBlock≠row):Bp w' B T s v n xs:=
 h.Agr fun k hk=>hg.block k (h.lt k hk).2 Bh
def Bp.alloc(h:Bp w B T s v n xs)(o:Obj):Bp (w.alloc o) B T s v n xs:=h.ext (Bf.alloc w o)
def Bp.drewN(h:Bp w B T s v n xs)(m:Y):Bp (w.drewN m) B T s v n xs:=Cr
def Bp.more(h:Bp w B T s v n xs)(j:B'<=B):Bp w B' T s v n xs:=by
 refine⟨h.1,?_⟩;rcases h.2 with f|⟨g,a,rest,rfl,i,r⟩
 .grind
 .exact .inr ⟨g,_,_,Z,J,r⟩
def Bp.slice(h:Bp w B T s v n xs):∃A c,v=.slice A n c/\n<=c/\Sl w w.heap.size A xs:=by
 rcases h.2 with⟨rfl,rfl⟩|⟨g,i,rest,rfl,o,a,m,f,_⟩
 .exact⟨_,0,Z,J,.inl (Gx (by simpa using h.1))⟩
 .refine⟨_,_,Z,f,.inr ⟨g,0,Z,a.lt,fun j u l=>?_⟩⟩;refine a.cell_of ?_;grind
def Bp.blk(h:Bp w B T s v n xs)(hx:0<Aim xs):∃g cap rest,v=.slice (X ⟨g,0,Aa⟩) n cap/\B<=g/\Bk w g T (xs++rest)/\Aim xs+Aim rest=cap*s/\n<=cap/\cap<=maxLen:=by
 rcases h.2 with⟨rfl,rfl⟩|a
 .have:=h.1;omega
 .omega
def Bp.Agf{g cap:Y}{l:Bm}(hg:Bk w g T l)(hB:B<=g)(hl:Aim l=cap*s)(hm:cap<=maxLen):Bp w B T s (.slice (X ⟨g,0,Aa⟩) cap cap) cap l:=
 ⟨hl,.inr ⟨g,cap,[],Z,hB,Bh,J,J,hm⟩⟩
end
section
variable{P:AE}{w:Ad}
def Ace(z:Ap Ah)(n:Y):(Builtin.zeroCells z n).size=n*z.size:=by simp[Builtin.zeroCells]
def Vz(B:Y)(t I ty e:Ay){z:Ah}{s bs:Y}(ht:P.underlying t=X (.slice e))(hi:TI P e z s bs)(K:z.cells.size=s)(af:0<s)
 {v:Ah} {n:Y} {xs:Bm} (l:Bp w B e s v n xs) {x:Ah} {m:Y} {a:Bm} (h:Src P s I x m a w)
 (G:n+m<=maxLen) (q:(n+m)*bs<=140737488355328) (hB:B<=w.heap.size):
 ∃v' w',(Builtin.append_ #[t,I] ty #[v,x]).run P w=.ok v' w'/\Bp w' B e s v' (n+m) (xs++a)/\w.grownBy w' v.ownBlock/\(v'.ownBlock=v.ownBlock∨v'.ownBlock=X w.heap.size):=by
 obtain⟨i,N,hz,rfl,rfl⟩:=hi.at;have p:Aim (xs++a)=(n+m)*i.size:=by rw[BA,l.1,h.newsLen,RV]
 have grow:∀(A:Av _) (f:Y),v=.slice A n f->f<n+m->(Builtin.firstCells i.size n (.slice A n f)).run P w.drew=.ok xs.toArray w.drew->
  ∃v' w',(Builtin.append_ #[t,I] ty #[v,x]).run P w=.ok v' w'/\Bp w' B e i.size v' (n+m) (xs++a)/\w.grownBy w' v.ownBlock/\(v'.ownBlock=v.ownBlock∨v'.ownBlock=X w.heap.size):=by
  intro A f hv S D;subst hv;have hr:=run_append_grow_src w t _ ty e i z ht N hz A n _ _ D x m _ h S (by simp[maxLen]at G;omega) (growslice_fits J q);have Q:=grownCap_ge w (n+m) f e;have C:=grownCap_le_maxLen w _ f e G;refine⟨_,_,hr,⟨p,.inr ⟨_,_,(Builtin.zeroCells z.cells (grownCap w (n+m) f e-(n+m))).toList,Z,hB,?_,?_,Q,C⟩⟩,⟨Z,Z,Z,Bl,fun k r _=>Below.heap_alloc _ _ k r⟩,.inr Z⟩
  .have:=Bk.new w.drew e ((xs++a)++(Builtin.zeroCells z.cells (grownCap w (n+m) f e-(n+m))).toList);rw[show((xs++a)++(Builtin.zeroCells z.cells (grownCap w (n+m) f e-(n+m))).toList).toArray=(xs++a).toArray++Builtin.zeroCells z.cells (grownCap w (n+m) f e-(n+m)) by simp]at this;simp_all
  .rw[p,Array.length_toList,Ace,K,<-RV];grind
 rcases l.2 with⟨rfl,rfl⟩|⟨g,f,rest,rfl,hb,hg,W,V,C⟩
 .have hx:xs=[]:=Gx (by simpa using l.1);subst hx;by_cases hm:m=0
  .subst hm;have V:a=[]:=Gx Bh;subst V;refine⟨.slice Aa 0 0,w,?_,Bp.nil _ _ _ _,⟨Z,Z,Z,Bq _,fun _ _ _=>rfl⟩,.inl Z⟩;have S:=h.cells;rcases h.kind with⟨e',r⟩|r<;>simp[Builtin.append_,run_underlying ht,run_underlying r,sizeOf,typeInfo,N,h.len,S]
  .exact grow Aa 0 Z J (by rfl)
 .by_cases o:n+m<=f
  .have ab:n*i.size+Aim a<=Aim (xs++rest):=by
    rw[BA,W,h.newsLen,<-RV];exact OF _ o
   obtain⟨w',L,aj,ai⟩:=Rj P w g (n*i.size) e a 0 (xs++rest) w hg J h.one;refine⟨.slice (X ⟨g,0,Aa⟩) (n+m) f,w',?_,⟨p,.inr ⟨g,f,rest.drop (Aim a),Z,hb,?_,?_,o,C⟩⟩,Cr,.inl Z⟩
   .rcases h.kind with⟨e',r⟩|r<;>simp[Builtin.append_,run_underlying ht,run_underlying r,sizeOf,typeInfo,N,h.len,o,h.cells,Addr.add_lit,L]
   .have e1:(xs++rest).take (n*i.size)=xs:=by rw[<-l.1];exact List.take_left
    have e2:(xs++rest).drop (n*i.size+Aim a)=rest.drop (Aim a):=by
     rw[<-l.1,<-Ge,List.drop_left]
    grind
   .rw[CK,p];have h1:(Aim xs+Aim rest)=f*i.size:=W;rw[l.1]at h1;grind
  .refine grow _ f Z J ?_
   have:(loadCells ⟨g,0,Aa⟩ (n*i.size)).run P w.drew=.ok xs.toArray w.drew:=by
    have:=run_loadCells_list (P:=P) w.drew ⟨g,0,Aa⟩ xs (fun j u hj=>by
     have E:(⟨g,0,Aa⟩:AC).add j=⟨g,j,Aa⟩:=by unfold Addr.add;split<;>simp_all
     rw[E];refine(hg.drew).cell_of ?_;grind)
    rwa[l.1]at this
   assumption
def Src.Agh{i C:Ay}{s:Y}(hk:P.underlying i=X (.slice C)){B:Y}{A:Av AC}{m c:Y}{f:Bm}(h:Sl w B A f)(hl:Aim f=m*s)(h1:∀u∈f,u.oneCell'=Af)(q:0<s):Src P s i (.slice A m c) m f w:=by
 have cells:∀g:Ad,(∀a,g.cell? a=w.cell? a)->(Builtin.firstCells s m (.slice A m c)).run P g=.ok f.toArray g:=by
  intro g p;rcases h with h|⟨b,o,rfl,_,E⟩
  .subst h;have r:m*s=0:=by simpa using hl.symm
   cases A with
   |none=>rfl
   |some a=>simp[Builtin.firstCells,r,loadCells,loadCellsFrom]
  .have:=run_loadCells_list (P:=P) g ⟨b,o,Aa⟩ f (fun j u D=>by
    have l:(⟨b,o,Aa⟩:AC).add j=⟨b,o+j,Aa⟩:=by unfold Addr.add;split<;>simp_all
    grind)
   rw[hl]at this;assumption
 exact⟨Bh,fun _=>rfl,Bh,cells _ fun _=>rfl,hl,h1⟩
def Src.Agq{tx:Ay}(hk:P.underlying tx=X .string)(l:Bg):Src P 1 tx (Bj l) (Aim l) (BI l) w:=Src.ofString w hk ⟨⟨l⟩⟩
def Lx{k:AI}{l:Bi}:∀u∈BC k l,u.oneCell'=Af:=by
 intro u a;obtain⟨_,_,rfl⟩:=Ck.1 a;rfl
def Uo{l:Bg}:∀u∈BI l,u.oneCell'=Af:=by
 intro u a;obtain⟨_,_,rfl⟩:=Ck.1 a;rfl
def EF(l:Bg):Aim (BI l)=Aim l:=by simp[BI]
def DF(k:AI)(l:Bi):Aim (BC k l)=Aim l:=by simp[BC]
def UQ(k:AI)(l m:Bi):BC k (l++m)=BC k l++BC k m:=by simp[BC]
def Xo(l m:Bg):BI (l++m)=BI l++BI m:=by simp[BI]
end
section
variable{P:AE}{R:AF->Ad->Prop}{ops:Ap AG}{rest:Ae AG}{k:Ae KI}{n:Y}{σ:BJ}{w:Ad}{x y:AD}{t t' e ty:Ay}{pos:AJ}{after:Ap Edge}{gd:Av (Y×Aw)}{d:Y}
def OW.append(B:Y){z:Ah}{s bs:Y}(G:BK ops σ gd=X Af)(I:BL d n=Af)(ht:P.underlying t=X (.slice e))(hi:TI P e z s bs)(o:z.cells.size=s)(p:0<s)
 {v r:Ah} {m l:Y} {xs f:Bm} (hx:ev σ x=X v) (D:ev σ y=X r) (j:Bp w B e s v l xs) (i:Src P s t' r m f w)
 (q:l+m<=maxLen) (a:(l+m)*bs<=140737488355328) (K:B<=w.heap.size)
 (h:∀v' w',Bp w' B e s v' (l+m) (xs++f)->w.grownBy w' v.ownBlock->(v'.ownBlock=v.ownBlock∨v'.ownBlock=X w.heap.size)->OW P R ops rest k n ((d,v')::σ) w'):
 OW P R ops (⟨X d,.call { callee:=.builtin .append,args:=#[x,y],argTypes:=#[t,t'] },ty,pos,after,gd⟩::rest) k n σ w:=by
 obtain⟨v',w',E,S,Q,N⟩:=Vz (P:=P) B t t' ty e ht hi o p j i q a K;refine OW.val G I (v:=v') (w':=w') ?_ Bh;intro A C L pos after g;simp[execOp,resolve,invoke,builtin,Sem.run_bind,Sem.run_pure,Result.andThen_ok,Gy,Cp,EO,C.ev hx,C.ev D,E]
def gy:∀(vs:Bm) (i:Y) (pre post:Bm),Aim pre=i->(∀v∈vs,v.oneCell'=Af)->Aim post=Aim vs->
 Instr.fill (fun i=>X (i*1,1)) (pre++post).toArray ((vs.zipIdx i).map fun(v,j)=>(j,v))=X (pre++vs).toArray
 |[],i,pre,post,hp,_,hl=>by
  have:post=[]:=Bh;subst this;rfl
 |v::vs,i,pre,post,hp,h1,hl=>by
  cases post with
  |nil=>grind
  |cons p post=>
   have hc:=LF (h1 v Bl);have ih:=gy vs (i+1) (pre++[v]) _ (by simp[hp]) Bh (by simpa using hl);simp only[WM,Cp,Instr.fill,hc,WJ,Cv,EZ,Ic];grind
def Abf{z:Ah}{bs:Y}{l:Ap (Y×Ah)}{vs:Bm}(len:Y)(ht:P.underlying t=X (.slice e))(hi:TI P e z 1 bs)(g:z.oneCell'=Af)
 (h:l.toList=vs.zipIdx.map fun(v,j)=>(j,v)) (hl:Aim vs=len) (h1:∀v∈vs,v.oneCell'=Af) (m:len<=16777216):
 (Instr.buildSlice t len l).run P w=.ok (.slice (X ⟨w.heap.size,0,Aa⟩) len len) (w.alloc (.cells vs.toArray e)):=by
 have o:=gy _ 0 [] (BG len z) Z h1 Bh;simp only[Ev]at o;have f:=LF g
 have a:((Array.range (len*1)).map fun j=>#[z][j%(#[z]).size]!)=(BG len z).toArray:=by
  apply Array.ext';apply GU;intro j;by_cases r:j<len
  .grind
  .grind
 have p:¬(len*1>2 ^ 24):=J;simp only[Instr.buildSlice,Sem.run_bind,run_underlying ht,Fj hi,Result.andThen_ok,Ag p,h];by_cases q:len*1=0
 .have i:len=0:=J;subst i;have:vs=[]:=Bh;subst this;simp[Instr.fill,newRow,Sem.run,Array.range_zero']
 .rw[Ag q];simp only[Sem.run_bind,NR hi,Result.andThen_ok,Sem.run_pure,f,a,o];rfl
def EX.buildSlice{z:Ah}{bs:Y}{BO:Ap (Y×AD)}{vs:Bm}(len:Y)(ht:P.underlying t=X (.slice e))(hi:TI P e z 1 bs)(f:z.oneCell'=Af)
 (hv:evs σ (BO.toList.map (·.2))=X vs) (i:BO.toList.map (·.1)=GX 0 (Aim BO.toList)) (hl:Aim vs=len) (h1:vs.all (·.oneCell')=Af) (a:len<=16777216):
 EX P n σ (.buildSlice t len BO) ty w (.slice (X ⟨w.heap.size,0,Aa⟩) len len) (w.alloc (.cells vs.toArray e)):=fun A l o pos after g=>by
 have h:(BO.map fun(p:Y×AD)=>(p.1,A.eval p.2)).toList=vs.zipIdx.map fun(v,j)=>(j,v):=by
  have m:=l.evs hv;apply GU;intro j;have r:=Ar (·[j]?) m;have q:=Ar (·[j]?) i;cases hq:BO.toList[j]? with
  |none=>grind
  |some p=>
   grind
 have:=Abf (w:=w) _ ht hi f h hl Bh a;simp only[execOp,Sem.run_bind];simp_all
def cy{z:Ah}{bs len:Y}{l m:AI}(ht:P.underlying t=X (.slice e))(hi:TI P e z 1 bs)(a:z.oneCell'=Af)(hx:ev σ x=X (.int l (len:H)))(q:ev σ y=X (.int m (len:H)))
 (I:bs*len<=281474976710656) (E:len<=9223372036854775807):
 EX P n σ (.makeSlice t x y) ty w (.slice (X ⟨w.heap.size,0,Aa⟩) len len) (w.alloc (.cells (BG len z).toArray e)):=fun A o G pos after g=>by
 obtain⟨i,C,p,r,rfl⟩:=hi.at
 have j:=by
  have h:((i.bytes*len:Y):H)<=281474976710656:=J;rwa[PY]at h
 have f:=run_make w t e i z ht C p l m len _ J J j J;simp[RH,r,Ic,LF a]at f
 have D:madeCells #[z] len=(BG len z).toArray:=by
  apply Array.ext';rw[toList_madeCells_one]
 rw[D]at f;simp only[execOp,o.ev hx,o.ev q,Sem.run_bind,f];rfl
def EX.bytesOf{s:Bg}(ht:P.underlying t=X .string)(j:P.underlying t'=X (.slice e))(he:P.underlying e=X (.int .u8))(hx:ev σ x=X (Bj s))(L:Aim s<=9223372036854775807):
 ∃v w',EX P n σ (.convert t t' x) ty w v w'/\Bp w' w.heap.size e 1 v (Aim s) (BI s)/\v.ownBlock=X w.heap.size/\Bf w w':=by
 let cap:=Question.cut (.appendCap (Aim s) 0 e) (w.tape w.drawn (.appendCap (Aim s) 0 e))
 have r:Aim s<=cap:=by simp[cap,Question.cut]
 have q:cap<=maxLen:=by
  have E:=Kk (w.tape w.drawn (.appendCap (Aim s) 0 e)) (show 0<2 ^ 63-Aim s by omega);simp only[cap,Question.cut,maxLen];omega
 let l:=BI s++BG (cap-Aim s) (Value.int .u8 0)
 have p:Aim l=cap:=by simp[l,BI];omega
 let w1:=w.drew.alloc (.cells l.toArray e)
 let w2:=w1.freeze ⟨w.heap.size,cap,Aa⟩ 1
 have h:(s.toArray.map fun b=>Value.int .u8 b.toNat)++JW (cap-Aim s) (Value.int .u8 0)=l.toArray:=by
  apply Array.ext';simp[l,BI]
 have i:w1.heap[w.heap.size]? =X _:=heap_alloc_new _ _;have o:w1.shape? w.heap.size=X (e,cap):=by simp[World.shape?,i,p]
 have C:w2.heap[w.heap.size]? =X (.cells l.toArray e (cap,cap+1)):=by
  simp[w2,World.freeze];simp[VY,i]
 have f:(Conv.stringToBytes e ⟨⟨s⟩⟩).run P w=.ok (.slice (X ⟨w.heap.size,0,Aa⟩) (Aim s) cap) w2:=by
  have m:PS ⟨_⟩=Aim s:=rfl;have G:Question.forced (.appendCap (Aim s) 0 e)=Aj:=rfl;simp only[Conv.stringToBytes,m,Sem.run_bind,choose,Sem.run,G,Bool.false_eq_true,if_false,Result.andThen_ok,newRow,newObj,Sem.run_pure];rw[show((⟨_⟩:ByteArray).data.map _)=s.toArray.map _ from Z,h];have a:World.shape? { w with drawn:=w.drawn+1,heap:=w.heap.push _ } _=X _:=o;simp only[markStringish,shape,Sem.run_bind,Sem.run,a,freeze];rfl
 refine⟨_,_,fun A I K pos after g=>?_,⟨Bh,.inr ⟨_,_,_,Z,J,⟨_,C,Bh⟩,Bh,r,q⟩⟩,Z,⟨Z,Z,Z,?_,fun k D=>?_⟩⟩
 .simp only[execOp,I.ev hx,convert,run_underlying ht,run_underlying j,run_underlying he,Sem.run_bind,Result.andThen_ok,f];rfl
 .grind
 .have:w2.heap[k]? =w1.heap[k]?:=by
   simp[w2,World.freeze];simp[VY,Nat.ne_of_gt D]
  rw[this];exact Below.heap_alloc _ _ k D
def Acz(s:Bg):strOfNums (s.map fun c=>(c.toNat:H))=⟨⟨s⟩⟩:=by
 have h:s.map ((fun n:H=>BS n.toNat)∘fun c=>c.toNat)=s:=by
  have a:∀c∈s,((fun n:H=>BS n.toNat)∘fun c=>c.toNat) c=id c:=Bl;rw[Ju a,List.map_id]
 simp[strOfNums,h]
def cM{B:Y}{A:Av AC}{len cap:Y}{s:Bg}(ht:P.underlying t=X (.slice e))(he:P.underlying e=X (.int .u8))(f:P.underlying t'=X .string)(hx:ev σ x=X (.slice A len cap))(h:Sl w B A (BI s))(hl:Aim s=len):
 EX P n σ (.convert t t' x) ty w (Bj s) w:=fun Ac q r pos after g=>by
 have m:(convert t t' (.slice A len cap)).run P w=.ok (Bj s) w:=by
  rcases h with h|⟨b,o,rfl,_,p⟩
  .have j:s=[]:=by
    have:=Ar DW h;simp[BI]at this;exact this
   subst j;simp at hl;subst hl;cases A with
   |none=>exact run_convert_bytes_nil w t e ht he 0 _ _ f
   |some a=>
    rw[run_convert_bytes_string w t _ e _ 0 _ ht he f,run_bytesToString w _ 0 _ [] (by rfl)];rfl
  .have:=run_convert_bytes_arg w t e ht he b o len cap (s.map fun c=>c.toNat) Bh (fun i C=>by
    have l:i<Aim s:=J;have:=p i (.int .u8 (s[i].toNat)) (by simp[BI,l]);grind) _ f
   rwa[Acz]at this
 simp only[execOp,q.ev hx,Sem.run_bind,m];rfl
end
section
variable{P:AE}{R:AF->Ad->Prop}{ops:Ap AG}{rest:Ae AG}{k:Ae KI}{n:Y}{σ:BJ}{w w0:Ad}{x y:AD}{t t' e ty ty1:Ay}{pos pos1:AJ}{after after1:Ap Edge}{gd gd1:Av (Y×Aw)}{d d1:Y}
def Bf.grown{row:Av Y}{w':Ad}(h:Bf w0 w)(hg:w.grownBy w' row)(hr:∀g,row=X g->w0.heap.size<=g):Bf w0 w':=Below.grown h hg h.size hr
def Ie{z:Ah}{s bs:Y}(hg:BK ops σ gd=X Af)(hd:BL d n=Af)(ht:P.underlying t=X (.slice e))(hi:TI P e z s bs)(hzs:z.cells.size=s)(hs0:0<s)
 {v xv:Ah} {m l:Y} {xs news:Bm} (hx:ev σ x=X v) (hy:ev σ y=X xv) (hext:Bf w0 w) (hown:Bp w w0.heap.size e s v l xs) (hsrc:Src P s t' xv m news w)
 (h63:l+m<=maxLen) (hbytes:(l+m)*bs<=140737488355328)
 (h:∀v' w',Bp w' w0.heap.size e s v' (l+m) (xs++news)->Bf w0 w'->w.grownBy w' v.ownBlock->(v'.ownBlock=v.ownBlock∨v'.ownBlock=X w.heap.size)->OW P R ops rest k n ((d,v')::σ) w'):
 OW P R ops (⟨X d,.call { callee:=.builtin .append,args:=#[x,y],argTypes:=#[t,t'] },ty,pos,after,gd⟩::rest) k n σ w:=
 OW.append w0.heap.size hg hd ht hi hzs hs0 hx hy hown hsrc h63 hbytes hext.size fun v' w' h1 h2 h3=>h v' w' h1 (hext.grown h2 fun g hg=>(hown.lt g hg).1) h2 h3
def OW.push{z:Ah}{bs:Y}(A:BK ops σ gd1=X Af)(B:BL d1 n=Af)(K:∀u,BK ops ((d1,u)::σ) gd=X Af)(L:BL d n=Af)(ht:P.underlying t=X (.slice e))(hi:TI P e z 1 bs)(f:z.oneCell'=Af)
 {v u:Ah} {l:Y} {xs:Bm} (G:ev σ y=X u) (hx:∀q,ev ((d1,q)::σ) x=X v) (S:u.oneCell'=Af) (m:Bf w0 w) (i:Bp w w0.heap.size e 1 v l xs)
 (C:l+1<=maxLen) (a:(l+1)*bs<=140737488355328)
 (h:∀q v' w',Bp w' w0.heap.size e 1 v' (l+1) (xs++[u])->Bf w0 w'->w.grownBy w' v.ownBlock->(v'.ownBlock=v.ownBlock∨∃g,v'.ownBlock=X g/\w.heap.size<=g)->OW P R ops rest k n ((d,v')::(d1,q)::σ) w'):
 OW P R ops (⟨X d1,.buildSlice t 1 #[(0,y)],ty1,pos1,after1,gd1⟩::⟨X d,.call { callee:=.builtin .append,args:=#[x,.tmp d1],argTypes:=#[t,t] },ty,pos,after,gd⟩::rest) k n σ w:=by
 refine OW.val A B (EX.buildSlice (vs:=[u]) 1 ht hi f (by simp[evs,G]) Z Z Bh Bc) ?_;have p:Bf w0 (w.alloc (.cells [u].toArray e)):=m.trans (Bf.alloc w _);have E:=Bk.new w e [u];refine Ie (K _) L ht hi (by rw[LF f];rfl) Bc (hx _) (Pj _ _ _) p (i.alloc _) (Src.Agh ht (Sl.Agf E E.lt) Z Bh Bc) C a ?_;intro v' w' Q N o D;refine h _ v' w' Q N ⟨o.os,o.tape,o.output,by have:=o.size;simp_all;omega,fun j I r=>?_⟩ ?_
 .rw[o.block j Bx r];exact Below.heap_alloc w _ j I
 .rcases D with D|D
  .grind
  .simp_all
def Afz{z:Ah}(a:z.oneCell'=Af)(m:Y):(Builtin.zeroCells z.cells m).toList=BG m z:=by
 rw[LF a];apply GU;intro j;by_cases f:j<m
 .simp[Builtin.zeroCells,f,Nat.mod_one]
 .simp[Builtin.zeroCells,f]
def mI(B:Y)(N:Ay){kx:AI}(hk:P.underlying N=X (.int kx)){z:Ah}{bs:Y}(ht:P.underlying t=X (.slice e))(hi:TI P e z 1 bs)(S:z.oneCell'=Af)
 {v:Ah} {l:Y} {xs:Bm} (h:Bp w B e 1 v l xs) {m:Y} {ki:AI} (q:l+m<=maxLen) (p:(l+m)*bs<=140737488355328) (hB:B<=w.heap.size) (hm:0<m):
 ∃v' w',(Builtin.append_ #[t,N] ty #[v,.int ki (m:H)]).run P w=.ok v' w'/\Bp w' B e 1 v' (l+m) (xs++BG m z)/\w.grownBy w' v.ownBlock/\(v'.ownBlock=v.ownBlock∨v'.ownBlock=X w.heap.size):=by
 obtain⟨i,hq,hz,hs,rfl⟩:=hi.at;have Q:=Afz S;have hw:IntKind.i64.wrap (m:H)=m:=by rw[IntKind.wrap_i64];simp only[maxLen]at q;omega
 have W:¬((m:H)<0):=J
 have aj:¬((m:H)*(i.bytes:H)>2 ^ 48):=by
  have h1:m*i.bytes<=(l+m)*i.bytes:=OF _ J;have h2:((m*i.bytes:Y):H)<=140737488355328:=J;rw[PY]at h2;omega
 have ao:¬(m*1=0):=J;have C:Aim (xs++BG m z)=(l+m)*1:=by rw[BA,h.1,Cm,RV,Ic m]
 have grow:∀(A:Av AC) (f:Y),v=.slice A l f->f<l+m->(∀r:Ad,(∀a,r.cell? a=w.cell? a)->(Builtin.firstCells 1 l (.slice A l f)).run P r=.ok xs.toArray r)->
  ∃v' w',(Builtin.append_ #[t,N] ty #[v,.int ki (m:H)]).run P w=.ok v' w'/\Bp w' B e 1 v' (l+m) (xs++BG m z)/\w.grownBy w' v.ownBlock/\(v'.ownBlock=v.ownBlock∨v'.ownBlock=X w.heap.size):=by
  intro A f hv hc K;subst hv;have ab:=grownCap_ge w (l+m) f e;have E:grownCap w (l+m) f e<=maxLen:=grownCap_le_maxLen w (l+m) f e q;have D:=growslice_fits (bytes:=i.bytes) (need:=l+m) (old:=f) J p;have al:m*i.bytes<=(l+m)*i.bytes:=OF _ J;have hr:=Lib.run_append_grow_zeros (P:=P) w t N ty e i z ki kx ht hk hq hz A l f xs (by rw[hs];exact K w.drew fun _=>rfl) m hm J hc (by simp only[maxLen]at q;omega) J D;refine⟨_,_,hr,⟨C,.inr ⟨w.heap.size,_,(Builtin.zeroCells z.cells (grownCap w (l+m) f e-(l+m))).toList,Z,hB,?_,?_,ab,E⟩⟩,⟨Z,Z,Z,Bl,fun k hk _=>Below.heap_alloc w.drew _ k hk⟩,.inr Z⟩
  .have:=Bk.new w.drew e ((xs++BG m z)++(Builtin.zeroCells z.cells (grownCap w (l+m) f e-(l+m))).toList)
   rw[show((xs++BG m z)++(Builtin.zeroCells z.cells (grownCap w (l+m) f e-(l+m))).toList).toArray=xs.toArray++Builtin.zeroCells z.cells m++Builtin.zeroCells z.cells (grownCap w (l+m) f e-(l+m)) by
    simp_all]at this
   simp_all
  .grind
 rcases h.2 with⟨rfl,rfl⟩|⟨g,f,rest,rfl,hb,hg,hl,hn,E⟩
 .have hx:xs=[]:=Gx Bh;subst hx;exact grow Aa 0 Z J (fun r _=>by rfl)
 .by_cases o:l+m<=f
  .have af:l+Aim (BG m z)<=Aim (xs++rest):=by
    rw[BA,hl,Cm];omega
   obtain⟨w',I,a1,a0⟩:=Rj P w g l e (BG m z) 0 (xs++rest) w hg J (fun v hv=>by grind);refine⟨.slice (X ⟨g,0,Aa⟩) (l+m) f,w',?_,⟨C,.inr ⟨g,f,rest.drop m,Z,hb,?_,?_,o,E⟩⟩,Cr,.inl Z⟩
   .rw[<-Q]at I;have ai:(m:H)<=9223372036854775807:=by simp only[maxLen]at q;omega
    have V:m≠0:=J;simp[Builtin.append_,run_underlying ht,run_underlying hk,sizeOf,typeInfo,zeroValue,hq,hz,hs,asInt,asIntOf,hw,W,V,o,Addr.add_lit,I,show ¬(281474976710656<(m:H)*(i.bytes:H)) by omega]
   .have G:Aim xs=l:=by have:=h.1;omega
    have e1:(xs++rest).take (l+0)=xs:=by rw[Jv,<-G];exact List.take_left
    have e2:(xs++rest).drop (l+0+Aim (BG m z))=rest.drop m:=by
     rw[Jv,Cm,<-G,<-Ge,List.drop_left]
    grind
   .grind
  .refine grow _ f Z J (fun r T=>?_)
   have:(loadCells ⟨g,0,Aa⟩ (l*1)).run P r=.ok xs.toArray r:=by
    have:=run_loadCells_list (P:=P) r ⟨g,0,Aa⟩ xs (fun j u hj=>by
     have L:(⟨g,0,Aa⟩:AC).add j=⟨g,j,Aa⟩:=by unfold Addr.add;split<;>simp_all
     rw[L,T];refine hg.cell_of ?_;grind)
    rwa[h.1]at this
   assumption
def qp{z:Ah}{bs:Y}{B ki:AI}(o:BK ops σ gd=X Af)(E:BL d n=Af)(ht:P.underlying t=X (.slice e))(hk:P.underlying t'=X (.int B))(hi:TI P e z 1 bs)(j:z.oneCell'=Af)
 {v:Ah} {m l:Y} {xs:Bm} (hx:ev σ x=X v) (C:ev σ y=X (.int ki (m:H))) (i:Bf w0 w) (f:Bp w w0.heap.size e 1 v l xs) (hm:0<m)
 (p:l+m<=maxLen) (a:(l+m)*bs<=140737488355328)
 (h:∀v' w',Bp w' w0.heap.size e 1 v' (l+m) (xs++BG m z)->Bf w0 w'->w.grownBy w' v.ownBlock->(v'.ownBlock=v.ownBlock∨v'.ownBlock=X w.heap.size)->OW P R ops rest k n ((d,v')::σ) w'):
 OW P R ops (⟨X d,.call { callee:=.builtin .append,args:=#[x,y],argTypes:=#[t,t'] },ty,pos,after,gd⟩::rest) k n σ w:=by
 obtain⟨v',w',D,I,r,G⟩:=mI (P:=P) (ty:=ty) w0.heap.size t' hk ht hi j f (ki:=ki) p a i.size hm;refine OW.val o E (v:=v') (w':=w') ?_ (h v' w' I (i.grown r fun g o=>(f.lt g o).1) r G);intro A q K pos after g;simp only[execOp,resolve,invoke,builtin,Sem.run_bind,Sem.run_pure,Result.andThen_ok,Gy,Cp,EO,q.ev hx,q.ev C,D]
def qD{z:Ah}{s bs b o:Y}{vs l:Bm}{T:Ay}(i:BK ops σ gd=X Af)(h:TI P t z s bs)(hx:ev σ x=X (.pointer (X ⟨b,o,Aa⟩)))(a:ev σ y=X (.agg vs.toArray))(f:Aim vs=s)(h1:vs.all (·.oneCell')=Af)(m:Bk w b T l)(hl:o+Aim vs<=Aim l)
 (g:∀w',Bk w' b T (l.take o++vs++l.drop (o+Aim vs))->w.grownBy w' (X b)->OW P R ops rest k n σ w'):OW P R ops (⟨Aa,.store t x y,ty,pos,after,gd⟩::rest) k n σ w:=by
 obtain⟨w',j,q,p⟩:=Tv (P:=P) (n:=n) (ty:=ty) h hx a f h1 m hl;exact RX i j (g w' q p)
def WW{z:Ah}{s bs b:Y}{vs l:Bm}{T:Ay}(hg:BK ops σ gd=X Af)(h:TI P t z s bs)(hx:ev σ x=X (.pointer (X ⟨b,0,Aa⟩)))(hy:ev σ y=X (.agg vs.toArray))(hs:Aim vs=s)(h1:vs.all (·.oneCell')=Af)(hb:Bk w b T l)(hl:Aim l=s)
 (hn:∀w',Bk w' b T vs->w.grownBy w' (X b)->OW P R ops rest k n σ w'):OW P R ops (⟨Aa,.store t x y,ty,pos,after,gd⟩::rest) k n σ w:=
 qD hg h hx hy hs h1 hb J fun w' h2 h3=>hn w' (by
  grind) h3
def retA{fn:Func}{Q:Ah->Ad->Prop}{p:Y}{z:Ah}{s bs g:Y}{l:Bm}{T:Ay}{dd:TypeDesc}(i:fn.results=#[.cell p t])(o:lk σ p=X (.pointer (X ⟨g,0,Aa⟩)))(f:P.underlying t=X dd)(q:flat dd=Aj)(h:TI P t z s bs)(r:Bk w g T l)(hl:Aim l=s)(m:Q (.agg l.toArray) w):
 ∀a,Fr n σ a->bodyPost P fn (fun e w'=>∃v,e=.returned v/\Q v w') .ret a w:=
 MK (fun a ha=>by
  have hp':=ha.val p _ o
  have hld:=run_loadCells_list (P:=P) w ⟨g,0,Aa⟩ l (fun j u hj=>by
   have hadd:(⟨g,0,Aa⟩:AC).add j=⟨g,j,Aa⟩:=by unfold Addr.add;split<;>simp_all
   rw[hadd];exact r.cell_of hj)
  rw[hl]at hld;simp[results,i,hp',asAddr,loadVar,MN f,q,Fj h,hld,Sem.run_bind]) m
def NQ{kk:AI}{i:Y}(y:Y)(c:BoundsCode)(h:i<=y):(Instr.sliceBound (.int kk (i:H)) y c).run P w=.ok i w:=Td y c h
def Sl.cut{B:Y}{A:Av AC}{xs:Bm}(h:Sl w B A xs){i c:Y}(m:Aim xs<=c):Sl w B (if c=i then A else A.map (·.add (i*1))) (xs.drop i):=by
 rcases h with h|⟨b,o,rfl,f,a⟩
 .subst h;left;simp
 .by_cases l:Aim xs<=i
  .left;simp_all
  .rw[Ag J];refine .inr ⟨b,o+i,by simp[Addr.add_lit,Ic],f,fun j u g=>?_⟩;grind
def OW.bytesOf{s:Bg}(m:BK ops σ gd=X Af)(o:BL d n=Af)(ht:P.underlying t=X .string)(a:P.underlying t'=X (.slice e))(he:P.underlying e=X (.int .u8))(hx:ev σ x=X (Bj s))(h:Aim s<=9223372036854775807)
 (i:∀cap rs w',Bk w' w.heap.size e (BI s++rs)->Aim s<=cap->cap<=maxLen->Aim s+Aim rs=cap->Bf w w'->OW P R ops rest k n ((d,.slice (X ⟨w.heap.size,0,Aa⟩) (Aim s) cap)::σ) w'):
 OW P R ops (⟨X d,.convert t t' x,ty,pos,after,gd⟩::rest) k n σ w:=by
 obtain⟨v,w',B,A,f,r⟩:=EX.bytesOf (P:=P) (n:=n) (ty:=ty) (w:=w) ht a he hx h;rcases A.2 with⟨rfl,_⟩|⟨g,cap,rs,rfl,_,q,l,p,j⟩
 .simp[Value.ownBlock]at f
 .simp[Value.ownBlock]at f;subst f;exact OW.val m o B (i cap rs w' q p j (by rw[EF]at l;omega) r)
end
structure Mo(w w':Ad)(S:Bi):Prop where
 os:w'.os=w.os
 tape:w'.tape=w.tape
 output:w'.output=w.output
 size:w.heap.size<=w'.heap.size
 block:∀k,k<w.heap.size->k∉S->w'.heap[k]? =w.heap[k]?
section
variable{w w' w'':Ad}{S S':Bi}{b B:Y}{T:Ay}{l:Bm}
def Mo.refl(w:Ad)(S:Bi):Mo w w S:=⟨Z,Z,Z,Bq _,fun _ _ _=>rfl⟩
def Mo.trans(h:Mo w w' S)(k:Mo w' w'' S):Mo w w'' S:=
 ⟨k.os.trans h.os,k.tape.trans h.tape,k.output.trans h.output,BF h.size k.size,fun i hi hS=>(k.block i (Kj hi h.size) hS).trans (h.block i hi hS)⟩
def Mo.mono(h:Mo w w' S)(hs:∀k∈S,k∈S'):Mo w w' S':=⟨h.os,h.tape,h.output,h.size,fun i hi hS=>h.block i hi fun hk=>hS (hs i hk)⟩
def Mo.fresh(h:Mo w w' S)(hs:∀k∈S,k<w.heap.size->k∈S'):Mo w w' S':=⟨h.os,h.tape,h.output,h.size,fun i hi hS=>h.block i hi fun hk=>hS (hs i hk hi)⟩
def Mo.Age(h:Bf w w')(S:Bi):Mo w w' S:=⟨h.os,h.tape,h.output,h.size,fun i hi _=>h.block i hi⟩
def Mo.ext(h:Mo w w' []):Bf w w':=⟨h.os,h.tape,h.output,h.size,fun i hi=>h.block i hi Bl⟩
def Mo.set(w:Ad)(b i:Y)(u:Ah):Mo w (w.setCell ⟨b,i,Aa⟩ u) [b]:=⟨Z,Z,Z,Bl,fun k _ hk=>Below.heap_setCell w _ u k (fun e=>hk Bh)⟩
def Mo.grown{row:Av Y}(h:w.grownBy w' row)(hr:∀k,row=X k->k∈S):Mo w w' S:=⟨h.os,h.tape,h.output,h.size,fun i hi hS=>h.block i hi (fun e=>hS (hr i e.symm))⟩
def Bv{a:Ad}(h:Below B a w)(hm:Mo w w' S)(hB:B<=w.heap.size)(hs:∀k∈S,B<=k):Below B a w':=
 ⟨hm.os.trans h.os,hm.tape.trans h.tape,hm.output.trans h.output,BF h.size hm.size,fun i hi=>(hm.block i J (fun hk=>by grind)).trans (h.block i hi)⟩
def Bk.mo(h:Bk w b T l)(hm:Mo w w' S)(hb:b∉S):Bk w' b T l:=h.of_block (hm.block b h.lt hb)
def Bp.mo{s n:Y}{v:Ah}{xs:Bm}(h:Bp w B T s v n xs)(hm:Mo w w' S)(hb:∀k,v.ownBlock=X k->k∉S):Bp w' B T s v n xs:=
 h.Agr fun k hk=>hm.block k (h.lt k hk).2 (hb k hk)
end
section
variable{P:AE}{R:AF->Ad->Prop}{k:Ae KI}{n:Y}{σ:BJ}{w:Ad}{c c':AL}
def qe{ι:Type}(I:ι->Prop)(S:ι->BJ)(W:ι->Ad)(h:KW P R (.code c::.code c'::.asr (Met n I S W)::k) n σ w)(h2:∀i,I i->KW P R k n (S i) (W i)):
 KW P R (.code c::.code c'::k) n σ w:=fun a o=>by
 have f:=h a o;simp only[Dx]at f ⊢;refine Code.wp_mono (fun e g w' q=>?_) f;cases e with
 |normal=>
  simp only[Dx]at q ⊢;refine Code.wp_mono (fun e g w' q=>?_) q;cases e with
  |normal=>obtain⟨i,j,m,rfl⟩:=q;exact h2 i j g m
  |_=>exact q
 |_=>exact q
end
section
variable{P:AE}{R:AF->Ad->Prop}{ops:Ap AG}{rest:Ae AG}{k:Ae KI}{n:Y}{σ:BJ}{w:Ad}{x y t:AD}{T T' e ty:Ay}{pos:AJ}{after:Ap Edge}{gd:Av (Y×Aw)}{d:Y}{v z:Ah}{s bs:Y}{l:Bm}
def bV(hx:ev σ x=X v)(h1:v.oneCell'=Af):EX P n σ (.box T x) ty w (.pointer (X ⟨w.heap.size,0,Aa⟩)) (w.alloc (.cells [v].toArray T)):=
 EX.box hx (by rw[LF h1])
def Mh(hg:BK ops σ gd=X Af)(hd:BL d n=Af)(hx:ev σ x=X v)(h1:v.oneCell'=Af)
 (h:∀b w',w.heap.size<=b->Bk w' b T [v]->Bf w w'->OW P R ops rest k n ((d,.pointer (X ⟨b,0,Aa⟩))::σ) w'):
 OW P R ops (⟨X d,.box T x,ty,pos,after,gd⟩::rest) k n σ w:=
 OW.val hg hd (bV hx h1) (h _ _ (Bq _) (Bk.new w T [v]) (Bf.alloc w _))
def dr(hg:BK ops σ gd=X Af)(hd:BL d n=Af)(hi:TI P T z s bs)(hl:z.cells.toList=l)
 (h:∀b w',w.heap.size<=b->Bk w' b T l->Bf w w'->OW P R ops rest k n ((d,.pointer (X ⟨b,0,Aa⟩))::σ) w'):
 OW P R ops (⟨X d,.alloc T,ty,pos,after,gd⟩::rest) k n σ w:=
 OW.val hg hd (EX.alloc hi hl) (h _ _ (Bq _) (Bk.new w T l) (Bf.alloc w _))
def Ud{b i:Y}(hg:BK ops σ gd=X Af)(hi:TI P T z 1 bs)(hx:ev σ x=X (.pointer (X ⟨b,i,Aa⟩)))(hy:ev σ y=X v)(h1:v.oneCell'=Af)(hb:Bk w b T' l)(hlt:i<Aim l)
 (h:∀w',Bk w' b T' (l.set i v)->Mo w w' [b]->OW P R ops rest k n σ w'):
 OW P R ops (⟨Aa,.store T x y,ty,pos,after,gd⟩::rest) k n σ w:=
 RX hg (RD hi hx hy h1 hb hlt) (h _ (hb.set i v) (Mo.set w b i v))
def WT{len:Y}{kl kc:AI}(hg:BK ops σ gd=X Af)(hd:BL d n=Af)(ht:P.underlying T=X (.slice e))(hi:TI P e z 1 bs)(hz1:z.oneCell'=Af)(hx:ev σ x=X (.int kl (len:H)))(hy:ev σ y=X (.int kc (len:H)))
 (hb:bs*len<=281474976710656) (h63:len<=9223372036854775807)
 (h:∀b w',w.heap.size<=b->Bk w' b e (BG len z)->Bf w w'->OW P R ops rest k n ((d,.slice (X ⟨b,0,Aa⟩) len len)::σ) w'):
 OW P R ops (⟨X d,.makeSlice T x y,ty,pos,after,gd⟩::rest) k n σ w:=
 OW.val hg hd (cy ht hi hz1 hx hy hb h63) (h _ _ (Bq _) (Bk.new w e _) (Bf.alloc w _))
def Li{BO:Ap (Y×AD)}{vs:Bm}(len:Y)(hg:BK ops σ gd=X Af)(hd:BL d n=Af)(ht:P.underlying T=X (.slice e))(hi:TI P e z 1 bs)(hz1:z.oneCell'=Af)
 (hv:evs σ (BO.toList.map (·.2))=X vs) (hp:BO.toList.map (·.1)=GX 0 (Aim BO.toList)) (hl:Aim vs=len) (h1:vs.all (·.oneCell')=Af) (hlen:len<=16777216)
 (h:∀b w',w.heap.size<=b->Bk w' b e vs->Bf w w'->OW P R ops rest k n ((d,.slice (X ⟨b,0,Aa⟩) len len)::σ) w'):
 OW P R ops (⟨X d,.buildSlice T len BO,ty,pos,after,gd⟩::rest) k n σ w:=
 OW.val hg hd (EX.buildSlice len ht hi hz1 hv hp hl h1 hlen) (h _ _ (Bq _) (Bk.new w e vs) (Bf.alloc w _))
def Gc{f:FuncId}{h j:Ae AD}{a i:Bm}(hf:evs σ h=X a)(o:evs σ j=X i):
 EX P n σ (.makeFunc (.func f) h.toArray j.toArray) ty w (.func (.func f) a.toArray i.toArray) w:=fun A m r pos after g=>by
 have q:h.toArray.map A.eval=a.toArray:=by simp[m.evs hf]
 have p:j.toArray.map A.eval=i.toArray:=by simp[m.evs o]
 simp only[execOp,q,p];rfl
def EC.val {f:FuncId} {xs:Ae AD} {vs a h args:Bm} {i:Ap Ay} {fn:Func} (hf:P.funcs[f]? =X fn) (m:(!(fn.name== "runtime.NumGoroutine") && fn.body.isSome)=Af)
 (ht:ev σ t=X (.func (.func f) a.toArray h.toArray)) (hx:evs σ xs=X vs) (he:a++vs++h=args):
 EC P n σ (.call { callee:=.value t,args:=xs.toArray,argTypes:=i }) ty w f args.toArray:=fun A j p pos after g=>by
 subst he;have o:xs.toArray.map A.eval=vs.toArray:=by simp[j.evs hx]
 simp only[execOp,resolve,Deferred.ofValue,j.ev ht,Sem.run_bind,Sem.run_pure,Result.andThen_ok,invoke,o];have:=Ri (P:=P) (w:=w) hf m (a++vs++h).toArray;grind
def qu{f:FuncId}{xs:Ae AD}{a:Ap Ay}{vs i j args:Bm}{Q:Ah->Ad->Prop}
 (m:BK ops σ gd=X Af) (o:BL d n=Af) (ht:ev σ t=X (.func (.func f) i.toArray j.toArray)) (hx:evs σ xs=X vs) (he:i++vs++j=args) (g:Bn P f args w Q)
 (h:∀v w',Q v w'->OW P R ops rest k n ((d,v)::σ) w'):
 OW P R ops (⟨X d,.call { callee:=.value t,args:=xs.toArray,argTypes:=a },ty,pos,after,gd⟩::rest) k n σ w:=by
 obtain⟨⟨r,q,p⟩,_⟩:=id g;exact dt m o (EC.val q p ht hx he) g h
end
def GY {P:AE} {f:FuncId} {fn:Func} {args:Bm} {w:Ad} {v:Ah} {W:Ad->Prop} (hf:P.funcs[f]? =X fn) (hn:(!(fn.name== "runtime.NumGoroutine") && fn.body.isSome)=Af)
 (h:Calls P f args.toArray w fun e w'=>e=.returned v/\W w'):Bn P f args w fun v' w'=>v'=v/\W w':=
 ⟨⟨fn,hf,hn⟩,h.mono fun e w'⟨he,hw⟩=>⟨v,he,Z,hw⟩⟩
section
variable{P:AE}{n:Y}{σ:BJ}{w:Ad}{x y:AD}{t e ty T T':Ay}{b o:Y}{z v:Ah}{s bs:Y}{l:Bm}
def places(P:AE)(fs:Ae Field):Av (Ae (Y×Y)):=
 match fs with
 |[]=>X []
 |f::r=>match P.info? f.type,places P r with
  |some i,X l=>X ((f.offset,i.size)::l)
  |_,_=>Aa
def ar:∀(fs:Ae Field) (l:Ae (Y×Y)),places P fs=X l->(fs.mapM fun f=>(do pure (f.offset,<-sizeOf f.type):Sem (Y×Y))).run P w=.ok l w
 |[],l,h=>by
  simp only[places,Ns.injEq]at h;simp_all
 |f::r,l,h=>by
  simp only[places]at h;split at h
  .rename_i i l' hi hl;injection h with h;subst h;have ih:=ar r l' hl;have hs:(sizeOf f.type).run P w=.ok i.size w:=by simp[sizeOf,typeInfo,hi,Sem.run_bind]
   simp_all
  .grind
def LK:Bm->Bi->Bm->Bm
 |cs,i::is,v::vs=>LK (cs.set i v) is vs
 |cs,_,_=>cs
def gz(pl:Ae (Y×Y)):∀(pv:Ae (Y×Ah)) (is:Bi) (cs:Bm),Aim pv=Aim is->(∀(j:Y) (p:Y×Ah) (i:Y),pv[j]? =X p->is[j]? =X i->pl[p.1]? =X (i,1)/\i<Aim cs/\p.2.oneCell'=Af)->
 Instr.fill (pl.toArray[·]?) cs.toArray pv=X (LK cs is (pv.map (·.2))).toArray
 |[],is,cs,hl,_=>by
  cases is with
  |nil=>rfl
  |cons _ _=>simp at hl
 |(k,v)::pv,is,cs,hl,h=>by
  cases is with
  |nil=>simp at hl
  |cons i is=>
   obtain⟨h1,h2,h3⟩:=h 0 (k,v) i Z Z;have hc:=LF h3
   have ih:=gz pl pv is (cs.set i v) Bh (fun j p i' hp hi'=>by
    have:=h (j+1) p i' Bh Bh;grind)
   simp only[Cp,LK];simp only[Instr.fill];grind
def Pw(pl:Ae (Y×Y))(m:Y):Bi->Bi->Aw
 |k::ks,i::is=>(match pl[k]? with|some (i',1)=>Jw i' i|_=>Aj) && BL i m && Pw pl m ks is
 |[],[]=>Af
 |_,_=>Aj
def lF{pl:Ae (Y×Y)}{m:Y}:∀{ks is:Bi},Pw pl m ks is=Af->Aim ks=Aim is/\∀(j k i:Y),ks[j]? =X k->is[j]? =X i->pl[k]? =X (i,1)/\i<m
 |[],[],_=>⟨Z,fun j k i hk _=>by simp at hk⟩
 |[],i::is,h=>by simp[Pw]at h
 |k::ks,[],h=>by simp[Pw]at h
 |k::ks,i::is,h=>by
  simp only[Pw,Bool.and_eq_true]at h;obtain⟨⟨h1,h2⟩,h3⟩:=h;obtain⟨e,f⟩:=lF h3;refine⟨Bh,fun j k' i' hk hi=>?_⟩;cases j with
  |zero=>
   simp at hk hi;subst hk;subst hi;split at h1
   .simp_all
   .grind
  |succ j=>grind
def RF{m:Ap Field}{BO:Ap (Y×AD)}{pl:Ae (Y×Y)}{ks is:Bi}{vs zs:Bm}(C:P.underlying t=X (.struct m))(hi:TI P t (.agg zs.toArray) s bs)(E:places P m.toList=X pl)
 (hk:BO.toList.map (·.1)=ks) (hv:evs σ (BO.toList.map (·.2))=X vs) (K:Pw pl (Aim zs) ks is=Af) (h1:vs.all (·.oneCell')=Af) (hl:LK zs is vs=l):
 EX P n σ (.build t BO) ty w (.agg l.toArray) w:=fun A L N pos after g=>by
 subst hl;obtain⟨i,V,S,_,_⟩:=hi.at;have h:=L.evs hv
 have q:(BO.map fun(p:Y×AD)=>(p.1,A.eval p.2)).toList=ks.zip vs:=by
  rw[<-hk,<-h];simp only[VZ,EE,List.zip_map'];rfl
 obtain⟨e1,e2⟩:=lF K;have r:Aim ks=Aim vs:=by rw[<-hk,<-h];simp
 have B:=gz pl (ks.zip vs) is zs Bh (fun j p Q D I=>by
  grind)
 have a:(ks.zip vs).map (·.2)=vs:=by
  rw[<-List.unzip_snd,List.unzip_zip_right];omega
 rw[a]at B
 have G:(m.mapM fun f=>(do pure (f.offset,<-sizeOf f.type):Sem (Y×Y))).run P w=.ok pl.toArray w:=by
  have:=ar (P:=P) (w:=w) m.toList pl E;obtain⟨W⟩:=m;rw[List.mapM_toArray,map_eq_pure_bind,Sem.run_bind,this];rfl
 simp only[execOp,Instr.build,Sem.run_bind,NR hi,Result.andThen_ok,run_underlying C,G];rw[show(BO.map fun(x:Y×AD)=>match x with|(i,x)=>(i,A.eval x)).toList=ks.zip vs from q];rw[show((Value.agg zs.toArray).cells)=zs.toArray from Z,B];rfl
def Dn{j:Ap Field}{h:Field}{f off:Y}(m:P.underlying t=X (.struct j))(hf:j[f]? =X h)(q:h.offset=off)(hi:TI P h.type z s bs)(p:BL 0 s=Af)(hx:ev σ x=X (.pointer (X ⟨b,o,Aa⟩))):
 EX P n σ (.fieldAddr t x f) ty w (.pointer (X ⟨b,o+off,Aa⟩)) w:=fun A r B pos after g=>by
 subst q;have i:s≠0:=by have:1<=s:=Nat.le_of_ble_eq_true p;omega
 have a:(⟨b,o,Aa⟩:AC).add h.offset=⟨b,o+h.offset,Aa⟩:=by unfold Addr.add;split<;>simp_all
 simp only[execOp,r.ev hx];simp[Instr.fieldAt,run_underlying m,Sem.run_bind,hf,Instr.sureAddr,fieldPlace,Fj hi,i,a]
def Tc{u v:Ah}{q:Aw}(e:binOp .eql t u v=(do pure (.bool (<-Op.equal t u v))))(h:∀d,(Op.equalIn (d+1) t u v).run P w=.ok q w):(binOp .eql t u v).run P w=.ok (.bool q) w:=by
 have a:(Op.equal t u v).run P w=.ok q w:=h 9999;simp_all
def aq{u v:Ah}{q:Aw}(e:binOp .neq t u v=(do pure (.bool !(<-Op.equal t u v))))(h:∀d,(Op.equalIn (d+1) t u v).run P w=.ok (!q) w):(binOp .neq t u v).run P w=.ok (.bool q) w:=by
 have a:(Op.equal t u v).run P w=.ok (!q) w:=h 9999;simp_all
def YK(op:BinOp)(i j:Av AC):(eqGuard op t x y (.pointer i) (.pointer j)).run P w=.ok () w:=by
 unfold eqGuard;simp
def bX(hu:P.underlying t=X (.pointer e))(hx:ev σ x=X (.pointer Aa))(hy:ev σ y=X (.pointer Aa)):EX P n σ (.binOp .eql t x y T) ty w (.bool Af) w:=
 Gb hx hy (YK _ _ _) (Tc Z (fun d=>by simp[Op.equalIn,run_underlying hu,Sem.run_bind]))
def bY{a:AC}(hu:P.underlying t=X (.pointer e))(hx:ev σ x=X (.pointer (X a)))(hy:ev σ y=X (.pointer Aa)):EX P n σ (.binOp .eql t x y T) ty w (.bool Aj) w:=
 Gb hx hy (YK _ _ _) (Tc Z (fun d=>by simp[Op.equalIn,run_underlying hu,Sem.run_bind]))
def pz{p q:Ap Ay}{vd:Aw}(hu:P.underlying t=X (.func p q vd))(hx:ev σ x=X .nilFunc)(hy:ev σ y=X .nilFunc):EX P n σ (.binOp .neq t x y T) ty w (.bool Aj) w:=
 Gb hx hy (by rfl) (aq Z (fun d=>by simp[Op.equalIn,run_underlying hu,Sem.run_bind]))
def pA{p q:Ap Ay}{vd:Aw}{f:Fn}{fi ca:Ap Ah}(hu:P.underlying t=X (.func p q vd))(hx:ev σ x=X (.func f fi ca))(hy:ev σ y=X .nilFunc):EX P n σ (.binOp .neq t x y T) ty w (.bool Af) w:=
 Gb hx hy (by rfl) (aq Z (fun d=>by simp[Op.equalIn,run_underlying hu,Sem.run_bind]))
def cB{p q:Ap Ay}{h r:Aw}(g:P.underlying t=X (.func p q h))(hx:ev σ x=X v)(a:ev σ y=X .nilFunc)(i:v=.nilFunc/\r=Aj∨∃f fi ca,v=.func f fi ca/\r=Af):EX P n σ (.binOp .neq t x y T) ty w (.bool r) w:=by
 rcases i with⟨rfl,rfl⟩|⟨f,fi,ca,rfl,rfl⟩
 .exact pz g hx a
 .exact pA g hx a
end
section
variable{P:AE}{R:AF->Ad->Prop}{ops:Ap AG}{rest:Ae AG}{k:Ae KI}{n:Y}{σ:BJ}{w:Ad}{x y:AD}{T T' e ty:Ay}{pos:AJ}{after:Ap Edge}{gd:Av (Y×Aw)}{d:Y}{v z:Ah}{s bs:Y}{l:Bm}
def DB(hg:BK ops σ gd=X Af)(hd:BL d n=Af)(hx:ev σ x=X (.agg l.toArray))
 (h:∀b w',w.heap.size<=b->Bk w' b T l->Bf w w'->OW P R ops rest k n ((d,.pointer (X ⟨b,0,Aa⟩))::σ) w'):
 OW P R ops (⟨X d,.box T x,ty,pos,after,gd⟩::rest) k n σ w:=
 OW.val hg hd (EX.box (l:=l) hx (by rfl)) (h _ _ (Bq _) (Bk.new w T l) (Bf.alloc w _))
def Ue{b o:Y}{vs:Bm}(j:BK ops σ gd=X Af)(hi:TI P T z s bs)(hx:ev σ x=X (.pointer (X ⟨b,o,Aa⟩)))(g:ev σ y=X (.agg vs.toArray))(i:Aim vs=s)(h1:vs.all (·.oneCell')=Af)(p:Bk w b T' l)(hlt:o+Aim vs<=Aim l)
 (h:∀w',Bk w' b T' (l.take o++vs++l.drop (o+Aim vs))->Mo w w' [b]->OW P R ops rest k n σ w'):
 OW P R ops (⟨Aa,.store T x y,ty,pos,after,gd⟩::rest) k n σ w:=by
 obtain⟨w',m,f,a⟩:=Tv (P:=P) (n:=n) (ty:=ty) hi hx g i h1 p hlt;exact RX j m (h w' f (Mo.grown a (fun k e=>by grind)))
end
section
variable{P:AE}{n:Y}{σ:BJ}{w:Ad}{x y lo hi':AD}{t t' e ty T:Ay}{B len cap i j g:Y}{kk:AI}{z v:Ah}{bs:Y}{xs:Bm}
def sb0(y:Y)(c:BoundsCode):(Instr.sliceBound (.int kk 0) y c).run P w=.ok 0 w:=NQ (kk:=kk) (i:=0) y c (BD _)
def pE(ht:P.underlying t=X (.slice e))(hi:TI P e z 1 bs)(hx:ev σ x=X v)(hl:ev σ hi'=X (.int kk (j:H)))(a:Bp w B e 1 v len xs)(h:j<=len):
 ∃v',EX P n σ (.slice t x Aa (X hi') Aa) ty w v' w/\Bp w B e 1 v' j (xs.take j)/\v'.ownBlock=v.ownBlock:=by
 have D:=a.1;rcases a.2 with⟨rfl,rfl⟩|⟨g,cap,rest,rfl,I,K,L,E,G⟩
 .obtain rfl:j=0:=J;have r:xs=[]:=Gx J;subst r;refine⟨.slice Aa 0 0,fun Ac o A pos after g=>?_,Bp.nil _ _ _ _,Z⟩;simp only[execOp,o.ev hx,o.ev hl,FO,Nr];simp[Instr.sliceAt,run_underlying ht,Instr.slice,Instr.sliceBounds,Sem.run_bind,sb0,Fj hi]
 .refine⟨.slice (X ⟨g,0,Aa⟩) j cap,fun Ac o A pos after gd=>?_,⟨Bh,.inr ⟨g,cap,xs.drop j++rest,Z,I,?_,?_,J,G⟩⟩,Z⟩
  .simp only[execOp,o.ev hx,o.ev hl,FO,Nr];have m:(⟨g,0,Aa⟩:AC).add (0*1)=⟨g,0,Aa⟩:=by unfold Addr.add;simp
   by_cases f:cap=0
   .subst f;obtain rfl:j=0:=J;simp[Instr.sliceAt,run_underlying ht,Instr.slice,Instr.sliceBounds,Sem.run_bind,sb0,Fj hi]
   .simp[Instr.sliceAt,run_underlying ht,Instr.slice,Instr.sliceBounds,Sem.run_bind,NQ cap _ (BF h E),Fj hi,f,m]
  .rw[<-Cq,Ho];omega
  .grind
def Wh(ht:P.underlying t=X (.slice e))(hi:TI P e z 1 bs)(hx:ev σ x=X (.slice (X ⟨g,0,Aa⟩) len cap))(hl:ev σ lo=X (.int kk (i:H)))(h:i<=len/\len<=cap/\i<cap):
 EX P n σ (.slice t x (X lo) Aa Aa) ty w (.slice (X ⟨g,i,Aa⟩) (len-i) (cap-i)) w:=fun Ac m o pos after gd=>by
 simp only[execOp,m.ev hx,m.ev hl,FO,Nr];have a:(⟨g,0,Aa⟩:AC).add i=⟨g,i,Aa⟩:=by unfold Addr.add;split<;>simp_all
 have f:¬cap=i:=J;simp[Instr.sliceAt,run_underlying ht,Instr.slice,Instr.sliceBounds,Sem.run_bind,NQ _ _ h.1,Fj hi,f,a]
def pG{A:Av AC}{k2:AI}(ht:P.underlying t=X (.slice e))(hi:TI P e z 1 bs)(hx:ev σ x=X (.slice A len cap))(hl:ev σ lo=X (.int kk (i:H)))(hh:ev σ hi'=X (.int k2 (j:H)))(h:i<=j/\j<=len/\len<=cap)(hs:Sl w B A xs)(hln:Aim xs=len):
 ∃A',EX P n σ (.slice t x (X lo) (X hi') Aa) ty w (.slice A' (j-i) (cap-i)) w/\Sl w B A' ((xs.drop i).take (j-i)):=
 ⟨if cap=i then A else A.map (·.add (i*1)),fun Ac ha dst pos after gd=>by
  simp only[execOp,ha.ev hx,ha.ev hl,ha.ev hh,FO,Nr];simp[Instr.sliceAt,run_underlying ht,Instr.slice,Instr.sliceBounds,Sem.run_bind,NQ j _ h.1,NQ cap _ (BF h.2.1 h.2.2),Fj hi],(hs.cut J).pre _⟩
def pd{l c:Y}(hu:P.underlying t=X (.slice e))(hx:ev σ x=X (.slice Aa l c))(hy:ev σ y=X (.slice Aa 0 0)):EX P n σ (.binOp .eql t x y T) ty w (.bool Af) w:=
 Gb hx hy (by rfl) (Tc Z (fun d=>by simp[Op.equalIn,run_underlying hu,Sem.run_bind]))
def pf{a:AC}{l c:Y}(hu:P.underlying t=X (.slice e))(hx:ev σ x=X (.slice (X a) l c))(hy:ev σ y=X (.slice Aa 0 0)):EX P n σ (.binOp .eql t x y T) ty w (.bool Aj) w:=
 Gb hx hy (by rfl) (Tc Z (fun d=>by simp[Op.equalIn,run_underlying hu,Sem.run_bind]))
end
def Bp.ne{w:Ad}{B T m s n b:Y}{v:Ah}{xs l:Bm}(h:Bp w B T s v n xs)(r:Bk w b m l)(a:T≠m):∀k,v.ownBlock=X k->b≠k:=by
 intro k f;rcases h.2 with⟨rfl,_⟩|⟨g,cap,rest,rfl,_,o,_⟩
 .simp[Value.ownBlock]at f
 .simp[Value.ownBlock]at f;subst f;exact r.ne o (Ne.symm a)
def Bp.one{w:Ad}{B T s n:Y}{v:Ah}{xs:Bm}(h:Bp w B T s v n xs):v.oneCell'=Af:=by
 rcases h.2 with⟨rfl,_⟩|⟨g,cap,rest,rfl,_⟩<;>rfl
def Bp.blkT{w:Ad}{B T s n:Y}{v:Ah}{xs:Bm}(h:Bp w B T s v n xs):∀k,v.ownBlock=X k->B<=k/\∃l,Bk w k T l:=by
 intro k a;rcases h.2 with⟨rfl,_⟩|⟨g,cap,rest,rfl,m,f,_⟩
 .simp[Value.ownBlock]at a
 .simp[Value.ownBlock]at a;grind
section
variable{P:AE}{R:AF->Ad->Prop}{ops:Ap AG}{rest:Ae AG}{k:Ae KI}{n:Y}{σ:BJ}{w:Ad}{x y lo hi':AD}{t t' e ty T:Ay}{pos:AJ}{after:Ap Edge}{gd:Av (Y×Aw)}{d:Y}{v z:Ah}{bs B len cap i j g:Y}{l xs:Bm}{kk k2:AI}{s:Bg}
def qy(m:BK ops σ gd=X Af)(o:BL d n=Af)(ht:P.underlying t=X (.slice e))(hi:TI P e z 1 bs)(hx:ev σ x=X v)(hl:ev σ hi'=X (.int kk (j:H)))(a:Bp w B e 1 v len xs)(h:j<=len)
 (f:∀v',Bp w B e 1 v' j (xs.take j)->v'.ownBlock=v.ownBlock->OW P R ops rest k n ((d,v')::σ) w):OW P R ops (⟨X d,.slice t x Aa (X hi') Aa,ty,pos,after,gd⟩::rest) k n σ w:=by
 obtain⟨v',D,A,r⟩:=pE (P:=P) (n:=n) (ty:=ty) ht hi hx hl a h;exact OW.val m o D (f v' A r)
def WV{A:Av AC}(r:BK ops σ gd=X Af)(D:BL d n=Af)(ht:P.underlying t=X (.slice e))(hi:TI P e z 1 bs)(hx:ev σ x=X (.slice A len cap))(hl:ev σ lo=X (.int kk (i:H)))(o:ev σ hi'=X (.int k2 (j:H)))(h:i<=j/\j<=len/\len<=cap)(f:Sl w B A xs)(a:Aim xs=len)
 (m:∀A',Sl w B A' ((xs.drop i).take (j-i))->OW P R ops rest k n ((d,.slice A' (j-i) (cap-i))::σ) w):OW P R ops (⟨X d,.slice t x (X lo) (X hi') Aa,ty,pos,after,gd⟩::rest) k n σ w:=by
 obtain⟨A',G,E⟩:=pG (P:=P) (n:=n) (ty:=ty) ht hi hx hl o h f a;exact OW.val r D G (m A' E)
def qq{G ki:AI}{m o:Y}(L:BK ops σ gd=X Af)(N:BL d n=Af)(ht:P.underlying t=X (.slice e))(hk:P.underlying t'=X (.int G))(hi:TI P e z 1 bs)(r:z.oneCell'=Af)
 (hx:ev σ x=X v) (I:ev σ y=X (.int ki (m:H))) (f:Bp w 0 e 1 v o xs) (hm:0<m)
 (D:o+m<=maxLen) (a:(o+m)*bs<=140737488355328)
 (h:∀v' w',Bp w' 0 e 1 v' (o+m) (xs++BG m z)->w.grownBy w' v.ownBlock->(v'.ownBlock=v.ownBlock∨v'.ownBlock=X w.heap.size)->OW P R ops rest k n ((d,v')::σ) w'):
 OW P R ops (⟨X d,.call { callee:=.builtin .append,args:=#[x,y],argTypes:=#[t,t'] },ty,pos,after,gd⟩::rest) k n σ w:=by
 obtain⟨v',w',K,V,S,Q⟩:=mI (P:=P) (w:=w) (ty:=ty) (ki:=ki) 0 t' hk ht hi r f D a (BD _) hm;refine OW.val L N (v:=v') (w':=w') ?_ (h v' w' V S Q);intro A E W pos after gd;simp only[execOp,resolve,invoke,builtin,Sem.run_bind,Sem.run_pure,Result.andThen_ok,Gy,Cp,EO,E.ev hx,E.ev I,K]
def qv(N:BK ops σ gd=X Af)(Q:BL d n=Af)(ht:P.underlying t=X (.slice e))(a:P.underlying t'=X .string)(hi:TI P e z 1 bs)(hx:ev σ x=X (.slice (X ⟨g,i,Aa⟩) len cap))(G:ev σ y=X (Bj s))(I:Aim s<=len)(S:Bk w g T l)(hl:i+Aim s<=Aim l)
 (L:∀w',Bk w' g T (l.take i++BI s++l.drop (i+Aim s))->Mo w w' [g]->OW P R ops rest k n ((d,.int .i64 (Aim s:H))::σ) w'):
 OW P R ops (⟨X d,.call { callee:=.builtin .copy,args:=#[x,y],argTypes:=#[t,t'] },ty,pos,after,gd⟩::rest) k n σ w:=by
 obtain⟨w',K,D,r⟩:=Rj P w g i T (BI s) 0 l w S (by simpa[BI]using hl) Uo;have f:=(Src.Agq (w:=w) a s).cells;have m:=(Src.Agq (w:=w) a s).len;refine OW.val N Q (v:=.int .i64 (Aim s:H)) (w':=w') ?_ (L w' (by simpa[BI]using D) (Mo.grown r (fun k e=>by grind)));intro A E V pos after gd;have h:Nat.min (Aim s) len=Aim s:=Hq I;have o:=Fj (w:=w) hi;simp only[execOp,resolve,invoke,builtin,Sem.run_bind,Sem.run_pure,Result.andThen_ok,Gy,Cp,EO,E.ev hx,E.ev G];simp[Builtin.copy_,run_underlying ht,Sem.run_bind,m,o,h,f,K,goInt]
end
def Tm(w w':Ad)(B:Y)(p:Ay->Aw):Prop:=∃S,Mo w w' S/\∀k∈S,B<=k/\∃T l,Bk w k T l/\p T=Af
section
variable{w w' w'':Ad}{B C:Y}{p q:Ay->Aw}{b:Y}{T:Ay}{l:Bm}
def Tm.refl(w:Ad)(B:Y)(p:Ay->Aw):Tm w w B p:=⟨[],Mo.refl _ _,Bl⟩
def Tm.Age(h:Bf w w')(B:Y)(p:Ay->Aw):Tm w w' B p:=⟨[],Mo.Age h _,Bl⟩
def Tm.mono(h:Tm w w' B p)(a:∀T,p T=Af->q T=Af):Tm w w' B q:=by
 obtain⟨S,f,o⟩:=h;exact⟨S,f,fun k m=>let ⟨h1,T,l,h2,h3⟩:=o k m;⟨h1,T,l,h2,a T h3⟩⟩
def Tm.size(h:Tm w w' B p):w.heap.size<=w'.heap.size:=by obtain⟨_,a,_⟩:=h;exact a.size
def Tm.trans(h:Tm w w' B p)(k:Tm w' w'' B p):Tm w w'' B p:=by
 obtain⟨S,r,I⟩:=h;obtain⟨S',f,o⟩:=k;refine⟨S++S'.filter (fun k=>decide (k<w.heap.size)),?_,fun k a=>?_⟩
 .refine((r.mono (S':=S++S') (fun k a=>TQ _ a)).trans (f.mono (fun k a=>List.mem_append_right _ a))).fresh fun k a m=>?_;grind
 .by_cases G:k∈S
  .grind
  .rcases Dz.1 a with a|a
   .grind
   .obtain⟨a,m⟩:=Le.1 a;obtain⟨E,T,l,D,A⟩:=o k a;exact⟨E,T,l,D.of_block (r.block k Bh G).symm,A⟩
def Tm.bk(h:Tm w w' B p)(a:Bk w b T l)(D:p T=Aj):Bk w' b T l:=by
 obtain⟨S,f,o⟩:=h;refine a.mo f fun m=>?_;obtain⟨_,T',A,r,E⟩:=o b m;obtain⟨rfl,_⟩:=a.det r;grind
def Tm.own{s n:Y}{v:Ah}{xs:Bm}(h:Tm w w' B p)(f:Bp w C T s v n xs)(I:p T=Aj):Bp w' C T s v n xs:=by
 obtain⟨S,m,r⟩:=h;refine f.mo m fun k o a=>?_;obtain⟨_,T',G,D,K⟩:=r k a;obtain⟨_,E,A⟩:=f.blkT k o;obtain⟨rfl,_⟩:=A.det D;grind
def Tm.below{a:Ad}(o:Below C a w)(h:Tm w w' B p)(A:C<=w.heap.size)(D:C<=B):Below C a w':=by
 obtain⟨S,f,r⟩:=h;exact Bv o f A fun k m=>BF D (r k m).1
def Tm.set(hb:Bk w b T l)(hm:Mo w w' [b])(hB:B<=b):Tm w w' B (fun j8=>j8==T):=⟨[b],hm,fun k hk=>by
 grind⟩
def Tm.grown{s n:Y}{v:Ah}{xs:Bm}(ho:Bp w B T s v n xs)(hg:w.grownBy w' v.ownBlock):Tm w w' B (fun j8=>j8==T):=⟨v.ownBlock.toList,Mo.grown hg (fun k e=>by grind),fun k hk=>by
 obtain⟨h1,l,h2⟩:=ho.blkT k (Fb.1 hk);grind⟩
def Tm.Agl{s n:Y}{v:Ah}{xs:Bm}(ho:Bp w B T s v n xs)(hm:Mo w w' v.ownBlock.toList):Tm w w' B (fun j8=>j8==T):=⟨v.ownBlock.toList,hm,fun k hk=>by
 obtain⟨h1,l,h2⟩:=ho.blkT k (Fb.1 hk);grind⟩
def Bp.base{s n:Y}{v:Ah}{xs:Bm}(h:Bp w C T s v n xs)(a:∀k,v.ownBlock=X k->B<=k):Bp w B T s v n xs:=by
 refine⟨h.1,?_⟩;rcases h.2 with f|⟨g,cap,rest,rfl,_,r⟩
 .grind
 .exact .inr ⟨g,cap,rest,Z,a g Z,r⟩
end
def GW(P:AE)(R:AF->Ad->Prop)(ops:Ap AG)(S:Ad->Prop)(fuel:Y)(listed:Ap Aw)(k:Ae KI)(n:Y)(σ:BJ)(w:Ad):Prop:=
 ∀a,Fr n σ a->wpAnyH P .any ops (Dx P R k) S fuel listed a w
section
variable{P:AE}{R:AF->Ad->Prop}{ops:Ap AG}{S:Ad->Prop}{fuel:Y}{listed:Ap Aw}{k:Ae KI}{n:Y}{σ:BJ}{w w':Ad}
def SR{c:Ae PanicEntry}:∀(k:Ae KI) (a:AF) (w:Ad),Dx P R k (.panic c) a w->False
 |[],_,_,h=>h
 |.code _::k,a,w,h=>SR k a w h
 |.blk _::k,a,w,h=>SR k a w h
 |.asr _::k,a,w,h=>SR k a w h
def Qb{id N:Y}{l:Ae AG}(S:Ad->Prop)(hm:P.follows .mixedOrders=Af)(e:l.toArray.size=N)(h:GW P R l.toArray S N (JW N Aj) k n σ w.drew):KW P R (.code (.region id l.toArray Af)::k) n σ w:=fun a d=>by
 subst e;exact wp_region_held hm (h a d)
def GW.val(i:Y){d:Y}{op:Op}{ty:Ay}{e:AJ}{after:Ap Edge}{g:Av (Y×Aw)}{v:Ah}(hi:ops[i]? =X ⟨X d,op,ty,e,after,g⟩)(l:Region.noSelect ops=Af)(hf:Region.free .any ops listed i=Af)(m:(Region.ready .any ops listed).contains i=Af)
 (p:BK ops σ g=X Af) (r:BL d n=Af) (t:S w) (he:∀w',S w'->EX P n σ op ty w' v w')
 (h:GW P R ops S fuel (listed.setIfInBounds i Af) k n ((d,v)::σ) w):GW P R ops S (fuel+1) listed k n σ w:=fun a j=>
 wpAnyH_take hi l hf m (fun c a w q=>(SR k _ _ q).elim) (.inl ⟨IC j (o:=⟨X d,op,ty,e,after,g⟩) p,fun w' f=>he w' f a j _ _ _ _⟩) t (h _ (j.put r v))
def pM(i:Y){d:Y}{op:Op}{ty:Ay}{e:AJ}{after:Ap Edge}{g:Av (Y×Aw)}(hi:ops[i]? =X ⟨X d,op,ty,e,after,g⟩)(j:Region.noSelect ops=Af)(hf:Region.free .any ops listed i=Af)(l:(Region.ready .any ops listed).contains i=Af)
 (m:BK ops σ g=X Aj) (p:BL d n=Af) (r:S w)
 (h:GW P R ops S fuel (listed.setIfInBounds i Af) k n ((d,undef)::σ) w):GW P R ops S (fuel+1) listed k n σ w:=fun a f=>
 wpAnyH_take hi j hf l (fun c a w q=>(SR k _ _ q).elim) (.inr ⟨IC f (o:=⟨X d,op,ty,e,after,g⟩) m,Z⟩) r (h _ (f.put p undef))
def Wm(i:Y){o:AG}(hi:ops[i]? =X o)(e:Region.ready .any ops listed=[i])(f:BK ops σ o.guard=X Af)
 (h:∀a,Fr n σ a->o.wp P a w (fun a' w'=>S w'/\wpAnyH P .any ops (Dx P R k) S fuel (listed.setIfInBounds i Af) a' w') (Dx P R k)):GW P R ops S (fuel+1) listed k n σ w:=fun a g=>
 wpAnyH_all e Bl fun j d=>by
  simp only[CG]at d;subst d;unfold wpOp;simp only[hi,IC g f,if_true];grind
def cR(i:Y){d:Y}{op:Op}{ty:Ay}{pos:AJ}{after:Ap Edge}{g:Av (Y×Aw)}{f:FuncId}{args:Bm}{Q:Ah->Ad->Prop}(hi:ops[i]? =X ⟨X d,op,ty,pos,after,g⟩)(hr:Region.ready .any ops listed=[i])
 (hg:BK ops σ g=X Af) (hd:BL d n=Af) (he:EC P n σ op ty w f args.toArray) (hc:Bn P f args w Q)
 (h:∀v w',Q v w'->S w'/\(S w'->GW P R ops S fuel (listed.setIfInBounds i Af) k n ((d,v)::σ) w')):GW P R ops S (fuel+1) listed k n σ w:=
 Wm i hi hr hg fun a ha=>by
  have h1:=he a ha (X d) pos after g;unfold Oper.wp;rw[h1];refine hc.2.mono fun e w''⟨v,he,q⟩=>?_;subst he;obtain⟨h2,h3⟩:=h v w'' q;exact⟨h2,h3 h2 _ (ha.put hd v)⟩
def GW.call(i:Y){d:Y}{f:FuncId}{xs:Ae AD}{e:Ap Ay}{ty:Ay}{a:AJ}{after:Ap Edge}{g:Av (Y×Aw)}{vs:Bm}{Q:Ah->Ad->Prop}
 (hi:ops[i]? =X ⟨X d,.call { callee:=.value (.func f),args:=xs.toArray,argTypes:=e },ty,a,after,g⟩) (l:Region.ready .any ops listed=[i])
 (m:BK ops σ g=X Af) (o:BL d n=Af) (hx:evs σ xs=X vs) (j:Bn P f vs w Q)
 (h:∀v w',Q v w'->S w'/\(S w'->GW P R ops S fuel (listed.setIfInBounds i Af) k n ((d,v)::σ) w')):GW P R ops S (fuel+1) listed k n σ w:=by
 obtain⟨⟨r,q,p⟩,_⟩:=id j;exact cR i hi l m o (RC q p hx) j h
def GW.new(i:Y){d:Y}{op:Op}{ty:Ay}{pos:AJ}{after:Ap Edge}{g:Av (Y×Aw)}{v:Ah}(hi:ops[i]? =X ⟨X d,op,ty,pos,after,g⟩)(hr:Region.ready .any ops listed=[i])
 (hg:BK ops σ g=X Af) (hd:BL d n=Af) (he:EX P n σ op ty w v w') (h:S w'/\(S w'->GW P R ops S fuel (listed.setIfInBounds i Af) k n ((d,v)::σ) w')):GW P R ops S (fuel+1) listed k n σ w:=
 Wm i hi hr hg fun a ha=>by
  have h1:=he a ha (X d) pos after g;unfold Oper.wp;rw[h1];exact⟨h.1,h.2 h.1 _ (ha.put hd v)⟩
def cS(i:Y){op:Op}{ty:Ay}{pos:AJ}{after:Ap Edge}{g:Av (Y×Aw)}(hi:ops[i]? =X ⟨Aa,op,ty,pos,after,g⟩)(hr:Region.ready .any ops listed=[i])
 (hg:BK ops σ g=X Af) (he:EU P n σ op ty w w') (h:S w'/\(S w'->GW P R ops S fuel (listed.setIfInBounds i Af) k n σ w')):GW P R ops S (fuel+1) listed k n σ w:=
 Wm i hi hr hg fun a ha=>by
  have h1:=he a ha Aa pos after g;unfold Oper.wp;rw[h1];exact⟨h.1,h.2 h.1 _ ha⟩
def cT(i:Y){x y:AD}{T T' ty:Ay}{pos:AJ}{after:Ap Edge}{g:Av (Y×Aw)}{b o bs:Y}{v z:Ah}{l:Bm}(hi:ops[i]? =X ⟨Aa,.store T x y,ty,pos,after,g⟩)(hr:Region.ready .any ops listed=[i])
 (hg:BK ops σ g=X Af) (ht:TI P T z 1 bs) (hx:ev σ x=X (.pointer (X ⟨b,o,Aa⟩))) (hy:ev σ y=X v) (h1:v.oneCell'=Af) (hb:Bk w b T' l) (hlt:o<Aim l)
 (h:∀w',Bk w' b T' (l.set o v)->Mo w w' [b]->S w'/\(S w'->GW P R ops S fuel (listed.setIfInBounds i Af) k n σ w')):GW P R ops S (fuel+1) listed k n σ w:=
 cS i hi hr hg (RD ht hx hy h1 hb hlt) (h _ (hb.set o v) (Mo.set w b o v))
def pN(i:Y){x y:AD}{T j ty:Ay}{a:AJ}{after:Ap Edge}{g:Av (Y×Aw)}{b o s bs:Y}{z:Ah}{l vs:Bm}(hi:ops[i]? =X ⟨Aa,.store T x y,ty,a,after,g⟩)(q:Region.ready .any ops listed=[i])
 (r:BK ops σ g=X Af) (ht:TI P T z s bs) (hx:ev σ x=X (.pointer (X ⟨b,o,Aa⟩))) (m:ev σ y=X (.agg vs.toArray)) (p:Aim vs=s) (h1:vs.all (·.oneCell')=Af) (v:Bk w b j l) (hlt:o+Aim vs<=Aim l)
 (h:∀w',Bk w' b j (l.take o++vs++l.drop (o+Aim vs))->Mo w w' [b]->S w'/\(S w'->GW P R ops S fuel (listed.setIfInBounds i Af) k n σ w')):GW P R ops S (fuel+1) listed k n σ w:=by
 obtain⟨w',t,f,d⟩:=Tv (P:=P) (n:=n) (ty:=ty) ht hx m p h1 v hlt;exact cS i hi q r t (h w' f (Mo.grown d (fun k e=>by grind)))
def GO(P:AE)(R:AF->Ad->Prop)(ops:Ap AG)(S:Ad->Prop)(fuel:Y)(listed:Ap Aw)(k:Ae KI)(n:Y)(σ:BJ)(w:Ad)(i:Y):Prop:=
 ∀a,Fr n σ a->wpOp P ops (Dx P R k) i (fun a' w'=>S w'/\wpAnyH P .any ops (Dx P R k) S fuel (listed.setIfInBounds i Af) a' w') a w
def GW.two(i j:Y)(f:Region.ready .any ops listed=[i,j])(h1:GO P R ops S fuel listed k n σ w i)(h2:GO P R ops S fuel listed k n σ w j):GW P R ops S (fuel+1) listed k n σ w:=fun a e=>
 wpAnyH_all f Bl fun q d=>by
  simp only[List.mem_cons,List.not_mem_nil,or_false]at d;rcases d with rfl|rfl
  .exact h1 a e
  .exact h2 a e
def oS{S':Ad->Prop}{Q:AP->AF->Ad->Prop}(hS:∀w,S' w->S w):∀(fuel:Y) (listed:Ap Aw) (a:AF) (w:Ad),wpAnyH P .any ops Q S' fuel listed a w->wpAnyH P .any ops Q S fuel listed a w
 |0,_,_,_,h=>h
 |fuel+1,_,_,_,h=>⟨h.1,fun i hi=>wpOp_mono (fun a' w' h'=>⟨hS _ h'.1,oS hS fuel _ a' w' h'.2⟩) (h.2 i hi)⟩
def Jt(S':Ad->Prop)(e:∀w,S' w->S w)(h:GW P R ops S' fuel listed k n σ w):GW P R ops S fuel listed k n σ w:=fun a d=>oS e fuel listed a w (h a d)
def GW.as(t:Y)(d:Ah){v:Ah}(ht:lk σ t=X v)(e:v=d)(h:GW P R ops S fuel listed k n ((t,d)::σ) w):GW P R ops S fuel listed k n σ w:=fun a f=>
 OW.as (P:=P) (R:=R) (ops:=#[]) (l:=[]) (k:=[.asr fun a w=>wpAnyH P .any ops (Dx P R k) S fuel listed a w]) t d ht e (fun a f=>h a f) a f
def Wk(i:Y){o:AG}(hi:ops[i]? =X o)(d:BK ops σ o.guard=X Af)
 (h:∀a,Fr n σ a->o.wp P a w (fun a' w'=>S w'/\wpAnyH P .any ops (Dx P R k) S fuel (listed.setIfInBounds i Af) a' w') (Dx P R k)):GO P R ops S fuel listed k n σ w i:=fun a e=>by
 unfold wpOp;simp only[hi,IC e d,if_true];grind
def pK(i:Y){d:Y}{op:Op}{ty:Ay}{pos:AJ}{after:Ap Edge}{g:Av (Y×Aw)}{f:FuncId}{args:Bm}{Q:Ah->Ad->Prop}(hi:ops[i]? =X ⟨X d,op,ty,pos,after,g⟩)
 (hg:BK ops σ g=X Af) (hd:BL d n=Af) (he:EC P n σ op ty w f args.toArray) (hc:Bn P f args w Q)
 (h:∀v w',Q v w'->S w'/\(S w'->GW P R ops S fuel (listed.setIfInBounds i Af) k n ((d,v)::σ) w')):GO P R ops S fuel listed k n σ w i:=
 Wk i hi hg fun a ha=>by
  have h1:=he a ha (X d) pos after g;unfold Oper.wp;rw[h1];refine hc.2.mono fun e w''⟨v,he,q⟩=>?_;subst he;obtain⟨h2,h3⟩:=h v w'' q;exact⟨h2,h3 h2 _ (ha.put hd v)⟩
def GO.call(i:Y){d:Y}{f:FuncId}{xs:Ae AD}{e:Ap Ay}{ty:Ay}{a:AJ}{after:Ap Edge}{g:Av (Y×Aw)}{vs:Bm}{Q:Ah->Ad->Prop}
 (hi:ops[i]? =X ⟨X d,.call { callee:=.value (.func f),args:=xs.toArray,argTypes:=e },ty,a,after,g⟩)
 (l:BK ops σ g=X Af) (m:BL d n=Af) (hx:evs σ xs=X vs) (j:Bn P f vs w Q)
 (h:∀v w',Q v w'->S w'/\(S w'->GW P R ops S fuel (listed.setIfInBounds i Af) k n ((d,v)::σ) w')):GO P R ops S fuel listed k n σ w i:=by
 obtain⟨⟨q,p,o⟩,_⟩:=id j;exact pK i hi l m (RC p o hx) j h
def GO.new(i:Y){d:Y}{op:Op}{ty:Ay}{pos:AJ}{after:Ap Edge}{g:Av (Y×Aw)}{v:Ah}(hi:ops[i]? =X ⟨X d,op,ty,pos,after,g⟩)
 (hg:BK ops σ g=X Af) (hd:BL d n=Af) (he:EX P n σ op ty w v w') (h:S w'/\(S w'->GW P R ops S fuel (listed.setIfInBounds i Af) k n ((d,v)::σ) w')):GO P R ops S fuel listed k n σ w i:=
 Wk i hi hg fun a ha=>by
  have h1:=he a ha (X d) pos after g;unfold Oper.wp;rw[h1];exact⟨h.1,h.2 h.1 _ (ha.put hd v)⟩
def pL(i:Y){op:Op}{ty:Ay}{pos:AJ}{after:Ap Edge}{g:Av (Y×Aw)}(hi:ops[i]? =X ⟨Aa,op,ty,pos,after,g⟩)
 (hg:BK ops σ g=X Af) (he:EU P n σ op ty w w') (h:S w'/\(S w'->GW P R ops S fuel (listed.setIfInBounds i Af) k n σ w')):GO P R ops S fuel listed k n σ w i:=
 Wk i hi hg fun a ha=>by
  have h1:=he a ha Aa pos after g;unfold Oper.wp;rw[h1];exact⟨h.1,h.2 h.1 _ ha⟩
def cP(i:Y){x y:AD}{T T' ty:Ay}{pos:AJ}{after:Ap Edge}{g:Av (Y×Aw)}{b o bs:Y}{v z:Ah}{l:Bm}(hi:ops[i]? =X ⟨Aa,.store T x y,ty,pos,after,g⟩)
 (hg:BK ops σ g=X Af) (ht:TI P T z 1 bs) (hx:ev σ x=X (.pointer (X ⟨b,o,Aa⟩))) (hy:ev σ y=X v) (h1:v.oneCell'=Af) (hb:Bk w b T' l) (hlt:o<Aim l)
 (h:∀w',Bk w' b T' (l.set o v)->Mo w w' [b]->S w'/\(S w'->GW P R ops S fuel (listed.setIfInBounds i Af) k n σ w')):GO P R ops S fuel listed k n σ w i:=
 pL i hi hg (RD ht hx hy h1 hb hlt) (h _ (hb.set o v) (Mo.set w b o v))
def cQ(i:Y){d:Y}{T ty:Ay}{pos:AJ}{after:Ap Edge}{g:Av (Y×Aw)}{z:Ah}{s bs:Y}{l:Bm}(hi:ops[i]? =X ⟨X d,.alloc T,ty,pos,after,g⟩)(hr:Region.ready .any ops listed=[i])(hg:BK ops σ g=X Af)(hd:BL d n=Af)(ht:TI P T z s bs)(hl:z.cells.toList=l)
 (h:∀b w',w.heap.size<=b->Bk w' b T l->Bf w w'->S w'/\(S w'->GW P R ops S fuel (listed.setIfInBounds i Af) k n ((d,.pointer (X ⟨b,0,Aa⟩))::σ) w')):GW P R ops S (fuel+1) listed k n σ w:=
 GW.new i hi hr hg hd (EX.alloc ht hl) (h _ _ (Bq _) (Bk.new w T l) (Bf.alloc w _))
def PW(i:Y)(len:Y){d:Y}{T e ty:Ay}{pos:AJ}{after:Ap Edge}{g:Av (Y×Aw)}{z:Ah}{bs:Y}{BO:Ap (Y×AD)}{vs:Bm}(hi:ops[i]? =X ⟨X d,.buildSlice T len BO,ty,pos,after,g⟩)(hr:Region.ready .any ops listed=[i])(hg:BK ops σ g=X Af)(hd:BL d n=Af)(ht:P.underlying T=X (.slice e))(hti:TI P e z 1 bs)(hz1:z.oneCell'=Af)
 (hv:evs σ (BO.toList.map (·.2))=X vs) (hp:BO.toList.map (·.1)=GX 0 (Aim BO.toList)) (hl:Aim vs=len) (h1:vs.all (·.oneCell')=Af) (hlen:len<=16777216)
 (h:∀b w',w.heap.size<=b->Bk w' b e vs->Bf w w'->S w'/\(S w'->GW P R ops S fuel (listed.setIfInBounds i Af) k n ((d,.slice (X ⟨b,0,Aa⟩) len len)::σ) w')):GW P R ops S (fuel+1) listed k n σ w:=
 GW.new i hi hr hg hd (EX.buildSlice len ht hti hz1 hv hp hl h1 hlen) (h _ _ (Bq _) (Bk.new w e vs) (Bf.alloc w _))
def cO(i:Y){d:Y}{T ty:Ay}{pos:AJ}{after:Ap Edge}{g:Av (Y×Aw)}{z:Ah}{s bs:Y}{l:Bm}(hi:ops[i]? =X ⟨X d,.alloc T,ty,pos,after,g⟩)(hg:BK ops σ g=X Af)(hd:BL d n=Af)(ht:TI P T z s bs)(hl:z.cells.toList=l)
 (h:∀b w',w.heap.size<=b->Bk w' b T l->Bf w w'->S w'/\(S w'->GW P R ops S fuel (listed.setIfInBounds i Af) k n ((d,.pointer (X ⟨b,0,Aa⟩))::σ) w')):GO P R ops S fuel listed k n σ w i:=
 GO.new i hi hg hd (EX.alloc ht hl) (h _ _ (Bq _) (Bk.new w T l) (Bf.alloc w _))
def Js(i:Y)(len:Y){d:Y}{T e ty:Ay}{pos:AJ}{after:Ap Edge}{g:Av (Y×Aw)}{z:Ah}{bs:Y}{BO:Ap (Y×AD)}{vs:Bm}(hi:ops[i]? =X ⟨X d,.buildSlice T len BO,ty,pos,after,g⟩)(hg:BK ops σ g=X Af)(hd:BL d n=Af)(ht:P.underlying T=X (.slice e))(hti:TI P e z 1 bs)(hz1:z.oneCell'=Af)
 (hv:evs σ (BO.toList.map (·.2))=X vs) (hp:BO.toList.map (·.1)=GX 0 (Aim BO.toList)) (hl:Aim vs=len) (h1:vs.all (·.oneCell')=Af) (hlen:len<=16777216)
 (h:∀b w',w.heap.size<=b->Bk w' b e vs->Bf w w'->S w'/\(S w'->GW P R ops S fuel (listed.setIfInBounds i Af) k n ((d,.slice (X ⟨b,0,Aa⟩) len len)::σ) w')):GO P R ops S fuel listed k n σ w i:=
 GO.new i hi hg hd (EX.buildSlice len ht hti hz1 hv hp hl h1 hlen) (h _ _ (Bq _) (Bk.new w e vs) (Bf.alloc w _))
def GW.done(d:Region.ready .any ops listed=[])(h:KW P R k n σ w):GW P R ops S fuel listed k n σ w:=fun a e=>wpAnyH_done d (h a e) fuel
end
section
variable{P:AE}{n:Y}{σ:BJ}{w:Ad}{x y:AD}{t e ty T T':Ay}{b o:Y}{z v:Ah}{s bs:Y}{l:Bm}
def Od{a:Ap Field}{BO:Ap (Y×AD)}{pl:Ae (Y×Y)}{ks:Bi}{vs zs:Bm}(m:P.underlying t=X (.struct a))(hi:TI P t (.agg zs.toArray) s bs)(q:places P a.toList=X pl)
 (hk:BO.toList.map (·.1)=ks) (hv:evs σ (BO.toList.map (·.2))=X vs) (hf:Instr.fill (pl.toArray[·]?) zs.toArray (ks.zip vs)=X l.toArray):
 EX P n σ (.build t BO) ty w (.agg l.toArray) w:=fun A B C pos after g=>by
 have j:=B.evs hv
 have h:(BO.map fun(p:Y×AD)=>(p.1,A.eval p.2)).toList=ks.zip vs:=by
  rw[<-hk,<-j];simp only[VZ,EE,List.zip_map'];rfl
 have r:(a.mapM fun f=>(do pure (f.offset,<-sizeOf f.type):Sem (Y×Y))).run P w=.ok pl.toArray w:=by
  have:=ar (P:=P) (w:=w) a.toList pl q;obtain⟨D⟩:=a;rw[List.mapM_toArray,map_eq_pure_bind,Sem.run_bind,this];rfl
 simp only[execOp,Instr.build,Sem.run_bind,NR hi,Result.andThen_ok,run_underlying m,r];rw[show(BO.map fun(x:Y×AD)=>match x with|(i,x)=>(i,A.eval x)).toList=ks.zip vs from h];rw[show((Value.agg zs.toArray).cells)=zs.toArray from Z,hf];rfl
inductive FEqs(P:AE)(w:Ad)(xs ys:Bm):Ae Field->Ae Aw->Prop
 |nil:FEqs P w xs ys [] []
 |cons {f:Field} {fs:Ae Field} {q:Aw} {qs:Ae Aw} {u v:Ah} {d:TypeDesc} (hn:f.name≠ "_") (hd:P.underlying f.type=X d) (hfl:flat d=Af) (hx:xs[f.offset]? =X u) (hy:ys[f.offset]? =X v)
  (he:∀k,(Op.equalIn (k+1) f.type u v).run P w=.ok q w) (hr:FEqs P w xs ys fs qs):FEqs P w xs ys (f::fs) (q::qs)
def FEqs.run{xs a:Bm}(k:Y):∀{fs:Ae Field} {qs:Ae Aw},FEqs P w xs a fs qs->(Op.eqFields (k+1) xs.toArray a.toArray fs).run P w=.ok (qs.all id) w
 |_,_,.nil=>by rfl
 |f::fs,q::qs,.cons (u:=u) (v:=v) hn hd hfl hx hy he hr=>by
  have h1:(part f.type xs.toArray f.offset).run P w=.ok u w:=by simp[part,Sem.run_bind,MN hd,hfl,hx]
  have g:(part f.type a.toArray f.offset).run P w=.ok v w:=by simp[part,Sem.run_bind,MN hd,hfl,hy]
  have h:=FEqs.run k hr;simp only[Op.eqFields];rw[Ai hn];simp only[Sem.run_bind,h1,g,he k,Result.andThen_ok];cases q
  .simp
  .grind
def Lu{k:AI}{a b:H}(h:P.underlying t=X (.int k))(d:Y):(Op.equalIn (d+1) t (.int k a) (.int k b)).run P w=.ok (decide (a=b)) w:=run_equalIn_int w d t k k a b h
def QE{a b:Bg}(h:P.underlying t=X .string)(d:Y):(Op.equalIn (d+1) t (Bj a) (Bj b)).run P w=.ok (decide (a=b)) w:=by
 have:=run_equalIn_string (P:=P) w d t ⟨⟨a⟩⟩ ⟨⟨b⟩⟩ h;have e:(RB ⟨⟨a⟩⟩==RB ⟨⟨b⟩⟩)=decide (a=b):=by rw[RA];simp
 grind
def Tx{a:Ap Field}{xs f:Bm}{g:Ae Aw}{r:Aw}(j:P.underlying t=X (.struct a))(p:P.stoodInHeld t=Aj)(hm:P.eqGuardType P.depth t=Aj)(hx:ev σ x=X (.agg xs.toArray))(i:ev σ y=X (.agg f.toArray))
 (h:FEqs P w xs f a.toList g) (m:g.all id=r):EX P n σ (.binOp .eql t x y T) ty w (.bool r) w:=by
 subst m;have q:P.fieldsOf t=a:=by unfold Program.fieldsOf;rw[j]
 refine Gb hx i (run_eqGuard_agg w _ t x y _ _ hm) ?_;rw[run_eql_struct,show(10000:Y)=9998+1+1 from Z,run_equalIn_agg w _ t _ _ Bh p,q,h.run];rfl
end
section
variable{P:AE}{fn:Func}{Q:Ah->Ad->Prop}{n:Y}{σ:BJ}{w:Ad}{k:Ae KI}
def retC2{t u:Y}{T T':Ay}{b s bs:Y}{z x:Ah}{d:TypeDesc}{l:Bm}(g:fn.results=#[.cell t T,.tmp u])(f:P.underlying T=X d)(j:flat d=Aj)(hi:TI P T z s bs)(hv:lk σ t=X (.pointer (X ⟨b,0,Aa⟩)))(hx:lk σ u=X x)
 (m:Bk w b T' l) (hl:Aim l=s) (i:Q (.tuple #[.agg l.toArray,x]) w):∀a,Fr n σ a->bodyPost P fn (fun e w'=>∃v,e=.returned v/\Q v w') .ret a w:=
 MK (fun a ha=>by
  have h:=Jl (P:=P) (n:=n) (σ:=σ) (x:=.tmp t) (ty:=0) f j hi hv m hl a ha Aa "" #[] Aa
  have h1:(loadVar T ⟨b,0,Aa⟩).run P w=.ok (.agg l.toArray) w:=by
   have p:a.eval (.tmp t)=.pointer (X ⟨b,0,Aa⟩):=ha.ev (x:=.tmp t) hv;simp only[execOp,p,Instr.loadAt,Instr.sureAddr,Sem.run_bind,Sem.run_pure,Result.andThen_ok]at h;cases hr:(loadVar T ⟨b,0,Aa⟩).run P w with
   |ok v w'=>simp_all
   |halt q w'=>simp_all
  rw[results_cell_tmp g];have A:=ha.val t _ hv;have r:=ha.val u _ hx;simp[A,r,asAddr,h1]) i
end
def gR:∀(vs:Bm) (i:Y) (pre post:Bm),Aim pre=i->Aim post=Aim vs->
 (vs.zipIdx i).foldl (fun(cs:Ap Ah) (x:Ah×Y)=>cs.setIfInBounds (0+x.2) x.1) (pre++post).toArray=(pre++vs).toArray
 |[],i,pre,post,_,h=>by
  simp_all
 |v::vs,i,pre,[],_,h=>by grind
 |v::vs,i,pre,p::post,hp,h=>by
  have ih:=gR vs (i+1) (pre++[v]) post Bh Bh;simp_all
section
variable{P:AE}{n:Y}{σ:BJ}{w w0:Ad}{x y:AD}{t e ty ty1:Ay}{s bs:Y}{R:AF->Ad->Prop}{ops:Ap AG}{rest:Ae AG}{k:Ae KI}{pos pos1:AJ}{after after1:Ap Edge}{gd gd1:Av (Y×Aw)}{d d1:Y}
def We{z:Ah}{vs:Bm}(ht:P.underlying t=X (.slice e))(hi:TI P e z s bs)(B:z.cells.size=s)(D:0<s)(W:s<=16777216)(C:ev σ y=X (.agg vs.toArray))(hl:Aim vs=s):
 EX P n σ (.buildSlice t 1 #[(0,y)]) ty w (.slice (X ⟨w.heap.size,0,Aa⟩) 1 1) (w.alloc (.cells vs.toArray e)):=fun A L S pos after g=>by
 have p:=L.ev C;have I:¬(1*s>2 ^ 24):=J;have m:¬(1*s=0):=J;generalize a:((Array.range (1*s)).map fun j=>z.cells[j%z.cells.size]!)=zz;have h:zz.size=s:=by rw[<-a];simp
 have K:Instr.fill (fun i=>X (i*s,s)) zz [(0,.agg vs.toArray)]=X vs.toArray:=by
  obtain⟨f⟩:=zz;have q:Aim f=s:=by simpa using h
  have r:=gR vs 0 [] f Z J;simp only[Ev]at r;simp only[Instr.fill,Value.cells,Nat.zero_mul,WJ];have G:¬(Aim vs≠s∨0+Aim vs>Aim f):=J;simp only[ne_eq,PP,decide_eq_true_eq];rw[Ag J]
  have N:vs.toArray.zipIdx.foldl (fun(V:Ap Ah) (x:Ah×Y)=>V.setIfInBounds (0+x.2) x.1) f.toArray=vs.toArray:=by
   rw[<-Array.foldl_toList,Array.toList_zipIdx];exact r
  exact Ar X N
 simp only[execOp,Sem.run_bind]
 have hb:(Instr.buildSlice t 1 (#[(0,y)].map fun(x:Y×AD)=>(x.1,A.eval x.2))).run P w=.ok (.slice (X ⟨w.heap.size,0,Aa⟩) 1 1) (w.alloc (.cells vs.toArray e)):=by
  have E:(#[(0,y)].map fun(x:Y×AD)=>(x.1,A.eval x.2))=#[(0,Value.agg vs.toArray)]:=by simp[p]
  rw[E];simp only[Instr.buildSlice,Sem.run_bind,run_underlying ht,Fj hi,Result.andThen_ok,Ag I,Ag m,Sem.run_pure,NR hi,a,K];simp[newRow,newObj,Sem.run_bind,Sem.run]
 simp_all
def qA{z:Ah}(B:BK ops σ gd1=X Af)(C:BL d1 n=Af)(S:∀u,BK ops ((d1,u)::σ) gd=X Af)(V:BL d n=Af)(ht:P.underlying t=X (.slice e))(hi:TI P e z s bs)(g:z.cells.size=s)(f:0<s)(K:s<=16777216)
 {v:Ah} {vs:Bm} {l:Y} {xs:Bm} (G:ev σ y=X (.agg vs.toArray)) (hl:Aim vs=s) (hx:∀q,ev ((d1,q)::σ) x=X v) (I:vs.all (·.oneCell')=Af) (m:Bf w0 w) (i:Bp w w0.heap.size e s v l xs)
 (D:l+1<=maxLen) (a:(l+1)*bs<=140737488355328)
 (h:∀q v' w',Bp w' w0.heap.size e s v' (l+1) (xs++vs)->Bf w0 w'->w.grownBy w' v.ownBlock->OW P R ops rest k n ((d,v')::(d1,q)::σ) w'):
 OW P R ops (⟨X d1,.buildSlice t 1 #[(0,y)],ty1,pos1,after1,gd1⟩::⟨X d,.call { callee:=.builtin .append,args:=#[x,.tmp d1],argTypes:=#[t,t] },ty,pos,after,gd⟩::rest) k n σ w:=by
 refine OW.val B C (We ht hi g f K G hl) ?_;have r:Bf w0 (w.alloc (.cells vs.toArray e)):=m.trans (Bf.alloc w _);have E:=Bk.new w e vs;refine Ie (S _) V ht hi g f (hx _) (Pj _ _ _) r (i.alloc _) (Src.Agh ht (Sl.Agf E E.lt) J (fun u L=>Ng.1 I u L) f) D a ?_;intro v' w' h1 W p h4;refine h _ v' w' h1 W ⟨p.os,p.tape,p.output,by have:=p.size;simp_all;omega,fun j N A=>?_⟩;rw[p.block j Bx A];exact Below.heap_alloc w _ j N
end
def SD{α:Type}{cells:α->Bm}{c:Y}(hc:∀a,Aim (cells a)=c):∀(l:Ae α) (i j:Y) (hi:i<Aim l) (u:Ah),(cells l[i])[j]? =X u->(l.flatMap cells)[i*c+j]? =X u
 |a::l,0,j,hi,u,hu=>by
  grind
 |a::l,i+1,j,hi,u,hu=>by
  rw[EY,Hl Bh,hc,show(i+1)*c+j-c=i*c+j by grind];exact SD hc l i j Bh u hu
def Sl.flat{α:Type}{cells:α->Bm}{c:Y}{w:Ad}{B:Y}{A:Av AC}{l:Ae α}(h:Sl w B A (l.flatMap cells))(p:∀a,Aim (cells a)=c)(h0:0<c){i:Y}(hi:i<Aim l):
 ∃b o,A=X ⟨b,o,Aa⟩/\b<B/\∀j u,(cells l[i])[j]? =X u->w.cell? ⟨b,o+i*c+j,Aa⟩=X u:=by
 have m:0<Aim (cells l[i]):=by rw[p];exact h0
 have r:0<Aim (l.flatMap cells):=by
  have:=(HF.1 (SD p l i 0 hi _ (BN m))).1;omega
 obtain⟨b,o,e,v,f⟩:=h.at_ r;exact⟨b,o,e,v,fun j u q=>by rw[No];exact f _ _ (SD p l i j hi u q)⟩
def gO(off:Y):∀(vs:Bm) (k:Y) (pre post:Bm),Aim pre=off+k->Aim vs<=Aim post->
 (vs.zipIdx k).foldl (fun(cs:Ap Ah) (x:Ah×Y)=>cs.setIfInBounds (off+x.2) x.1) (pre++post).toArray=(pre++vs++post.drop (Aim vs)).toArray
 |[],k,pre,post,_,_=>by simp
 |v::vs,k,pre,p::post,hp,h=>by
  have ih:=gO off vs (k+1) (pre++[v]) post Bh Bh;simp_all
 |v::vs,k,pre,[],hp,h=>by grind
def gx(s:Y):∀(vss:Ae (Bm)) (i:Y) (pre post:Bm),Aim pre=i*s->(∀v∈vss,Aim v=s)->Aim post=Aim vss*s->
 Instr.fill (fun i=>X (i*s,s)) (pre++post).toArray ((vss.zipIdx i).map fun(v,j)=>(j,Value.agg v.toArray))=X (pre++vss.flatten).toArray
 |[],i,pre,post,hp,_,hl=>by
  have:post=[]:=Gx Bh;subst this;rfl
 |v::vss,i,pre,post,hp,h1,hl=>by
  have hv:=h1 v Bl;have hl':Aim post=Aim vss*s+s:=by rw[hl,Cv,Ql]
  have a:=gx s vss (i+1) (pre++v) (post.drop s) Bh (fun u f=>h1 u Bh) Bh;have h:=gO (i*s) v 0 pre post J J;simp only[WM,Cp,Instr.fill,Value.cells,WJ];grind
section
variable{P:AE}{n:Y}{σ:BJ}{w w0:Ad}{x y:AD}{t e ty T:Ay}{s bs:Y}{R:AF->Ad->Prop}{ops:Ap AG}{rest:Ae AG}{k:Ae KI}{pos:AJ}{after:Ap Edge}{g:Av (Y×Aw)}{d fuel:Y}{S:Ad->Prop}{listed:Ap Aw}
def Tw{z:Ah}{BO:Ap (Y×AD)}(len:Y)(a:Ae (Bm))(ht:P.underlying t=X (.slice e))(hi:TI P e z s bs)(D:z.cells.size=s)(G:0<s)
 (hv:evs σ (BO.toList.map (·.2))=X (a.map fun v=>Value.agg v.toArray)) (I:BO.toList.map (·.1)=GX 0 (Aim BO.toList)) (hl:Aim a=len) (h1:∀v∈a,Aim v=s) (o:len*s<=16777216):
 EX P n σ (.buildSlice t len BO) ty w (.slice (X ⟨w.heap.size,0,Aa⟩) len len) (w.alloc (.cells a.flatten.toArray e)):=fun A N ab pos after g=>by
 have m:(BO.map fun(p:Y×AD)=>(p.1,A.eval p.2)).toList=a.zipIdx.map fun(v,j)=>(j,Value.agg v.toArray):=by
  have r:=N.evs hv;apply GU;intro j;have W:=Ar (·[j]?) r;have V:=Ar (·[j]?) I;simp only[DP]at W V;simp only[VZ,DP,List.getElem?_zipIdx]
  have L:Aim BO.toList=Aim a:=by
   have:=Ar DW r;simpa using this
  by_cases hj:j<Aim a
  .grind
  .grind
 have K:¬(len*s>2 ^ 24):=J;generalize i:((Array.range (len*s)).map fun j=>z.cells[j%z.cells.size]!)=zz;have E:zz.size=len*s:=by rw[<-i];simp
 obtain⟨C⟩:=zz;have q:=gx s a 0 [] C Bl h1 Bh;simp only[Ev]at q;simp only[execOp,Sem.run_bind]
 have hb:(Instr.buildSlice t len (BO.map fun(p:Y×AD)=>(p.1,A.eval p.2))).run P w=.ok (.slice (X ⟨w.heap.size,0,Aa⟩) len len) (w.alloc (.cells a.flatten.toArray e)):=by
  simp only[Instr.buildSlice,Sem.run_bind,run_underlying ht,Fj hi,Result.andThen_ok,Ag K,m,Sem.run_pure];by_cases B:len*s=0
  .have f:len=0:=by
    rcases Nat.mul_eq_zero.1 B with h|h
    .omega
    .omega
   subst f;have l:a=[]:=Gx hl;subst l;simp[Instr.fill,newRow,newObj,Sem.run_bind,Sem.run,Array.range_zero']
  .rw[Ag B];simp only[Sem.run_bind,NR hi,Result.andThen_ok,Sem.run_pure,i,q];rfl
 simp_all
def Mi{z:Ah}{BO:Ap (Y×AD)}(len:Y)(vss:Ae (Bm))(hg:BK ops σ g=X Af)(hd:BL d n=Af)(ht:P.underlying T=X (.slice e))(hi:TI P e z s bs)(hzs:z.cells.size=s)(hs0:0<s)
 (hv:evs σ (BO.toList.map (·.2))=X (vss.map fun v=>Value.agg v.toArray)) (hp:BO.toList.map (·.1)=GX 0 (Aim BO.toList)) (hl:Aim vss=len) (h1:∀v∈vss,Aim v=s) (hlen:len*s<=16777216)
 (h:∀b w',w.heap.size<=b->Bk w' b e vss.flatten->Bf w w'->OW P R ops rest k n ((d,.slice (X ⟨b,0,Aa⟩) len len)::σ) w'):OW P R ops (⟨X d,.buildSlice T len BO,ty,pos,after,g⟩::rest) k n σ w:=
 OW.val hg hd (Tw len vss ht hi hzs hs0 hv hp hl h1 hlen) (h _ _ (Bq _) (Bk.new w e _) (Bf.alloc w _))
def Gu(i:Y){z:Ah}{BO:Ap (Y×AD)}(len:Y)(vss:Ae (Bm))(hi':ops[i]? =X ⟨X d,.buildSlice T len BO,ty,pos,after,g⟩)(hr:Region.ready .any ops listed=[i])(hg:BK ops σ g=X Af)(hd:BL d n=Af)(ht:P.underlying T=X (.slice e))(hi:TI P e z s bs)(hzs:z.cells.size=s)(hs0:0<s)
 (hv:evs σ (BO.toList.map (·.2))=X (vss.map fun v=>Value.agg v.toArray)) (hp:BO.toList.map (·.1)=GX 0 (Aim BO.toList)) (hl:Aim vss=len) (h1:∀v∈vss,Aim v=s) (hlen:len*s<=16777216)
 (h:∀b w',w.heap.size<=b->Bk w' b e vss.flatten->Bf w w'->S w'/\(S w'->GW P R ops S fuel (listed.setIfInBounds i Af) k n ((d,.slice (X ⟨b,0,Aa⟩) len len)::σ) w')):GW P R ops S (fuel+1) listed k n σ w:=
 GW.new i hi' hr hg hd (Tw len vss ht hi hzs hs0 hv hp hl h1 hlen) (h _ _ (Bq _) (Bk.new w e _) (Bf.alloc w _))
def TC(i:Y){z:Ah}{BO:Ap (Y×AD)}(len:Y)(vss:Ae (Bm))(hi':ops[i]? =X ⟨X d,.buildSlice T len BO,ty,pos,after,g⟩)(hg:BK ops σ g=X Af)(hd:BL d n=Af)(ht:P.underlying T=X (.slice e))(hi:TI P e z s bs)(hzs:z.cells.size=s)(hs0:0<s)
 (hv:evs σ (BO.toList.map (·.2))=X (vss.map fun v=>Value.agg v.toArray)) (hp:BO.toList.map (·.1)=GX 0 (Aim BO.toList)) (hl:Aim vss=len) (h1:∀v∈vss,Aim v=s) (hlen:len*s<=16777216)
 (h:∀b w',w.heap.size<=b->Bk w' b e vss.flatten->Bf w w'->S w'/\(S w'->GW P R ops S fuel (listed.setIfInBounds i Af) k n ((d,.slice (X ⟨b,0,Aa⟩) len len)::σ) w')):GO P R ops S fuel listed k n σ w i:=
 GO.new i hi' hg hd (Tw len vss ht hi hzs hs0 hv hp hl h1 hlen) (h _ _ (Bq _) (Bk.new w e _) (Bf.alloc w _))
end
section
variable{P:AE}{fn:Func}{Q:Ah->Ad->Prop}{n:Y}{σ:BJ}{w:Ad}
def retC1{t:Y}{T A:Ay}{b s bs:Y}{z:Ah}{d:TypeDesc}{l:Bm}(i:fn.results=#[.cell t T])(f:P.underlying T=X d)(m:flat d=Aj)(hi:TI P T z s bs)(hv:lk σ t=X (.pointer (X ⟨b,0,Aa⟩)))
 (o:Bk w b A l) (hl:Aim l=s) (j:Q (.agg l.toArray) w):∀a,Fr n σ a->bodyPost P fn (fun e w'=>∃v,e=.returned v/\Q v w') .ret a w:=
 MK (fun a ha=>by
  have h:=Jl (P:=P) (n:=n) (σ:=σ) (x:=.tmp t) (ty:=0) f m hi hv o hl a ha Aa "" #[] Aa
  have h1:(loadVar T ⟨b,0,Aa⟩).run P w=.ok (.agg l.toArray) w:=by
   have p:a.eval (.tmp t)=.pointer (X ⟨b,0,Aa⟩):=ha.ev (x:=.tmp t) hv;simp only[execOp,p,Instr.loadAt,Instr.sureAddr,Sem.run_bind,Sem.run_pure,Result.andThen_ok]at h;cases hr:(loadVar T ⟨b,0,Aa⟩).run P w with
   |ok v w'=>simp_all
   |halt q w'=>simp_all
  have r:=ha.val t _ hv;simp only[results,i];simp[Sem.run_bind,r,asAddr,h1]) j
end
section
variable{P:AE}{n:Y}{σ:BJ}{w:Ad}{x y:AD}{t e ty T T':Ay}{b o:Y}{z v:Ah}{s bs:Y}{l:Bm}
def oZ{m:Y}{BO:Ap (Y×AD)}{ks:Bi}{vs zs:Bm}{a h:Y}{j:Ah}(r:P.underlying t=X (.array m e))(hi:TI P t (.agg zs.toArray) s bs)(he:TI P e j a h)
 (hk:BO.toList.map (·.1)=ks) (hv:evs σ (BO.toList.map (·.2))=X vs) (hf:Instr.fill (fun i=>X (i*a,a)) zs.toArray (ks.zip vs)=X l.toArray):
 EX P n σ (.build t BO) ty w (.agg l.toArray) w:=fun A B C q after g=>by
 have f:=B.evs hv
 have d:(BO.map fun(p:Y×AD)=>(p.1,A.eval p.2)).toList=ks.zip vs:=by
  rw[<-hk,<-f];simp only[VZ,EE,List.zip_map'];rfl
 simp only[execOp,Instr.build,Sem.run_bind,NR hi,Result.andThen_ok,run_underlying r,Fj he];rw[show(BO.map fun(x:Y×AD)=>match x with|(i,x)=>(i,A.eval x)).toList=ks.zip vs from d];rw[show((Value.agg zs.toArray).cells)=zs.toArray from Z,hf];rfl
def fillL(pl:Ae (Y×Y)):Bm->Ae (Y×Bm)->Bm
 |zs,[]=>zs
 |zs,(i,cs)::r=>fillL pl (zs.take (pl.getD i (0,0)).1++(cs++zs.drop ((pl.getD i (0,0)).1+Aim cs))) r
def UL(pl:Ae (Y×Y))(n:Y):Ae (Y×Y)->Aw
 |[]=>Af
 |(i,c)::r=>BL i (Aim pl) && (pl.getD i (0,0)).2==c && Nat.ble ((pl.getD i (0,0)).1+c) n && UL pl n r
def gP(off:Y):∀(vs:Bm) (k:Y) (zs:Bm),off+k+Aim vs<=Aim zs->
 (vs.zipIdx k).foldl (fun(cs:Ap Ah) (x:Ah×Y)=>cs.setIfInBounds (off+x.2) x.1) zs.toArray=(zs.take (off+k)++(vs++zs.drop (off+k+Aim vs))).toArray
 |[],k,zs,_=>by simp
 |v::vs,k,zs,h=>by
  have hlt:off+k<Aim zs:=by simp at h;omega
  have a:zs.toArray.setIfInBounds (off+k) v=(zs.set (off+k) v).toArray:=Bl;simp only[WM,LZ,a];rw[gP off vs (k+1) (zs.set (off+k) v) Bh];congr 1
  have f:(zs.set (off+k) v).take (off+(k+1))=zs.take (off+k)++[v]:=by
   rw[show off+(k+1)=off+k+1 by omega,Me,List.getElem?_set_self hlt,List.take_set_of_le J];rfl
  have d:(zs.set (off+k) v).drop (off+(k+1)+Aim vs)=zs.drop (off+k+Aim (v::vs)):=by
   rw[List.drop_set_of_lt J];congr 1;simp;omega
  grind
def gw{pl:Ae (Y×Y)}:∀(ks:Bi) (vs:Bm) (css:Ae (Bm)) (zs:Bm),vs.map (fun v=>v.cells.toList)=css->UL pl (Aim zs) (ks.zip (css.map DW))=Af->Aim ks=Aim vs->
 Instr.fill (pl.toArray[·]?) zs.toArray (ks.zip vs)=X (fillL pl zs (ks.zip css)).toArray
 |[],[],css,zs,hc,_,_=>by rfl
 |k::ks,v::vs,css,zs,hc,hf,hl=>by
  subst hc;simp only[Cp,WN,UL,Bool.and_eq_true,beq_iff_eq,Nat.blt_eq,Nat.ble_eq]at hf;obtain⟨⟨⟨f1,f2⟩,f3⟩,f4⟩:=hf;have hg:pl.toArray[k]? =X (pl.getD k (0,0)):=by simp[BX,f1]
  simp only[WN,Cp,Instr.fill,hg,fillL];generalize pl.getD k (0,0)=q at f2 f3;obtain⟨a,size⟩:=q;simp only at f2 f3;have f:Aim v.cells.toList=v.cells.size:=Bl;have i:¬(v.cells.size≠size∨a+v.cells.size>zs.toArray.size):=by simp only[WJ];omega
  simp only[ne_eq,PP,decide_eq_true_eq];rw[Ag J]
  have d:v.cells.zipIdx.foldl (fun g (x:Ah×Y)=>g.setIfInBounds (a+x.2) x.1) zs.toArray=(zs.take a++(v.cells.toList++zs.drop (a+Aim v.cells.toList))).toArray:=by
   rw[<-Array.foldl_toList,Array.toList_zipIdx];exact gP a v.cells.toList 0 zs J
  rw[d];refine gw ks vs _ _ Z ?_ Bh;grind
 |[],_::_,_,_,_,_,h=>by simp at h
 |_::_,[],_,_,_,_,h=>by simp at h
def pa{fs:Ap Field}{BO:Ap (Y×AD)}{pl:Ae (Y×Y)}{ks:Bi}{vs zs:Bm}{css:Ae (Bm)}(hu:P.underlying t=X (.struct fs))(hi:TI P t (.agg zs.toArray) s bs)(hp:places P fs.toList=X pl)
 (hk:BO.toList.map (·.1)=ks) (hv:evs σ (BO.toList.map (·.2))=X vs) (hc:vs.map (fun v=>v.cells.toList)=css) (hf:UL pl (Aim zs) (ks.zip (css.map DW))=Af) (hn:Aim ks=Aim vs) (hl:fillL pl zs (ks.zip css)=l):
 EX P n σ (.build t BO) ty w (.agg l.toArray) w:=
 Od hu hi hp hk hv (by rw[gw ks vs css zs hc hf hn,hl])
end
section
variable{P:AE}{R:AF->Ad->Prop}{k:Ae KI}{n:Y}{σ:BJ}{w:Ad}
def Vr{l:Y}:∀(k:Ae KI) (a:AF) (w:Ad),Dx P R k (.goto l) a w->False
 |[],_,_,h=>h
 |.code _::k,a,w,h=>Vr k a w h
 |.blk _::k,a,w,h=>Vr k a w h
 |.asr _::k,a,w,h=>Vr k a w h
def KW.scope{c:AL}(h:KW P R (.code c::k) n σ w):KW P R (.code (.scope c)::k) n σ w:=fun a j=>by
 refine wp_scope_straight ?_;intro b i m;obtain⟨e,p,g,d,f⟩:=h a j b i m;refine⟨e,p,g,?_,f⟩;cases e with
 |goto l=>exact Vr k _ _ d
 |normal=>exact d
 |exit id=>exact d
 |ret=>exact d
 |panic ch=>exact d
 |outgrown=>exact d
end
section
variable{P:AE}{R:AF->Ad->Prop}{ops:Ap AG}{rest:Ae AG}{k:Ae KI}{n:Y}{σ:BJ}{w:Ad}{x y:AD}{t e ty ty1:Ay}{pos pos1:AJ}{after after1:Ap Edge}{gd gd1:Av (Y×Aw)}{d d1:Y}{s bs B:Y}
def cK{k:AI}{a b:H}{t':Ay}(hx:ev σ x=X (.int k a))(hy:ev σ y=X (.int k b))(h:b≠0):EX P n σ (.binOp .rem t x y t') ty w (.int k (a.tmod b)) w:=
 EV hx hy (by
  unfold binOp;simp only[ne_eq,not_true_eq_false,if_false,Op.intDiv,Ag h];rfl)
def Mo.append{w w1 w':Ad}{row:Av Y}(hx:Bf w w1)(h:w1.grownBy w' row):Mo w w' row.toList:=
 (Mo.Age hx _).trans (Mo.grown h fun k e=>by grind)
def Tm.fresh{w a w2:Ad}{B:Y}{p:Ay->Aw}{S:Bi}(h:Tm w a B p)(hm:Mo a w2 S)(i:∀k∈S,w.heap.size<=k):Tm w w2 B p:=by
 obtain⟨S0,g,f⟩:=h;refine⟨S0,Mo.fresh (S:=S0++S) ((g.mono Bh).trans (hm.mono Bh)) ?_,f⟩;grind
def qB(B:Y){z:Ah}(o:BK ops σ gd1=X Af)(p:BL d1 n=Af)(I:∀u,BK ops ((d1,u)::σ) gd=X Af)(K:BL d n=Af)(ht:P.underlying t=X (.slice e))(hi:TI P e z s bs)(j:z.cells.size=s)(i:0<s)(E:s<=16777216)
 {v:Ah} {vs:Bm} {l:Y} {xs:Bm} (C:ev σ y=X (.agg vs.toArray)) (hl:Aim vs=s) (hx:∀q,ev ((d1,q)::σ) x=X v) (D:vs.all (·.oneCell')=Af) (L:B<=w.heap.size) (m:Bp w B e s v l xs)
 (r:l+1<=maxLen) (a:(l+1)*bs<=140737488355328)
 (h:∀q v' w',Bp w' B e s v' (l+1) (xs++vs)->Mo w w' v.ownBlock.toList->(v'.ownBlock=v.ownBlock∨∃g,v'.ownBlock=X g/\w.heap.size<=g)->OW P R ops rest k n ((d,v')::(d1,q)::σ) w'):
 OW P R ops (⟨X d1,.buildSlice t 1 #[(0,y)],ty1,pos1,after1,gd1⟩::⟨X d,.call { callee:=.builtin .append,args:=#[x,.tmp d1],argTypes:=#[t,t] },ty,pos,after,gd⟩::rest) k n σ w:=by
 refine OW.val o p (We ht hi j i E C hl) ?_;have f:Bf w (w.alloc (.cells vs.toArray e)):=Bf.alloc w _;have A:=Bk.new w e vs;refine OW.append B (I _) K ht hi j i (hx _) (Pj _ _ _) (m.alloc _) (Src.Agh ht (Sl.Agf A A.lt) J (fun u G=>Ng.1 D u G) i) r a (BF L f.size) ?_;intro v' w' T Q N;exact h _ v' w' T (Mo.append f Q) (N.imp id fun e=>⟨_,e,f.size⟩)
def qz(B:Y){z:Ah}(m:BK ops σ gd1=X Af)(o:BL d1 n=Af)(C:∀u,BK ops ((d1,u)::σ) gd=X Af)(D:BL d n=Af)(ht:P.underlying t=X (.slice e))(hi:TI P e z 1 bs)(i:z.oneCell'=Af)
 {v u:Ah} {l:Y} {xs:Bm} (A:ev σ y=X u) (hx:∀q,ev ((d1,q)::σ) x=X v) (L:u.oneCell'=Af) (E:B<=w.heap.size) (j:Bp w B e 1 v l xs)
 (p:l+1<=maxLen) (a:(l+1)*bs<=140737488355328)
 (h:∀q v' w',Bp w' B e 1 v' (l+1) (xs++[u])->Mo w w' v.ownBlock.toList->(v'.ownBlock=v.ownBlock∨∃g,v'.ownBlock=X g/\w.heap.size<=g)->OW P R ops rest k n ((d,v')::(d1,q)::σ) w'):
 OW P R ops (⟨X d1,.buildSlice t 1 #[(0,y)],ty1,pos1,after1,gd1⟩::⟨X d,.call { callee:=.builtin .append,args:=#[x,.tmp d1],argTypes:=#[t,t] },ty,pos,after,gd⟩::rest) k n σ w:=by
 refine OW.val m o (EX.buildSlice (vs:=[u]) 1 ht hi i (by simp[evs,A]) Z Z Bh Bc) ?_;have f:Bf w (w.alloc (.cells [u].toArray e)):=Bf.alloc w _;have r:=Bk.new w e [u];refine OW.append B (C _) D ht hi (by rw[LF i];rfl) Bc (hx _) (Pj _ _ _) (j.alloc _) (Src.Agh ht (Sl.Agf r r.lt) Z Bh Bc) p a (BF E f.size) ?_;intro v' w' K I G;exact h _ v' w' K (Mo.append f I) (G.imp id fun e=>⟨_,e,f.size⟩)
end
section
variable{P:AE}{R:AF->Ad->Prop}{ops:Ap AG}{S:Ad->Prop}{fuel:Y}{listed:Ap Aw}{k:Ae KI}{n:Y}{σ:BJ}{w:Ad}{x y:AD}{t t' e ty:Ay}{pos:AJ}{after:Ap Edge}{gd:Av (Y×Aw)}{d:Y}
def GW.append(i B:Y){z:Ah}{s bs:Y}(C:ops[i]? =X ⟨X d,.call { callee:=.builtin .append,args:=#[x,y],argTypes:=#[t,t'] },ty,pos,after,gd⟩)(K:Region.ready .any ops listed=[i])
 (L:BK ops σ gd=X Af) (N:BL d n=Af) (ht:P.underlying t=X (.slice e)) (hi:TI P e z s bs) (q:z.cells.size=s) (r:0<s)
 {v E:Ah} {m l:Y} {xs f:Bm} (hx:ev σ x=X v) (I:ev σ y=X E) (p:Bp w B e s v l xs) (j:Src P s t' E m f w)
 (D:l+m<=maxLen) (a:(l+m)*bs<=140737488355328) (Q:B<=w.heap.size)
 (h:∀v' w',Bp w' B e s v' (l+m) (xs++f)->w.grownBy w' v.ownBlock->(v'.ownBlock=v.ownBlock∨v'.ownBlock=X w.heap.size)->S w'/\(S w'->GW P R ops S fuel (listed.setIfInBounds i Af) k n ((d,v')::σ) w')):GW P R ops S (fuel+1) listed k n σ w:=by
 obtain⟨v',w',o,W,V,T⟩:=Vz (P:=P) B t t' ty e ht hi q r p j D a Q;refine GW.new i C K L N (v:=v') (w':=w') ?_ (h v' w' W V T);intro A G ab pos after g;simp only[execOp,resolve,invoke,builtin,Sem.run_bind,Sem.run_pure,Result.andThen_ok,Gy,Cp,EO,G.ev hx,G.ev I,o]
end
section
variable{P:AE}{n:Y}{σ:BJ}{w:Ad}{x y:AD}{ty:Ay}
def EX.maxN{k:AI}{a b:Y}{d:Ap Ay}(hx:ev σ x=X (.int k (a:H)))(h:ev σ y=X (.int k (b:H))):EX P n σ (.call { callee:=.builtin .max,args:=#[x,y],argTypes:=d }) ty w (.int k ((max a b:Y):H)) w:=fun A e i f after g=>by
 simp only[execOp,resolve,invoke,builtin,Sem.run_bind,Sem.run_pure,Result.andThen_ok,Gy,Cp,EO,e.ev hx,e.ev h];have:(if(b:H)>a then(b:H)else a)=((max a b:Y):H):=by split<;>omega
 simp only[Builtin.max_,Builtin.max2,List.foldlM,Sem.run_bind,Sem.run_pure,Result.andThen_ok,this]
def cA{k:AI}{a b:H}{d:Ap Ay}(hx:ev σ x=X (.int k a))(h:ev σ y=X (.int k b)):EX P n σ (.call { callee:=.builtin .max,args:=#[x,y],argTypes:=d }) ty w (.int k (max a b)) w:=fun A e i f after g=>by
 simp only[execOp,resolve,invoke,builtin,Sem.run_bind,Sem.run_pure,Result.andThen_ok,Gy,Cp,EO,e.ev hx,e.ev h];have:(if b>a then b else a)=max a b:=by split<;>omega
 simp only[Builtin.max_,Builtin.max2,List.foldlM,Sem.run_bind,Sem.run_pure,Result.andThen_ok,this]
def bW{t T:Ay}{p q:Ap Ay}{vd:Aw}{f:Fn}{fi ca:Ap Ah}(hu:P.underlying t=X (.func p q vd))(hx:ev σ x=X (.func f fi ca))(hy:ev σ y=X .nilFunc):EX P n σ (.binOp .eql t x y T) ty w (.bool Aj) w:=
 Gb hx hy (by rfl) (Tc Z (fun d=>by simp[Op.equalIn,run_underlying hu,Sem.run_bind]))
def PV{k k':AI}{t t':Ay}{a s:Y}(hx:ev σ x=X (.int k (a:H)))(hy:ev σ y=X (.int k' (s:H)))(hs:s<=k.bits):EX P n σ (.binOp .shr t x y t') ty w (.int k ((a/2 ^ s:Y):H)) w:=IG hx hy Z hs
def On{k k':AI}{t t':Ay}{a s m:Y}(hx:ev σ x=X (.int k (a:H)))(hy:ev σ y=X (.int k' (s:H)))(hs:s<=k.bits)(hm:_root_.Go.Proofs.YtkmlafmjaeeanaaGreatDoor.maxN k=m)(h:a*2 ^ s<=m):EX P n σ (.binOp .shl t x y t') ty w (.int k ((a*2 ^ s:Y):H)) w:=Hk hx hy Z hs hm h
end
section
variable{P:AE}{R:AF->Ad->Prop}{ops:Ap AG}{S:Ad->Prop}{fuel:Y}{listed:Ap Aw}{k:Ae KI}{n:Y}{σ:BJ}{w:Ad}{x y:AD}{t t' e ty:Ay}{pos:AJ}{after:Ap Edge}{gd:Av (Y×Aw)}{d:Y}
def GO.append(i B:Y){z:Ah}{s bs:Y}(C:ops[i]? =X ⟨X d,.call { callee:=.builtin .append,args:=#[x,y],argTypes:=#[t,t'] },ty,pos,after,gd⟩)
 (K:BK ops σ gd=X Af) (L:BL d n=Af) (ht:P.underlying t=X (.slice e)) (hi:TI P e z s bs) (q:z.cells.size=s) (r:0<s)
 {v E:Ah} {m l:Y} {xs f:Bm} (hx:ev σ x=X v) (I:ev σ y=X E) (p:Bp w B e s v l xs) (j:Src P s t' E m f w)
 (D:l+m<=maxLen) (a:(l+m)*bs<=140737488355328) (N:B<=w.heap.size)
 (h:∀v' w',Bp w' B e s v' (l+m) (xs++f)->w.grownBy w' v.ownBlock->(v'.ownBlock=v.ownBlock∨v'.ownBlock=X w.heap.size)->S w'/\(S w'->GW P R ops S fuel (listed.setIfInBounds i Af) k n ((d,v')::σ) w')):GO P R ops S fuel listed k n σ w i:=by
 obtain⟨v',w',o,V,T,Q⟩:=Vz (P:=P) B t t' ty e ht hi q r p j D a N;refine GO.new i C K L (v:=v') (w':=w') ?_ (h v' w' V T Q);intro A G W pos after g;simp only[execOp,resolve,invoke,builtin,Sem.run_bind,Sem.run_pure,Result.andThen_ok,Gy,Cp,EO,G.ev hx,G.ev I,o]
def GR(i:Y){f:FuncId}{c:AD}{xs:Ae AD}{a:Ap Ay}{vs j l args:Bm}{Q:Ah->Ad->Prop}
 (hi:ops[i]? =X ⟨X d,.call { callee:=.value c,args:=xs.toArray,argTypes:=a },ty,pos,after,gd⟩) (m:Region.ready .any ops listed=[i])
 (o:BK ops σ gd=X Af) (p:BL d n=Af) (ht:ev σ c=X (.func (.func f) j.toArray l.toArray)) (hx:evs σ xs=X vs) (he:j++vs++l=args) (g:Bn P f args w Q)
 (h:∀v w',Q v w'->S w'/\(S w'->GW P R ops S fuel (listed.setIfInBounds i Af) k n ((d,v)::σ) w')):GW P R ops S (fuel+1) listed k n σ w:=by
 obtain⟨⟨A,r,q⟩,_⟩:=id g;exact cR i hi m o p (EC.val r q ht hx he) g h
end
section
variable{P:AE}{n:Y}{σ:BJ}{w:Ad}{x y:AD}{ty t e:Ay}{R:Ad->BJ->Prop}
def pt{z:Ah}{bs len cap:Y}{l m:AI}(ht:P.underlying t=X (.slice e))(hi:TI P e z 1 bs)(a:z.oneCell'=Af)(hx:ev σ x=X (.int l (len:H)))(q:ev σ y=X (.int m (cap:H)))
 (B:len<=cap) (G:bs*cap<=281474976710656) (D:cap<=9223372036854775807):
 EX P n σ (.makeSlice t x y) ty w (.slice (X ⟨w.heap.size,0,Aa⟩) len cap) (w.alloc (.cells (BG cap z).toArray e)):=fun A o E pos after g=>by
 obtain⟨i,v,p,r,rfl⟩:=hi.at
 have j:(i.bytes:H)*(cap:H)<=281474976710656:=by
  have h:((i.bytes*cap:Y):H)<=281474976710656:=J;rwa[PY]at h
 have f:=run_make (P:=P) w t e i z ht v p l m len cap J J j J;simp only[RH,r,Ic,LF a]at f
 have C:madeCells #[z] cap=(BG cap z).toArray:=by
  apply Array.ext';rw[toList_madeCells_one]
 rw[C]at f;simp only[execOp,o.ev hx,o.ev q,Sem.run_bind,f];rfl
end
section
variable{P:AE}{R:AF->Ad->Prop}{ops:Ap AG}{rest:Ae AG}{k:Ae KI}{n:Y}{σ:BJ}{w:Ad}{x y t:AD}{T e ty:Ay}{pos:AJ}{after:Ap Edge}{gd:Av (Y×Aw)}{d:Y}{z:Ah}{bs:Y}
def WU{len cap:Y}{i j:AI}(m:BK ops σ gd=X Af)(o:BL d n=Af)(ht:P.underlying T=X (.slice e))(hi:TI P e z 1 bs)(f:z.oneCell'=Af)(hx:ev σ x=X (.int i (len:H)))(l:ev σ y=X (.int j (cap:H)))
 (a:len<=cap) (p:bs*cap<=281474976710656) (g:cap<=maxLen)
 (h:∀v' w',Bp w' w.heap.size e 1 v' len (BG len z)->Bf w w'->OW P R ops rest k n ((d,v')::σ) w'):
 OW P R ops (⟨X d,.makeSlice T x y,ty,pos,after,gd⟩::rest) k n σ w:=by
 refine OW.val m o (pt ht hi f hx l a p Cr) (h _ _ ⟨Bl,.inr ⟨w.heap.size,cap,BG (cap-len) z,Z,Bq _,?_,Bh,a,g⟩⟩ (Bf.alloc w _));have q:=Bk.new w e (BG cap z);simp_all
end
section
variable{P:AE}{R:AF->Ad->Prop}{ops:Ap AG}{S:Ad->Prop}{fuel:Y}{listed:Ap Aw}{k:Ae KI}{n:Y}{σ:BJ}{w:Ad}{x y:AD}{t t' e e' ty:Ay}{pos:AJ}{after:Ap Edge}{gd:Av (Y×Aw)}{d:Y}{z:Ah}{bs:Y}
def Wl{B g len cap a f:Y}{A:Av AC}{l vs:Bm}(j i:Y)(I:ops[j]? =X ⟨X d,.call { callee:=.builtin .copy,args:=#[x,y],argTypes:=#[t,t'] },ty,pos,after,gd⟩)(Q:Region.ready .any ops listed=[j])
 (W:BK ops σ gd=X Af) (hd:BL d n=Af) (ht:P.underlying t=X (.slice e)) (C:P.underlying t'=X (.slice e')) (hi:TI P e z 1 bs) (hx:ev σ x=X (.slice (X ⟨g,i,Aa⟩) len cap)) (N:ev σ y=X (.slice A a f))
 (E:Sl w B A vs) (p:Aim vs=min a len) (h1:∀u∈vs,u.oneCell'=Af) {T:Ay} (hb:Bk w g T l) (hl:i+Aim vs<=Aim l)
 (V:∀w',Bk w' g T (l.take i++vs++l.drop (i+Aim vs))->Mo w w' [g]->S w'/\(S w'->GW P R ops S fuel (listed.setIfInBounds j Af) k n ((d,.int .i64 ((Aim vs:Y):H))::σ) w')):GW P R ops S (fuel+1) listed k n σ w:=by
 obtain⟨w',G,ab,K⟩:=Rj P w g i T vs 0 l w hb J h1;have q:=(Src.Agh (P:=P) (m:=min a len) (c:=f) C E (by rw[p,Ic]) h1 Bl).cells;have h:(Builtin.firstCells 1 (Nat.min a len) (.slice A a f)).run P w=.ok vs.toArray w:=by cases A<;>exact q
 refine GW.new j I Q W hd (v:=.int .i64 ((Aim vs:Y):H)) (w':=w') ?_ (V w' J (Mo.grown K (fun k e=>by grind)));intro A' L af pos after gd;have D:=Fj (w:=w) hi;have r:(Builtin.lenOf (.slice A a f)).run P w=.ok a w:=rfl;simp only[execOp,resolve,invoke,builtin,Sem.run_bind,Sem.run_pure,Result.andThen_ok,Gy,Cp,EO,L.ev hx,L.ev N];have o:((Aim vs:Y):H)=((Nat.min a len:Y):H):=Ar Mf p;simp[Builtin.copy_,run_underlying ht,Sem.run_bind,r,D,h,G,goInt,o]
def Kc(t:Y){p:Prop}[Decidable p](ht:lk σ t=X (.bool (decide p)))(h1:p->GW P R ops S fuel listed k n ((t,.bool Af)::σ) w)(h2:¬p->GW P R ops S fuel listed k n ((t,.bool Aj)::σ) w):GW P R ops S fuel listed k n σ w:=by
 by_cases a:p
 .exact GW.as t (.bool Af) ht Bh (h1 a)
 .exact GW.as t (.bool Aj) ht Bh (h2 a)
end
def BU:TI prog 3 (.int .i64 0) 1 8:=by unfold TI;kernel_rfl
def ti4:TI prog 4 (.bool Aj) 1 1:=by unfold TI;kernel_rfl
def CD:TI prog 5 (.int .u8 0) 1 1:=by unfold TI;kernel_rfl
def Gs:TI prog 9 (Bj []) 1 16:=by unfold TI;kernel_rfl
def Ru:TI prog 23 (.slice Aa 0 0) 1 24:=by unfold TI;kernel_rfl
def bg:TI prog 26 (.pointer Aa) 1 8:=by unfold TI;kernel_rfl
def ti31:TI prog 31 (.slice Aa 0 0) 1 24:=by unfold TI;kernel_rfl
def ti33:TI prog 33 (.agg #[.slice Aa 0 0]) 1 24:=by unfold TI;kernel_rfl
def VO:TI prog 34 (.int .i64 0) 1 8:=by unfold TI;kernel_rfl
def ti36:TI prog 36 (.slice Aa 0 0) 1 24:=by unfold TI;kernel_rfl
def ti38:TI prog 38 (.agg #[.int .i64 0,.slice Aa 0 0]) 2 32:=by unfold TI;kernel_rfl
def ti40:TI prog 40 (.agg #[.int .i64 0,Bj [],Bj [],.int .i64 0,.slice Aa 0 0,.int .i64 0,.slice Aa 0 0]) 7 104:=by unfold TI;kernel_rfl
def GP:TI prog 51 (.slice Aa 0 0) 1 24:=by unfold TI;kernel_rfl
def ti56:TI prog 56 (.slice Aa 0 0) 1 24:=by unfold TI;kernel_rfl
def LO:TI prog 58 (.int .u32 0) 1 4:=by unfold TI;kernel_rfl
def Tn:TI prog 60 (.agg #[Bj [],.int .i64 0,.int .i64 0,.int .i64 0,.int .u32 0]) 5 48:=by unfold TI;kernel_rfl
def Hj:TI prog 64 (.agg #[Bj [],Bj []]) 2 32:=by unfold TI;kernel_rfl
def VP:TI prog 80 (.agg #[.pointer Aa,.int .i64 0,.int .i64 0,.slice Aa 0 0,.bool Aj]) 5 56:=by unfold TI;kernel_rfl
def ti82:TI prog 82 (.agg #[.pointer Aa,.int .i64 0,.int .i64 0,.slice Aa 0 0,.bool Aj]) 5 56:=by unfold TI;kernel_rfl
def ti83:TI prog 83 (.slice Aa 0 0) 1 24:=by unfold TI;kernel_rfl
def ti85:TI prog 85 (.agg #[.int .i64 0,.slice Aa 0 0,.slice Aa 0 0,.slice Aa 0 0,.int .i64 0,.slice Aa 0 0,.bool Aj,.int .i64 0]) 8 128:=by unfold TI;kernel_rfl
def ti93:TI prog 93 (.slice Aa 0 0) 1 24:=by unfold TI;kernel_rfl
def VQ:TI prog 97 (.slice Aa 0 0) 1 24:=by unfold TI;kernel_rfl
def ti100:TI prog 100 (.pointer Aa) 1 8:=by unfold TI;kernel_rfl
def ti102:TI prog 102 (.agg #[.pointer Aa,.slice Aa 0 0]) 2 32:=by unfold TI;kernel_rfl
def MU:TI prog 116 (.agg #[.int .i64 0,Bj [],.int .i64 0,.int .i64 0,.int .i64 0,.int .u32 0]) 6 56:=by unfold TI;kernel_rfl
def LL:TI prog 121 (.agg #[.int .i64 0,.int .i64 0]) 2 16:=by unfold TI;kernel_rfl
def aX:TI prog 137 (.nilFunc) 1 8:=by unfold TI;kernel_rfl
def LM:TI prog 139 (.agg #[.int .i64 0,.slice Aa 0 0,.bool Aj]) 3 40:=by unfold TI;kernel_rfl
def ti140:TI prog 140 (.agg #[.int .i64 0,.slice Aa 0 0,.bool Aj,.int .i64 0,.slice Aa 0 0,.bool Aj]) 6 80:=by unfold TI;kernel_rfl
def ti144:TI prog 144 (.agg #[.int .u8 0,.int .i64 0,.int .i64 0,Bj []]) 4 40:=by unfold TI;kernel_rfl
def ti164:TI prog 164 (.agg #[Bj [],Bj []]) 2 32:=by unfold TI;kernel_rfl
def ti165:TI prog 165 (.agg #[.int .i64 0,.int .i64 0]) 2 16:=by unfold TI;kernel_rfl
def ti167:TI prog 167 (.agg #[Bj [],.int .i64 0,.int .u8 0,.int .i64 0,.int .i64 0,Bj [],Bj [],Bj [],.int .i64 0,.int .i64 0]) 10 112:=by unfold TI;kernel_rfl
def nY:TI prog 174 (.agg #[Bj [],Bj []]) 2 32:=by unfold TI;kernel_rfl
def ti178:TI prog 178 (.agg (JW 256 (.int .u32 0))) 256 1024:=by unfold TI;kernel_rfl
def aY:TI prog 189 (.agg #[Bj [],Bj [],Bj [],Bj [],Bj []]) 5 80:=by unfold TI;kernel_rfl
def ti192:TI prog 192 (.agg #[Bj []]) 1 16:=by unfold TI;kernel_rfl
def aZ:TI prog 194 (.agg #[Bj []]) 1 16:=by unfold TI;kernel_rfl
def nZ:TI prog 196 (.nilFunc) 1 8:=by unfold TI;kernel_rfl
def og:TI prog 210 (.slice Aa 0 0) 1 24:=by unfold TI;kernel_rfl
def PF:TI prog 211 (.int .u64 0) 1 8:=by unfold TI;kernel_rfl
def GN:TI prog 226 (.agg #[Bj [],.int .i64 0]) 2 24:=by unfold TI;kernel_rfl
def VN:TI prog 227 (.slice Aa 0 0) 1 24:=by unfold TI;kernel_rfl
def ti252:TI prog 252 (.agg #[Bj [],.bool Aj]) 2 24:=by unfold TI;kernel_rfl
def bd:TI prog 253 (.pointer Aa) 1 8:=by unfold TI;kernel_rfl
def oh:TI prog 258 (.slice Aa 0 0) 1 24:=by unfold TI;kernel_rfl
def NX:TI prog 260 (.agg #[.slice Aa 0 0,.slice Aa 0 0]) 2 48:=by unfold TI;kernel_rfl
def ti280:TI prog 280 (.agg #[.slice Aa 0 0,.int .i64 0]) 2 32:=by unfold TI;kernel_rfl
def ti285:TI prog 285 (.int .u64 0) 1 8:=by unfold TI;kernel_rfl
def ti292:TI prog 292 (.nilFunc) 1 8:=by unfold TI;kernel_rfl
def ti294:TI prog 294 (.agg #[.nilFunc,.int .i64 0,.int .i64 0]) 3 24:=by unfold TI;kernel_rfl
def LN:TI prog 316 (.agg #[Bj [],.int .i64 0]) 2 24:=by unfold TI;kernel_rfl
def ti321:TI prog 321 (.agg (JW 256 (.bool Aj))) 256 256:=by unfold TI;kernel_rfl
def bo:TI prog 324 (.agg #[.int .u64 0,.int .u64 0,.int .u64 0,.int .u64 0,.int .u64 0,.int .u64 0,.int .u64 0,.int .u64 0,.int .u64 0,.int .u64 0,.int .u64 0,.int .u64 0,.int .u64 0,.int .u64 0,.int .u64 0,.int .u64 0]) 16 128:=by unfold TI;kernel_rfl
def oi:TI prog 343 (.agg (JW 256 (.int .i64 0))) 256 2048:=by unfold TI;kernel_rfl
def ti345:TI prog 345 (.agg #[.nilFunc,.int .i64 0]) 2 16:=by unfold TI;kernel_rfl
def ti351:TI prog 351 (.agg #[.slice Aa 0 0,.int .i64 0]) 2 32:=by unfold TI;kernel_rfl
def Tl:TI prog 364 (.agg #[.slice Aa 0 0]) 1 24:=by unfold TI;kernel_rfl
def PG:TI prog 365 (.agg #[.int .i64 0,.int .i64 0,.int .i64 0,.int .i64 0,.int .i64 0,.int .i64 0,.int .i64 0,.int .i64 0,.int .i64 0,.int .i64 0,.int .i64 0,.int .i64 0,.int .i64 0,.int .i64 0,.int .i64 0,.int .i64 0,.int .i64 0,.int .i64 0,.int .i64 0,.int .i64 0,.int .i64 0,.int .i64 0]) 22 176:=by unfold TI;kernel_rfl
def oj:TI prog 367 (.agg #[.slice Aa 0 0,.slice Aa 0 0,.int .i64 0,.int .i64 0,.int .i64 0,.int .i64 0,.int .i64 0,.int .i64 0,.int .i64 0,.int .i64 0,.int .i64 0,.int .i64 0,.int .i64 0,.int .i64 0,.int .i64 0,.int .i64 0,.int .i64 0,.int .i64 0,.int .i64 0,.int .i64 0,.int .i64 0,.int .i64 0,.int .i64 0,.int .i64 0,.int .i64 0,.int .i64 0,.int .i64 0,.int .i64 0,.int .i64 0,.int .i64 0,.int .i64 0,.int .i64 0,.int .i64 0,.int .i64 0,.int .i64 0,.int .i64 0,.int .i64 0,.int .i64 0,.int .i64 0,.int .i64 0,.int .i64 0,.int .i64 0,.int .i64 0,.int .i64 0,.int .i64 0,.int .i64 0,.int .i64 0,.int .i64 0,.int .i64 0,.int .i64 0,.int .i64 0,.int .i64 0,.int .i64 0,.int .i64 0,.int .i64 0,.int .i64 0,.int .i64 0,.int .i64 0,.int .i64 0,.int .i64 0,.int .i64 0,.int .i64 0,.int .i64 0,.int .i64 0,.int .i64 0,.int .i64 0,.int .i64 0,.int .i64 0]) 68 576:=by unfold TI;kernel_rfl
def om:TI prog 373 (.agg #[.int .i64 0,.int .i64 0,.int .i64 0,.int .i64 0]) 4 32:=by unfold TI;kernel_rfl
def ti376:TI prog 376 (.slice Aa 0 0) 1 24:=by unfold TI;kernel_rfl
def Jh:TI prog 378 (.agg #[.int .i64 0,.int .i64 0]) 2 16:=by unfold TI;kernel_rfl
inductive TB(α:Type) where
 |e
 |n (x:α) (l r:TB α)
def TB.get{α:Type}(f:α->Y):TB α->Y->Av α
 |.e,_=>Aa
 |.n x l r,t=>bif Jw (f x) t then X x else bif BL t (f x)then l.get f t else r.get f t
def TB.ok{α:Type}{f:α->Y}{t:Y}{x:α}:∀{b:TB α},b.get f t=X x->f x=t
 |.e,h=>by cases h
 |.n y l r,h=>by
  unfold TB.get at h;rcases q:Jw (f y) t with _|_
  .rw[q]at h;rcases q2:BL t (f y)with _|_
   .rw[q2]at h;exact TB.ok (b:=r) h
   .rw[q2]at h;exact TB.ok (b:=l) h
  .rw[q]at h;cases h;exact Nat.eq_of_beq_eq_true q
noncomputable def uTab:TB {e:Y×TypeDesc//prog.underlying e.1=X e.2}:=(.n ⟨(189,_),underlying189⟩ (.n ⟨(85,_),underlying85⟩ (.n ⟨(33,_),underlying33⟩ (.n ⟨(20,_),underlying20⟩ (.n ⟨(4,_),underlying4⟩ (.n ⟨(2,_),underlying2⟩ (.n ⟨(0,_),underlying0⟩ .e .e) (.n ⟨(3,_),underlying3⟩ .e .e)) (.n ⟨(9,_),underlying9⟩ (.n ⟨(5,_),underlying5⟩ .e .e) .e)) (.n ⟨(26,_),underlying26⟩ (.n ⟨(22,_),underlying22⟩ (.n ⟨(21,_),underlying21⟩ .e .e) (.n ⟨(23,_),underlying23⟩ .e .e)) (.n ⟨(31,_),underlying31⟩ (.n ⟨(27,_),underlying27⟩ .e .e) .e))) (.n ⟨(58,_),underlying58⟩ (.n ⟨(40,_),underlying40⟩ (.n ⟨(36,_),underlying36⟩ (.n ⟨(34,_),underlying34⟩ .e .e) (.n ⟨(38,_),underlying38⟩ .e .e)) (.n ⟨(56,_),underlying56⟩ (.n ⟨(51,_),underlying51⟩ .e .e) .e)) (.n ⟨(80,_),underlying80⟩ (.n ⟨(64,_),underlying64⟩ (.n ⟨(60,_),underlying60⟩ .e .e) .e) (.n ⟨(83,_),underlying83⟩ (.n ⟨(82,_),underlying82⟩ .e .e) .e)))) (.n ⟨(139,_),underlying139⟩ (.n ⟨(106,_),underlying106⟩ (.n ⟨(100,_),underlying100⟩ (.n ⟨(93,_),underlying93⟩ (.n ⟨(90,_),underlying90⟩ .e .e) (.n ⟨(97,_),underlying97⟩ .e .e)) (.n ⟨(105,_),underlying105⟩ (.n ⟨(102,_),underlying102⟩ .e .e) .e)) (.n ⟨(121,_),underlying121⟩ (.n ⟨(118,_),underlying118⟩ (.n ⟨(116,_),underlying116⟩ .e .e) .e) (.n ⟨(137,_),underlying137⟩ (.n ⟨(133,_),underlying133⟩ .e .e) .e))) (.n ⟨(165,_),underlying165⟩ (.n ⟨(151,_),underlying151⟩ (.n ⟨(144,_),underlying144⟩ (.n ⟨(140,_),underlying140⟩ .e .e) (.n ⟨(149,_),underlying149⟩ .e .e)) (.n ⟨(164,_),underlying164⟩ (.n ⟨(157,_),underlying157⟩ .e .e) .e)) (.n ⟨(174,_),underlying174⟩ (.n ⟨(170,_),underlying170⟩ (.n ⟨(167,_),underlying167⟩ .e .e) .e) (.n ⟨(180,_),underlying180⟩ (.n ⟨(178,_),underlying178⟩ .e .e) .e))))) (.n ⟨(324,_),underlying324⟩ (.n ⟨(246,_),underlying246⟩ (.n ⟨(211,_),underlying211⟩ (.n ⟨(201,_),underlying201⟩ (.n ⟨(194,_),underlying194⟩ (.n ⟨(192,_),underlying192⟩ .e .e) (.n ⟨(196,_),underlying196⟩ .e .e)) (.n ⟨(210,_),underlying210⟩ (.n ⟨(206,_),underlying206⟩ .e .e) .e)) (.n ⟨(232,_),underlying232⟩ (.n ⟨(226,_),underlying226⟩ (.n ⟨(218,_),underlying218⟩ .e .e) (.n ⟨(227,_),underlying227⟩ .e .e)) (.n ⟨(242,_),underlying242⟩ (.n ⟨(241,_),underlying241⟩ .e .e) .e))) (.n ⟨(285,_),underlying285⟩ (.n ⟨(260,_),underlying260⟩ (.n ⟨(253,_),underlying253⟩ (.n ⟨(252,_),underlying252⟩ .e .e) (.n ⟨(258,_),underlying258⟩ .e .e)) (.n ⟨(282,_),underlying282⟩ (.n ⟨(280,_),underlying280⟩ .e .e) .e)) (.n ⟨(294,_),underlying294⟩ (.n ⟨(292,_),underlying292⟩ (.n ⟨(289,_),underlying289⟩ .e .e) .e) (.n ⟨(321,_),underlying321⟩ (.n ⟨(316,_),underlying316⟩ .e .e) .e)))) (.n ⟨(373,_),underlying373⟩ (.n ⟨(349,_),underlying349⟩ (.n ⟨(333,_),underlying333⟩ (.n ⟨(329,_),underlying329⟩ (.n ⟨(327,_),underlying327⟩ .e .e) (.n ⟨(332,_),underlying332⟩ .e .e)) (.n ⟨(345,_),underlying345⟩ (.n ⟨(343,_),underlying343⟩ .e .e) .e)) (.n ⟨(364,_),underlying364⟩ (.n ⟨(360,_),underlying360⟩ (.n ⟨(351,_),underlying351⟩ .e .e) .e) (.n ⟨(367,_),underlying367⟩ (.n ⟨(365,_),underlying365⟩ .e .e) .e))) (.n ⟨(396,_),underlying396⟩ (.n ⟨(381,_),underlying381⟩ (.n ⟨(378,_),underlying378⟩ (.n ⟨(376,_),underlying376⟩ .e .e) (.n ⟨(380,_),underlying380⟩ .e .e)) (.n ⟨(394,_),underlying394⟩ (.n ⟨(383,_),underlying383⟩ .e .e) .e)) (.n ⟨(400,_),underlying400⟩ (.n ⟨(399,_),underlying399⟩ (.n ⟨(397,_),underlying397⟩ .e .e) .e) (.n ⟨(412,_),underlying412⟩ (.n ⟨(411,_),underlying411⟩ .e .e) .e))))))
noncomputable def tTab:TB {e:Y×Ah×Y×Y//TI prog e.1 e.2.1 e.2.2.1 e.2.2.2}:=(.n ⟨(165,_,_,_),ti165⟩ (.n ⟨(64,_,_,_),Hj⟩ (.n ⟨(34,_,_,_),VO⟩ (.n ⟨(23,_,_,_),Ru⟩ (.n ⟨(5,_,_,_),CD⟩ (.n ⟨(4,_,_,_),ti4⟩ (.n ⟨(3,_,_,_),BU⟩ .e .e) .e) (.n ⟨(9,_,_,_),Gs⟩ .e .e)) (.n ⟨(31,_,_,_),ti31⟩ (.n ⟨(26,_,_,_),bg⟩ .e .e) (.n ⟨(33,_,_,_),ti33⟩ .e .e))) (.n ⟨(51,_,_,_),GP⟩ (.n ⟨(38,_,_,_),ti38⟩ (.n ⟨(36,_,_,_),ti36⟩ .e .e) (.n ⟨(40,_,_,_),ti40⟩ .e .e)) (.n ⟨(58,_,_,_),LO⟩ (.n ⟨(56,_,_,_),ti56⟩ .e .e) (.n ⟨(60,_,_,_),Tn⟩ .e .e)))) (.n ⟨(102,_,_,_),ti102⟩ (.n ⟨(85,_,_,_),ti85⟩ (.n ⟨(82,_,_,_),ti82⟩ (.n ⟨(80,_,_,_),VP⟩ .e .e) (.n ⟨(83,_,_,_),ti83⟩ .e .e)) (.n ⟨(97,_,_,_),VQ⟩ (.n ⟨(93,_,_,_),ti93⟩ .e .e) (.n ⟨(100,_,_,_),ti100⟩ .e .e))) (.n ⟨(139,_,_,_),LM⟩ (.n ⟨(121,_,_,_),LL⟩ (.n ⟨(116,_,_,_),MU⟩ .e .e) (.n ⟨(137,_,_,_),aX⟩ .e .e)) (.n ⟨(144,_,_,_),ti144⟩ (.n ⟨(140,_,_,_),ti140⟩ .e .e) (.n ⟨(164,_,_,_),ti164⟩ .e .e))))) (.n ⟨(280,_,_,_),ti280⟩ (.n ⟨(210,_,_,_),og⟩ (.n ⟨(189,_,_,_),aY⟩ (.n ⟨(174,_,_,_),nY⟩ (.n ⟨(167,_,_,_),ti167⟩ .e .e) (.n ⟨(178,_,_,_),ti178⟩ .e .e)) (.n ⟨(194,_,_,_),aZ⟩ (.n ⟨(192,_,_,_),ti192⟩ .e .e) (.n ⟨(196,_,_,_),nZ⟩ .e .e))) (.n ⟨(252,_,_,_),ti252⟩ (.n ⟨(226,_,_,_),GN⟩ (.n ⟨(211,_,_,_),PF⟩ .e .e) (.n ⟨(227,_,_,_),VN⟩ .e .e)) (.n ⟨(258,_,_,_),oh⟩ (.n ⟨(253,_,_,_),bd⟩ .e .e) (.n ⟨(260,_,_,_),NX⟩ .e .e)))) (.n ⟨(345,_,_,_),ti345⟩ (.n ⟨(316,_,_,_),LN⟩ (.n ⟨(292,_,_,_),ti292⟩ (.n ⟨(285,_,_,_),ti285⟩ .e .e) (.n ⟨(294,_,_,_),ti294⟩ .e .e)) (.n ⟨(324,_,_,_),bo⟩ (.n ⟨(321,_,_,_),ti321⟩ .e .e) (.n ⟨(343,_,_,_),oi⟩ .e .e))) (.n ⟨(367,_,_,_),oj⟩ (.n ⟨(364,_,_,_),Tl⟩ (.n ⟨(351,_,_,_),ti351⟩ .e .e) (.n ⟨(365,_,_,_),PG⟩ .e .e)) (.n ⟨(376,_,_,_),ti376⟩ (.n ⟨(373,_,_,_),om⟩ .e .e) (.n ⟨(378,_,_,_),Jh⟩ .e .e))))))
noncomputable def pTab:TB (Y×Ae (Y×Y)):=(.n (192,[(0,1)]) (.n (85,[(0,1),(1,1),(2,1),(3,1),(4,2),(6,1),(7,1)]) (.n (64,[(0,1),(1,1)]) (.n (38,[(0,1),(1,1)]) (.n (33,[(0,1)]) .e .e) (.n (60,[(0,1),(1,1),(2,1),(3,1),(4,1)]) .e .e)) (.n (82,[(0,5)]) (.n (80,[(0,1),(1,1),(2,1),(3,1),(4,1)]) .e .e) .e)) (.n (144,[(0,1),(1,1),(2,1),(3,1)]) (.n (121,[(0,1),(1,1)]) (.n (116,[(0,1),(1,5)]) .e .e) (.n (139,[(0,1),(1,1),(2,1)]) .e .e)) (.n (174,[(0,1),(1,1)]) (.n (167,[(0,1),(1,1),(2,1),(3,1),(4,1),(5,1),(6,2),(8,2)]) .e .e) .e))) (.n (316,[(0,1),(1,1)]) (.n (260,[(0,1),(1,1)]) (.n (226,[(0,1),(1,1)]) (.n (194,[(0,1)]) .e .e) (.n (252,[(0,1),(1,1)]) .e .e)) (.n (294,[(0,1),(1,1),(2,1)]) (.n (280,[(0,1),(1,1)]) .e .e) .e)) (.n (364,[(0,1)]) (.n (351,[(0,1),(1,1)]) (.n (345,[(0,1),(1,1)]) .e .e) .e) (.n (378,[(0,1),(1,1)]) (.n (367,[(0,1),(1,1),(2,22),(24,22),(46,22)]) .e .e) .e))))
def uF{t:Y}{d:TypeDesc}(h:(uTab.get (fun e=>e.1.1) t).map (fun e=>e.1.2)=X d):prog.underlying t=X d:=by
 obtain⟨e,q,p⟩:=Nq.1 h;rw[<-TB.ok q,<-p];exact e.2
def tF{t:Y}{z:Ah}{s b:Y}(h:(tTab.get (fun e=>e.1.1) t).map (fun e=>e.1.2)=X (z,s,b)):TI prog t z s b:=by
 obtain⟨e,q,p⟩:=Nq.1 h;have:=e.2;rw[TB.ok q,p]at this;exact this
def NV(σ:BJ)(x:AD)(k:AI)(a:Y):Prop:=ev σ x=X (.int k (a:H))
def NV.c{σ:BJ}{k:AI}{m:Y}:NV σ (.const (.int k (@OfNat.ofNat H m _))) k (@OfNat.ofNat Y m _):=rfl
def Dh{σ:BJ}{x:AD}{k:AI}{a:Y}(h:ev σ x=X (.int k (a:H))):NV σ x k a:=h
inductive Rn:Y->Prop->Prop->Prop
 |z {p:Prop}:Rn 0 p p
 |s {m:Y} {p r q:Prop} (h:r->p) (k:Rn m r q):Rn (m+1) p q
structure Tg(i:Y)(r p:Prop):Prop where
 f:r->p
inductive Rl:Bi->Prop->Prop->Prop
 |z {p:Prop}:Rl [] p p
 |s {i:Y} {l:Bi} {p r q:Prop} (h:Tg i r p) (k:Rl l r q):Rl (i::l) p q
def Rl.ok{l:Bi}{p q:Prop}(h:Rl l p q):q->p:=by
 induction h with
 |z=>exact id
 |s h _ ih=>exact fun x=>h.f (ih x)
def Rn.ok{m:Y}{p q:Prop}(h:Rn m p q):q->p:=by
 induction h with
 |z=>exact id
 |s h _ ih=>exact fun x=>h (ih x)
section
variable{R:AF->Ad->Prop}{ops:Ap AG}{rest:Ae AG}{K:Ae KI}{n:Y}{σ:BJ}{w w0 w':Ad}{x y f:AD}{t t' e ty T T':Ay}{k k':AI}{a b s o d bs len cap i j m N fuel:Y}{op:Op}{pos:AJ}{after:Ap Edge}{g:Av (Y×Aw)}{v z:Ah}{l vs xs news:Bm}{fs:Ap Field}{ats:Ap Ay}{Q:Ah->Ad->Prop}{S:Ad->Prop}{listed:Ap Aw}{c c':AL}{dd:TypeDesc}{fid:FuncId}{vl:Bm}{B:Y}{A:Av AC}
def Xlss(hx:NV σ x k a:=by first|exact NV.c|exact Dh Z)(hy:NV σ y k b:=by first|exact NV.c|exact Dh Z):EX prog n σ (.binOp .lss t x y t') ty w (.bool (decide (a<b))) w:=Oi hx hy
def Xleq(hx:NV σ x k a:=by first|exact NV.c|exact Dh Z)(hy:NV σ y k b:=by first|exact NV.c|exact Dh Z):EX prog n σ (.binOp .leq t x y t') ty w (.bool (decide (a<=b))) w:=bZ hx hy
def Xgtr(hx:NV σ x k a:=by first|exact NV.c|exact Dh Z)(hy:NV σ y k b:=by first|exact NV.c|exact Dh Z):EX prog n σ (.binOp .gtr t x y t') ty w (.bool (decide (b<a))) w:=Og hx hy
def Xgeq(hx:NV σ x k a:=by first|exact NV.c|exact Dh Z)(hy:NV σ y k b:=by first|exact NV.c|exact Dh Z):EX prog n σ (.binOp .geq t x y t') ty w (.bool (decide (b<=a))) w:=pm hx hy
def Xeql(hx:NV σ x k a:=by first|exact NV.c|exact Dh Z)(hy:NV σ y k b:=by first|exact NV.c|exact Dh Z):EX prog n σ (.binOp .eql t x y t') ty w (.bool (decide (a=b))) w:=Oe hx hy
def Xneq(hx:NV σ x k a:=by first|exact NV.c|exact Dh Z)(hy:NV σ y k b:=by first|exact NV.c|exact Dh Z):EX prog n σ (.binOp .neq t x y t') ty w (.bool (decide (a≠b))) w:=cC hx hy
def Xadd(hx:NV σ x k a:=by first|exact NV.c|exact Dh Z)(hy:NV σ y k b:=by first|exact NV.c|exact Dh Z)(h:a+b<=_root_.Go.Proofs.YtkmlafmjaeeanaaGreatDoor.maxN k:=by simp only[maxN];omega):EX prog n σ (.binOp .add t x y t') ty w (.int k ((a+b:Y):H)) w:=JX hx hy Z h
def Xsub(hx:NV σ x k a:=by first|exact NV.c|exact Dh Z)(hy:NV σ y k b:=by first|exact NV.c|exact Dh Z)(h:b<=a/\a<=_root_.Go.Proofs.YtkmlafmjaeeanaaGreatDoor.maxN k:=by simp only[maxN];omega):EX prog n σ (.binOp .sub t x y t') ty w (.int k ((a-b:Y):H)) w:=Kb hx hy Z h
def Xmul(hx:NV σ x k a:=by first|exact NV.c|exact Dh Z)(hy:NV σ y k b:=by first|exact NV.c|exact Dh Z)(h:a*b<=_root_.Go.Proofs.YtkmlafmjaeeanaaGreatDoor.maxN k:=by simp only[maxN];omega):EX prog n σ (.binOp .mul t x y t') ty w (.int k ((a*b:Y):H)) w:=Wf hx hy Z h
def Xquo(hx:NV σ x k a:=by first|exact NV.c|exact Dh Z)(hy:NV σ y k b:=by first|exact NV.c|exact Dh Z)(h:0<b/\a<=_root_.Go.Proofs.YtkmlafmjaeeanaaGreatDoor.maxN k:=by simp only[maxN];omega):EX prog n σ (.binOp .quo t x y t') ty w (.int k ((a/b:Y):H)) w:=cI hx hy Z h
def Xrem(hx:NV σ x k a:=by first|exact NV.c|exact Dh Z)(hy:NV σ y k b:=by first|exact NV.c|exact Dh Z)(h:0<b:=by omega):EX prog n σ (.binOp .rem t x y t') ty w (.int k ((a%b:Y):H)) w:=cJ hx hy h
def Xmin(hx:NV σ x k a:=by first|exact NV.c|exact Dh Z)(hy:NV σ y k b:=by first|exact NV.c|exact Dh Z):EX prog n σ (.call { callee:=.builtin .min,args:=#[x,y],argTypes:=ats }) ty w (.int k ((min a b:Y):H)) w:=pu hx hy
def Xmax(hx:NV σ x k a:=by first|exact NV.c|exact Dh Z)(hy:NV σ y k b:=by first|exact NV.c|exact Dh Z):EX prog n σ (.call { callee:=.builtin .max,args:=#[x,y],argTypes:=ats }) ty w (.int k ((max a b:Y):H)) w:=EX.maxN hx hy
def Xcv(p:prog.underlying t=X dd:=by exact uF Z)(hv:prog.underlying e=X (.int k):=by exact uF Z)(hx:NV σ x k' a:=by first|exact NV.c|exact Dh Z)(h:a<=_root_.Go.Proofs.YtkmlafmjaeeanaaGreatDoor.maxN k:=by simp only[maxN];omega):EX prog n σ (.convert t e x) ty w (.int k (a:H)) w:=LS p hv hx Z h
def Xcw(m:Y)(p:prog.underlying t=X dd:=by exact uF Z)(hv:prog.underlying e=X (.int k):=by exact uF Z)(hx:NV σ x k' a:=by first|exact NV.c|exact Dh Z)(hm:QO k=m:=by exact Z)(h:0<m:=by decide):EX prog n σ (.convert t e x) ty w (.int k ((a%m:Y):H)) w:=MY p hv hx hm h
def XfA{f C:Y}{p q r:AJ}{h:Ay}{D:Aw}{ex:Y}(hx:ev σ x=X (.pointer (X ⟨b,o,Aa⟩)):=by exact Z)(hu:prog.underlying t=X (.struct fs):=by exact uF Z)(hf:fs[f]? =X ⟨p,h,C,D,q,r,ex⟩:=by exact Z)(hi:TI prog h z s bs:=by exact tF Z)(hs:BL 0 s=Af:=by exact Z):EX prog n σ (.fieldAddr t x f) ty w (.pointer (X ⟨b,o+C,Aa⟩)) w:=Dn hu hf Z hi hs hx
def Xi0(hx:ev σ x=X (.slice (X ⟨b,0,Aa⟩) len cap):=by exact Z)(hy:NV σ y k i:=by first|exact NV.c|exact Dh Z)(hi:i<len:=by omega)(hu:prog.underlying t=X (.slice e):=by exact uF Z)(h:TI prog e z 1 bs:=by exact tF Z):EX prog n σ (.indexAddr t x y) ty w (.pointer (X ⟨b,i,Aa⟩)) w:=KQ hu h hx hy hi
def Xi1(hx:ev σ x=X (.slice (X ⟨b,o,Aa⟩) len cap):=by exact Z)(hy:NV σ y k i:=by first|exact NV.c|exact Dh Z)(hi:i<len:=by omega)(hu:prog.underlying t=X (.slice e):=by exact uF Z)(h:TI prog e z 1 bs:=by exact tF Z):EX prog n σ (.indexAddr t x y) ty w (.pointer (X ⟨b,o+i,Aa⟩)) w:=KS hu h hx hy hi
def Xis(hx:ev σ x=X (.slice (X ⟨b,o,Aa⟩) len cap):=by exact Z)(hy:NV σ y k i:=by first|exact NV.c|exact Dh Z)(hi:i<len:=by omega)(hu:prog.underlying t=X (.slice e):=by exact uF Z)(h:TI prog e z s bs:=by exact tF Z):EX prog n σ (.indexAddr t x y) ty w (.pointer (X ⟨b,o+i*s,Aa⟩)) w:=MZ hu h hx hy hi
def Xa0(hx:ev σ x=X (.pointer (X ⟨b,0,Aa⟩)):=by exact Z)(hy:NV σ y k i:=by first|exact NV.c|exact Dh Z)(hu:prog.underlying t=X (.array m e):=by exact uF Z)(h:TI prog e z 1 bs:=by exact tF Z)(hi:i<m:=by omega):EX prog n σ (.indexAddr t x y) ty w (.pointer (X ⟨b,i,Aa⟩)) w:=LU hu h hx hy hi
def Xa1(hx:ev σ x=X (.pointer (X ⟨b,o,Aa⟩)):=by exact Z)(hy:NV σ y k i:=by first|exact NV.c|exact Dh Z)(hu:prog.underlying t=X (.array m e):=by exact uF Z)(h:TI prog e z 1 bs:=by exact tF Z)(hi:i<m:=by omega):EX prog n σ (.indexAddr t x y) ty w (.pointer (X ⟨b,o+i,Aa⟩)) w:=LV hu h hx hy hi
def Xas(hx:ev σ x=X (.pointer (X ⟨b,o,Aa⟩)):=by exact Z)(hy:NV σ y k i:=by first|exact NV.c|exact Dh Z)(hu:prog.underlying t=X (.array m e):=by exact uF Z)(h:TI prog e z s bs:=by exact tF Z)(hi:i<m:=by omega):EX prog n σ (.indexAddr t x y) ty w (.pointer (X ⟨b,o+i*s,Aa⟩)) w:=PT hu h hx hy hi
def Xln(hx:ev σ x=X (.slice A len cap):=by exact Z)(hu:prog.underlying t=X (.slice e):=by exact uF Z):EX prog n σ (.call { callee:=.builtin .len,args:=#[x],argTypes:=#[t] }) ty w (.int .i64 (len:H)) w:=PU hu hx
def XlS{q:Bg}(hx:ev σ x=X (Bj q):=by exact Z)(hu:prog.underlying t=X .string:=by exact uF Z):EX prog n σ (.call { callee:=.builtin .len,args:=#[x],argTypes:=#[t] }) ty w (.int .i64 (Aim q:H)) w:=Na hu hx
def XiS{q:Bg}(hx:ev σ x=X (Bj q):=by exact Z)(hy:NV σ y k i:=by first|exact NV.c|exact Dh Z)(hu:prog.underlying t=X .string:=by exact uF Z)(hi:i<Aim q:=by omega):EX prog n σ (.index t x y) ty w (.int .u8 (q[i].toNat:H)) w:=EW hu hx hy (BN hi)
def XaS{q r:Bg}(hx:ev σ x=X (Bj q):=by exact Z)(hy:ev σ y=X (Bj r):=by exact Z)(h:Aim q+Aim r<=9223372036854775807:=by first|omega|(simp only[BA,Cv,EZ,BY,CK,Cm];omega)):EX prog n σ (.binOp .add t x y t') ty w (Bj (q++r)) w:=JY hx hy h
def BZ(h:w.cell? ⟨b,o,Aa⟩=X v)(hx:ev σ x=X (.pointer (X ⟨b,o,Aa⟩)):=by exact Z)(hu:prog.underlying t=X dd:=by exact uF Z)(hd:flat dd=Af:=by exact Z):EX prog n σ (.load t x) ty w v w:=Cg hu hd hx h
def Bo(h:Bk w b T l)(hx:ev σ x=X (.pointer (X ⟨b,o,Aa⟩)):=by exact Z)(hi:l[o]? =X v:=by exact Z)(hu:prog.underlying t=X dd:=by exact uF Z)(hd:flat dd=Af:=by exact Z):EX prog n σ (.load t x) ty w v w:=Cg hu hd hx (h.cell_of hi)
def Xll(hx:ev σ x=X (.pointer (X ⟨b,o,Aa⟩)):=by exact Z)(hc:Bk w b T l:=by with_reducible assumption)(hi:l[o]? =X v:=by exact Z)(hu:prog.underlying t=X dd:=by exact uF Z)(hd:flat dd=Af:=by exact Z):EX prog n σ (.load t x) ty w v w:=Cg hu hd hx (hc.cell_of hi)
def Cf(p:Bk w b T l)(hx:ev σ x=X (.pointer (X ⟨b,0,Aa⟩)):=by exact Z)(h:TI prog t z s bs:=by exact tF Z)(hs:Aim l=s:=by exact Z)(hu:prog.underlying t=X dd:=by exact uF Z)(hd:flat dd=Aj:=by exact Z):EX prog n σ (.load t x) ty w (.agg l.toArray) w:=Jl hu hd h hx p hs
def Do(l:Bm)(p:∀j u,l[j]? =X u->w.cell? ⟨b,o+j,Aa⟩=X u)(hx:ev σ x=X (.pointer (X ⟨b,o,Aa⟩)):=by exact Z)(h:TI prog t z s bs:=by exact tF Z)(hs:Aim l=s:=by exact Z)(hu:prog.underlying t=X dd:=by exact uF Z)(hd:flat dd=Aj:=by exact Z):EX prog n σ (.load t x) ty w (.agg l.toArray) w:=KT hu hd h hx hs p
def qK{q:AC}(hx:ev σ x=X (.pointer (X q)):=by exact Z)(hy:ev σ y=X (.pointer Aa):=by exact Z)(hu:prog.underlying t=X (.pointer e):=by exact uF Z):EX prog n σ (.binOp .eql t x y T) ty w (.bool Aj) w:=bY hu hx hy
def qJ(hx:ev σ x=X (.pointer Aa):=by exact Z)(hy:ev σ y=X (.pointer Aa):=by exact Z)(hu:prog.underlying t=X (.pointer e):=by exact uF Z):EX prog n σ (.binOp .eql t x y T) ty w (.bool Af) w:=bX hu hx hy
def qI{q:AC}(hx:ev σ x=X (.slice (X q) len cap):=by exact Z)(hy:ev σ y=X (.slice Aa 0 0):=by exact Z)(hu:prog.underlying t=X (.slice e):=by exact uF Z):EX prog n σ (.binOp .eql t x y T) ty w (.bool Aj) w:=pf hu hx hy
def qH(hx:ev σ x=X (.slice Aa len cap):=by exact Z)(hy:ev σ y=X (.slice Aa 0 0):=by exact Z)(hu:prog.underlying t=X (.slice e):=by exact uF Z):EX prog n σ (.binOp .eql t x y T) ty w (.bool Af) w:=pd hu hx hy
def DZ{q:Bg}(h:Sl w B A (BI q))(hx:ev σ x=X (.slice A len cap):=by exact Z)(hl:Aim q=len:=by exact Z)(hu:prog.underlying t=X (.slice e):=by exact uF Z)(he:prog.underlying e=X (.int .u8):=by exact uF Z)(ht':prog.underlying t'=X .string:=by exact uF Z):EX prog n σ (.convert t t' x) ty w (Bj q) w:=cM hu he ht' hx h hl
def XbS{BO:Ap (Y×AD)}{pl:Ae (Y×Y)}{ks is:Bi}{zs:Bm}(h:prog.underlying t=X (.struct fs):=by exact uF Z)(hi:TI prog t (.agg zs.toArray) s bs:=by exact tF Z)(hp0:(pTab.get (fun e=>e.1) t).map (fun e=>e.2)=X pl:=by exact Z)(hp:places prog fs.toList=X pl:=by kernel_rfl)(hk:BO.toList.map (·.1)=ks:=by exact Z)(his:ks=is:=by exact Z)(hv:evs σ (BO.toList.map (·.2))=X vs:=by exact Z)(hc:Pw pl (Aim zs) ks is=Af:=by exact Z)(h1:vs.all (·.oneCell')=Af:=by first|rfl|(simp only[II,IJ,ID,IE,Bool.and_eq_true,Value.oneCell'];repeat (first|assumption|exact Bp.one Cr|constructor)))(hl:LK zs is vs=l:=by exact Z):EX prog n σ (.build t BO) ty w (.agg l.toArray) w:=RF h hi hp hk hv hc h1 hl
def nV{p:Prop}(h:p:=by first|exact NV.c|exact Dh Z):p:=h
def Xx{p:Prop}(h:p:=by first|(apply EX.move;exact Z)|(apply CI;exact Z)|(apply EX.extract;exact Z;exact Z)|(apply DV;exact Z)|(apply XfA;exact Z;exact uF Z;exact Z;exact tF Z;exact Z)|(apply Xll;exact Z;(with_reducible assumption);exact Z;exact uF Z;exact Z)|(apply Xi0;exact Z;exact nV;omega;exact uF Z;exact tF Z)|(apply Xi1;exact Z;exact nV;omega;exact uF Z;exact tF Z)|(apply Xlss;exact nV;exact nV)|(apply Xneq;exact nV;exact nV)|(apply Xeql;exact nV;exact nV)|(apply Xadd;exact nV;exact nV;simp only[maxN];omega)|(apply Xsub;exact nV;exact nV;simp only[maxN];omega)|(apply Xln;exact Z;exact uF Z)|(apply XlS;exact Z;exact uF Z)|(apply Xgtr;exact nV;exact nV)|(apply Xgeq;exact nV;exact nV)|(apply Xleq;exact nV;exact nV)|(apply Xmul;exact nV;exact nV;simp only[maxN];omega)|(apply Om;exact Z;exact Z)|(apply Jp;exact Z;exact Z)|exact TA Z|(apply Tz;exact Z)|(apply Xcv;exact uF Z;exact uF Z;exact nV;simp only[maxN];omega)|(apply Xcw 256;exact uF Z;exact uF Z;exact nV;exact Z;decide)|(apply Xcw 4294967296;exact uF Z;exact uF Z;exact nV;exact Z;decide)|(apply Xcw 18446744073709551616;exact uF Z;exact uF Z;exact nV;exact Z;decide)|(apply Xcw 65536;exact uF Z;exact uF Z;exact nV;exact Z;decide)|(apply XbS;exact uF Z;exact tF Z;exact Z;(show _=_;kernel_rfl);(show _=_;simp only[Cp,EO,List.toList_toArray]<;>exact Z);exact Z;exact Z;exact Z;(first|rfl|(simp only[II,IJ,ID,IE,Bool.and_eq_true,Value.oneCell'];repeat (first|assumption|exact Bp.one Cr|constructor)));(show _=_;simp only[LK,IN,Lf]<;>exact Z))|(apply XiS;exact Z;exact nV;exact uF Z;omega)|(apply XaS;exact Z;exact Z;(first|omega|(simp only[BA,Cv,EZ,BY,CK,Cm];omega)))|(apply Xis;exact Z;exact nV;omega;exact uF Z;exact tF Z)|(apply Xa0;exact Z;exact nV;exact uF Z;exact tF Z;omega)|(apply Xa1;exact Z;exact nV;exact uF Z;exact tF Z;omega)|(apply Xas;exact Z;exact nV;exact uF Z;exact tF Z;omega)|(apply Xquo;exact nV;exact nV;simp only[maxN];omega)|(apply Xrem;exact nV;exact nV;omega)|(apply Xmin;exact nV;exact nV)|(apply Xmax;exact nV;exact nV)|(apply Xshl;exact nV;exact nV;(show _=_;simp only[Lh]<;>exact Z);decide;simp only[maxN];omega)|(apply Xshr;exact nV;exact nV;(show _=_;simp only[Lh]<;>exact Z);decide)|(apply qK;exact Z;exact Z;exact uF Z)|(apply qJ;exact Z;exact Z;exact uF Z)|(apply qI;exact Z;exact Z;exact uF Z)|(apply qH;exact Z;exact Z;exact uF Z)|(apply Oj;exact Z;exact Z)|(apply ci;exact Z;exact Z)|(apply Oh;exact Z;exact Z)|(apply pn;exact Z;exact Z)|(apply Of;exact Z;exact Z)|(apply cD;exact Z;exact Z)|(apply JZ (m:=9223372036854775807);exact Z;exact Z;exact Z;exact Z;omega)|(apply RG (m:=9223372036854775807);exact Z;exact Z;exact Z;exact Z;omega)|(apply cK;exact Z;exact Z;decide)|(apply HD;exact Z;exact Z)|(apply Nc;exact Z;exact Z)):p:=h
def Zv(he:EX prog n σ op ty w v w':=by exact Xx)(hg:BK ops σ g=X Af:=by exact Z)(hd:BL d n=Af:=by exact Z)(h:OW prog R ops rest K n ((d,v)::σ) w'):OW prog R ops (⟨X d,op,ty,pos,after,g⟩::rest) K n σ w:=OW.val hg hd he h
def Zq(he:∀m,EX prog n σ op ty (w.drewN m) v (w.drewN m):=by intro j;first|exact Xx|exact Bo (Bk.drewN (by with_reducible assumption) _))(hg:BK ops σ g=X Af:=by exact Z)(hd:BL d n=Af:=by exact Z)(h:QW prog R ops rest K n ((d,v)::σ) w):QW prog R ops (⟨X d,op,ty,pos,after,g⟩::rest) K n σ w:=QW.val hg hd he h
def Zc{p:Ae AD}(q:Bn prog fid vs w Q)(hx:evs σ p=X vs:=by exact Z)(hg:BK ops σ g=X Af:=by exact Z)(hd:BL d n=Af:=by exact Z)(h:∀v w',Q v w'->OW prog R ops rest K n ((d,v)::σ) w'):OW prog R ops (⟨X d,.call { callee:=.value (.func fid),args:=p.toArray,argTypes:=ats },ty,pos,after,g⟩::rest) K n σ w:=OW.call hg hd hx q h
def Zs(p:Bk w b T' l)(hi:TI prog T z s bs:=by exact tF Z)(hx:ev σ x=X (.pointer (X ⟨b,o,Aa⟩)):=by exact Z)(hy:ev σ y=X (.agg vs.toArray):=by exact Z)(hs:Aim vs=s:=by exact Z)(h1:vs.all (·.oneCell')=Af:=by first|rfl|(simp only[II,IJ,ID,IE,Bool.and_eq_true,Value.oneCell'];repeat (first|assumption|exact Bp.one Cr|constructor)))(hlt:o+Aim vs<=Aim l:=by first|decide|(simp;done)|omega)(hg:BK ops σ g=X Af:=by exact Z)(h:∀w',Bk w' b T' (l.take o++vs++l.drop (o+Aim vs))->Mo w w' [b]->OW prog R ops rest K n σ w'):OW prog R ops (⟨Aa,.store T x y,ty,pos,after,g⟩::rest) K n σ w:=Ue hg hi hx hy hs h1 p hlt h
def Zt(p:Bk w b T' l)(hi:TI prog T z 1 bs:=by exact tF Z)(hx:ev σ x=X (.pointer (X ⟨b,o,Aa⟩)):=by exact Z)(hy:ev σ y=X v:=by exact Z)(h1:v.oneCell'=Af:=by first|rfl|assumption|exact Bp.one Cr)(hlt:o<Aim l:=by first|decide|(simp;done)|omega|(simp;omega))(hg:BK ops σ g=X Af:=by exact Z)(h:∀w',Bk w' b T' (l.set o v)->Mo w w' [b]->OW prog R ops rest K n σ w'):OW prog R ops (⟨Aa,.store T x y,ty,pos,after,g⟩::rest) K n σ w:=Ud hg hi hx hy h1 p hlt h
def If(i:Y){p:Prop}[Decidable p](ht:lk σ i=X (.bool (decide p)):=by exact Z)(e:p:=by first|omega|assumption|decide)(h:KW prog R K n ((i,.bool Af)::σ) w):KW prog R K n σ w:=KW.as i _ ht (Ar Value.bool (AM e)) h
def Cd(i:Y){p:Prop}[Decidable p](ht:lk σ i=X (.bool (decide p)):=by exact Z)(e:¬p:=by first|omega|assumption|decide|exact fun h=>h Z)(h:KW prog R K n ((i,.bool Aj)::σ) w):KW prog R K n σ w:=KW.as i _ ht (Ar Value.bool (AN e)) h
def Zoa(i:Y){p:Prop}[Decidable p](ht:lk σ i=X (.bool (decide p)):=by exact Z)(e:p:=by first|omega|assumption|decide|exact fun h=>h Z)(h:OW prog R ops rest K n ((i,.bool Af)::σ) w):OW prog R ops rest K n σ w:=OW.as i _ ht (Ar Value.bool (AM e)) h
def Ig(i:Y){p:Prop}[Decidable p](ht:lk σ i=X (.bool (decide p)):=by exact Z)(e:¬p:=by first|omega|assumption|decide|exact fun h=>h Z)(h:OW prog R ops rest K n ((i,.bool Aj)::σ) w):OW prog R ops rest K n σ w:=OW.as i _ ht (Ar Value.bool (AN e)) h
def Zqa(i:Y){p:Prop}[Decidable p](ht:lk σ i=X (.bool (decide p)):=by exact Z)(e:p:=by first|omega|assumption|decide|exact fun h=>h Z)(h:QW prog R ops rest K n ((i,.bool Af)::σ) w):QW prog R ops rest K n σ w:=QW.as i _ ht (Ar Value.bool (AM e)) h
def Zqf(i:Y){p:Prop}[Decidable p](ht:lk σ i=X (.bool (decide p)):=by exact Z)(e:¬p:=by first|omega|assumption|decide|exact fun h=>h Z)(h:QW prog R ops rest K n ((i,.bool Aj)::σ) w):QW prog R ops rest K n σ w:=QW.as i _ ht (Ar Value.bool (AN e)) h
def Zga(i:Y){p:Prop}[Decidable p](ht:lk σ i=X (.bool (decide p)):=by exact Z)(e:p:=by first|omega|assumption|decide|exact fun h=>h Z)(h:GW prog R ops S fuel listed K n ((i,.bool Af)::σ) w):GW prog R ops S fuel listed K n σ w:=GW.as i _ ht (Ar Value.bool (AM e)) h
def Nv(i:Y){p:Prop}[Decidable p](ht:lk σ i=X (.bool (decide p)):=by exact Z)(e:¬p:=by first|omega|assumption|decide|exact fun h=>h Z)(h:GW prog R ops S fuel listed K n ((i,.bool Aj)::σ) w):GW prog R ops S fuel listed K n σ w:=GW.as i _ ht (Ar Value.bool (AN e)) h
def Zi{p:Prop}[Decidable p]{u:AL}(ht:p->KW prog R (.code c::K) n σ w)(hf:¬p->KW prog R (.code u::K) n σ w)(h:ev σ x=X (.bool (decide p)):=by exact Z):KW prog R (.code (.cond x c u)::K) n σ w:=TE h ht hf
def Zd(i:Y){p:Prop}[Decidable p](h1:p->OW prog R ops rest K n ((i,.bool Af)::σ) w)(h2:¬p->OW prog R ops rest K n ((i,.bool Aj)::σ) w)(h:lk σ i=X (.bool (decide p)):=by exact Z):OW prog R ops rest K n σ w:=qC i h h1 h2
def Nw(i:Y){p:Prop}[Decidable p](h1:p->QW prog R ops rest K n ((i,.bool Af)::σ) w)(h2:¬p->QW prog R ops rest K n ((i,.bool Aj)::σ) w)(h:lk σ i=X (.bool (decide p)):=by exact Z):QW prog R ops rest K n σ w:=qG i h h1 h2
def Bu{fn:Func}{q:Y}(p:fn.results=#[.tmp q]:=by exact Z)(hv:lk σ q=X v:=by exact Z)(h:Q v w):KW prog (fun a w'=>bodyPost prog fn (fun e w'=>∃v,e=.returned v/\Q v w') .ret a w') (.code .ret::K) n σ w:=Gd (ret1 p hv h)
def BH{fn:Func}{q r:Y}{u:Ah}(p:fn.results=#[.tmp q,.tmp r]:=by exact Z)(hv:lk σ q=X v:=by exact Z)(hu:lk σ r=X u:=by exact Z)(h:Q (.tuple #[v,u]) w):KW prog (fun a w'=>bodyPost prog fn (fun e w'=>∃v,e=.returned v/\Q v w') .ret a w') (.code .ret::K) n σ w:=Gd (ret2 p hv hu h)
def CS{fn:Func}{q r s:Y}{u x:Ah}(p:fn.results=#[.tmp q,.tmp r,.tmp s]:=by exact Z)(hv:lk σ q=X v:=by exact Z)(hu:lk σ r=X u:=by exact Z)(hx:lk σ s=X x:=by exact Z)(h:Q (.tuple #[v,u,x]) w):KW prog (fun a w'=>bodyPost prog fn (fun e w'=>∃v,e=.returned v/\Q v w') .ret a w') (.code .ret::K) n σ w:=Gd (ret3 p hv hu hx h)
def Bkf{ι:Type}(n:Y)(F:ι->Prop×BJ×Ad×Y)(i:ι):AF->Ad->Prop:=Oc n (fun p=>(F p).1) (fun p=>(F p).2.1) (fun p=>(F p).2.2.1) (fun p=>(F p).2.2.2) i
def Mtf{ι:Type}(n:Y)(F:ι->Prop×BJ×Ad):AF->Ad->Prop:=Met n (fun p=>(F p).1) (fun p=>(F p).2.1) (fun p=>(F p).2.2)
def Lo{ι:Type}(F:ι->Prop×BJ×Ad×Y)(i:ι)(hi:match F i with|(I,_)=>I)(h:∀i,match F i with|(I,S,W,_)=>I->KW prog R (.code c::.asr (Bkf n F i)::K) n S W)(q:match F i with|(_,S,W,_)=>Eh S σ/\w=W:=by refine⟨?_,?_⟩;repeat (first|exact AB|exact Z|refine⟨Z,?_⟩)):KW prog R (.code (.loop c)::K) n σ w:=RM _ _ _ (fun p=>(F p).2.2.2) i q.1 q.2 hi fun j r=>(h j) r
def Lb{ι:Type}{F:ι->Prop×BJ×Ad×Y}{i:ι}(j:ι)(hi:match F j with|(I,_)=>I)(h:match F j with|(_,S,W,_)=>Eh S σ/\w=W:=by refine⟨?_,?_⟩;repeat (first|exact AB|exact Z|refine⟨Z,?_⟩))(hm:match F j,F i with|(_,_,_,a),(_,_,_,b)=>a<b:=by show _<_;omega):KW prog R (.asr (Bkf n F i)::K) n σ w:=KW.back (μ:=fun p=>(F p).2.2.2) j h.1 h.2 hi hm
def Lm{ι:Type}{F:ι->Prop×BJ×Ad}(j:ι)(h:match F j with|(_,S,W)=>Eh S σ/\w=W:=by refine⟨?_,?_⟩;repeat (first|exact AB|exact Z|refine⟨Z,?_⟩))(hi:match F j with|(I,_)=>I):KW prog R (.asr (Mtf n F)::K) n σ w:=cX j h.1 h.2 hi
def Lc{ι:Type}(F:ι->Prop×BJ×Ad)(h:KW prog R (.code c::.asr (Mtf n F)::K) n σ w)(h2:∀i,match F i with|(I,S,W)=>I->KW prog R K n S W):KW prog R (.code c::K) n σ w:=KW.cut _ _ _ h fun j hj=>(h2 j) hj
def Ld{ι:Type}(F:ι->Prop×BJ×Ad)(h:KW prog R (.code c::.code c'::.asr (Mtf n F)::K) n σ w)(h2:∀i,match F i with|(I,S,W)=>I->KW prog R K n S W):KW prog R (.code c::.code c'::K) n σ w:=qe _ _ _ h fun j hj=>(h2 j) hj
def Yv(hi:ops[i]? =X ⟨X d,op,ty,pos,after,g⟩:=by exact Z)(hf:Region.free .any ops listed i=Af:=by kernel_rfl)(hr:(Region.ready .any ops listed).contains i=Af:=by kernel_rfl)(hs:Region.noSelect ops=Af:=by kernel_rfl)(hg:BK ops σ g=X Af:=by exact Z)(hd:BL d n=Af:=by exact Z)(hS:S w:=by assumption)(he:∀w',S w'->EX prog n σ op ty w' v w':=by intro w' p;first|exact Xx|exact Bo p|exact Bo p.1|exact Bo p.2|exact Bo p.2.1|exact Bo p.2.2|exact Bo p.2.2.1|exact Bo p.2.2.2|exact Bo p.2.2.2.1):Tg i (GW prog R ops S fuel (listed.setIfInBounds i Af) K n ((d,v)::σ) w) (GW prog R ops S (fuel+1) listed K n σ w):=⟨fun h=>GW.val i hi hs hf hr hg hd hS he h⟩
def Yp(hi:ops[i]? =X ⟨X d,op,ty,pos,after,g⟩:=by exact Z)(hf:Region.free .any ops listed i=Af:=by kernel_rfl)(hr:(Region.ready .any ops listed).contains i=Af:=by kernel_rfl)(hs:Region.noSelect ops=Af:=by kernel_rfl)(hg:BK ops σ g=X Aj:=by exact Z)(hd:BL d n=Af:=by exact Z)(hS:S w:=by assumption):Tg i (GW prog R ops S fuel (listed.setIfInBounds i Af) K n ((d,undef)::σ) w) (GW prog R ops S (fuel+1) listed K n σ w):=⟨fun h=>pM i hi hs hf hr hg hd hS h⟩
def Yc(i:Y){p:Ae AD}(q:Bn prog fid vs w Q)(hi:ops[i]? =X ⟨X d,(.call { callee:=.value (.func fid),args:=p.toArray,argTypes:=ats }),ty,pos,after,g⟩:=by exact Z)(hr:Region.ready .any ops listed=[i]:=by kernel_rfl)(hg:BK ops σ g=X Af:=by exact Z)(hd:BL d n=Af:=by exact Z)(hx:evs σ p=X vs:=by exact Z)(h:∀v w',Q v w'->S w'/\(S w'->GW prog R ops S fuel (listed.setIfInBounds i Af) K n ((d,v)::σ) w')):GW prog R ops S (fuel+1) listed K n σ w:=GW.call i hi hr hg hd hx q h
def Yt(i:Y)(p:Bk w b T' l)(hi:ops[i]? =X ⟨Aa,.store T x y,ty,pos,after,g⟩:=by exact Z)(hr:Region.ready .any ops listed=[i]:=by kernel_rfl)(hg:BK ops σ g=X Af:=by exact Z)(ht:TI prog T z 1 bs:=by exact tF Z)(hx:ev σ x=X (.pointer (X ⟨b,o,Aa⟩)):=by exact Z)(hy:ev σ y=X v:=by exact Z)(h1:v.oneCell'=Af:=by first|rfl|assumption|exact Bp.one Cr)(hlt:o<Aim l:=by first|decide|(simp;done)|omega|(simp;omega))(h:∀w',Bk w' b T' (l.set o v)->Mo w w' [b]->S w'/\(S w'->GW prog R ops S fuel (listed.setIfInBounds i Af) K n σ w')):GW prog R ops S (fuel+1) listed K n σ w:=cT i hi hr hg ht hx hy h1 p hlt h
def Ys(i:Y)(p:Bk w b T' l)(hi:ops[i]? =X ⟨Aa,.store T x y,ty,pos,after,g⟩:=by exact Z)(hr:Region.ready .any ops listed=[i]:=by kernel_rfl)(hg:BK ops σ g=X Af:=by exact Z)(ht:TI prog T z s bs:=by exact tF Z)(hx:ev σ x=X (.pointer (X ⟨b,o,Aa⟩)):=by exact Z)(hy:ev σ y=X (.agg vs.toArray):=by exact Z)(hs:Aim vs=s:=by exact Z)(h1:vs.all (·.oneCell')=Af:=by first|rfl|(simp only[II,IJ,ID,IE,Bool.and_eq_true,Value.oneCell'];repeat (first|assumption|exact Bp.one Cr|constructor)))(hlt:o+Aim vs<=Aim l:=by first|decide|(simp;done)|omega)(h:∀w',Bk w' b T' (l.take o++vs++l.drop (o+Aim vs))->Mo w w' [b]->S w'/\(S w'->GW prog R ops S fuel (listed.setIfInBounds i Af) K n σ w')):GW prog R ops S (fuel+1) listed K n σ w:=pN i hi hr hg ht hx hy hs h1 p hlt h
def Yn(i:Y)(hi:ops[i]? =X ⟨X d,.alloc T,ty,pos,after,g⟩:=by exact Z)(hr:Region.ready .any ops listed=[i]:=by kernel_rfl)(hg:BK ops σ g=X Af:=by exact Z)(hd:BL d n=Af:=by exact Z)(ht:TI prog T (.agg l.toArray) s bs:=by exact tF Z)(hl:((.agg l.toArray):Ah).cells.toList=l:=by exact Z)(h:∀b w',w.heap.size<=b->Bk w' b T l->Bf w w'->S w'/\(S w'->GW prog R ops S fuel (listed.setIfInBounds i Af) K n ((d,.pointer (X ⟨b,0,Aa⟩))::σ) w')):GW prog R ops S (fuel+1) listed K n σ w:=cQ i hi hr hg hd ht hl h
def Ym(i:Y)(hi:ops[i]? =X ⟨X d,.alloc T,ty,pos,after,g⟩:=by exact Z)(hr:Region.ready .any ops listed=[i]:=by kernel_rfl)(hg:BK ops σ g=X Af:=by exact Z)(hd:BL d n=Af:=by exact Z)(ht:TI prog T z s bs:=by exact tF Z)(hl:(z:Ah).cells.toList=[z]:=by exact Z)(h:∀b w',w.heap.size<=b->Bk w' b T [z]->Bf w w'->S w'/\(S w'->GW prog R ops S fuel (listed.setIfInBounds i Af) K n ((d,.pointer (X ⟨b,0,Aa⟩))::σ) w')):GW prog R ops S (fuel+1) listed K n σ w:=cQ i hi hr hg hd ht hl h
def Yo(i:Y)(hi:ops[i]? =X ⟨X d,op,ty,pos,after,g⟩:=by exact Z)(hr:Region.ready .any ops listed=[i]:=by kernel_rfl)(hg:BK ops σ g=X Af:=by exact Z)(hd:BL d n=Af:=by exact Z)(he:EX prog n σ op ty w v w)(hS:S w:=by assumption)(h:S w->GW prog R ops S fuel (listed.setIfInBounds i Af) K n ((d,v)::σ) w):GW prog R ops S (fuel+1) listed K n σ w:=GW.new i hi hr hg hd he ⟨hS,h⟩
def Jc(i:Y){p:Ae AD}(q:Bn prog fid vs w Q)(hi:ops[i]? =X ⟨X d,(.call { callee:=.value (.func fid),args:=p.toArray,argTypes:=ats }),ty,pos,after,g⟩:=by exact Z)(hg:BK ops σ g=X Af:=by exact Z)(hd:BL d n=Af:=by exact Z)(hx:evs σ p=X vs:=by exact Z)(h:∀v w',Q v w'->S w'/\(S w'->GW prog R ops S fuel (listed.setIfInBounds i Af) K n ((d,v)::σ) w')):GO prog R ops S fuel listed K n σ w i:=GO.call i hi hg hd hx q h
def Jn(i:Y)(hi:ops[i]? =X ⟨X d,.alloc T,ty,pos,after,g⟩:=by exact Z)(hg:BK ops σ g=X Af:=by exact Z)(hd:BL d n=Af:=by exact Z)(ht:TI prog T (.agg l.toArray) s bs:=by exact tF Z)(hl:((.agg l.toArray):Ah).cells.toList=l:=by exact Z)(h:∀b w',w.heap.size<=b->Bk w' b T l->Bf w w'->S w'/\(S w'->GW prog R ops S fuel (listed.setIfInBounds i Af) K n ((d,.pointer (X ⟨b,0,Aa⟩))::σ) w')):GO prog R ops S fuel listed K n σ w i:=cO i hi hg hd ht hl h
def Jm(i:Y)(hi:ops[i]? =X ⟨X d,.alloc T,ty,pos,after,g⟩:=by exact Z)(hg:BK ops σ g=X Af:=by exact Z)(hd:BL d n=Af:=by exact Z)(ht:TI prog T z s bs:=by exact tF Z)(hl:(z:Ah).cells.toList=[z]:=by exact Z)(h:∀b w',w.heap.size<=b->Bk w' b T [z]->Bf w w'->S w'/\(S w'->GW prog R ops S fuel (listed.setIfInBounds i Af) K n ((d,.pointer (X ⟨b,0,Aa⟩))::σ) w')):GO prog R ops S fuel listed K n σ w i:=cO i hi hg hd ht hl h
def Jo(i:Y)(hi:ops[i]? =X ⟨X d,op,ty,pos,after,g⟩:=by exact Z)(hg:BK ops σ g=X Af:=by exact Z)(hd:BL d n=Af:=by exact Z)(he:EX prog n σ op ty w v w)(hS:S w:=by assumption)(h:S w->GW prog R ops S fuel (listed.setIfInBounds i Af) K n ((d,v)::σ) w):GO prog R ops S fuel listed K n σ w i:=GO.new i hi hg hd he ⟨hS,h⟩
def Yw(i:Y)(hi:ops[i]? =X ⟨X d,op,ty,pos,after,g⟩:=by exact Z)(hf:Region.free .any ops listed i=Af:=by kernel_rfl)(hr:(Region.ready .any ops listed).contains i=Af:=by kernel_rfl)(hs:Region.noSelect ops=Af:=by kernel_rfl)(hg:BK ops σ g=X Af:=by exact Z)(hd:BL d n=Af:=by exact Z)(hS:S w:=by assumption)(he:∀w',S w'->EX prog n σ op ty w' v w')(h:GW prog R ops S fuel (listed.setIfInBounds i Af) K n ((d,v)::σ) w):GW prog R ops S (fuel+1) listed K n σ w:=GW.val i hi hs hf hr hg hd hS he h
def Yr(N:Y)(S:Ad->Prop){id:Y}{vl:Ae AG}(p:S w.drew)(hm:prog.follows .mixedOrders=Af:=by kernel_rfl)(hN:vl.toArray.size=N:=by exact Z)(h:S w.drew->GW prog R vl.toArray S N (JW N Aj) K n σ w.drew):KW prog R (.code (.region id vl.toArray Af)::K) n σ w:=Qb S hm hN (h p)
def Zn(hi:TI prog T (.agg l.toArray) s bs:=by exact tF Z)(hl:((.agg l.toArray):Ah).cells.toList=l:=by exact Z)(hg:BK ops σ g=X Af:=by exact Z)(hd:BL d n=Af:=by exact Z)(h:∀b w',w.heap.size<=b->Bk w' b T l->Bf w w'->OW prog R ops rest K n ((d,.pointer (X ⟨b,0,Aa⟩))::σ) w'):OW prog R ops (⟨X d,.alloc T,ty,pos,after,g⟩::rest) K n σ w:=dr hg hd hi hl h
def Ml(hi:TI prog T z s bs:=by exact tF Z)(hl:(z:Ah).cells.toList=[z]:=by exact Z)(hg:BK ops σ g=X Af:=by exact Z)(hd:BL d n=Af:=by exact Z)(h:∀b w',w.heap.size<=b->Bk w' b T [z]->Bf w w'->OW prog R ops rest K n ((d,.pointer (X ⟨b,0,Aa⟩))::σ) w'):OW prog R ops (⟨X d,.alloc T,ty,pos,after,g⟩::rest) K n σ w:=dr hg hd hi hl h
def Cw(i:Y)(u:Ah)(ht:lk σ i=X v:=by exact Z)(e:v=u:=by rfl)(h:KW prog R K n ((i,u)::σ) w):KW prog R K n σ w:=KW.as i u ht e h
def Ea{q r vs xs:Bm}{p:Ae AD}(D:Bn prog fid xs w Q)(C:BK ops σ g=X Af:=by exact Z)(hd:BL d n=Af:=by exact Z)(ht:ev σ f=X (.func (.func fid) q.toArray r.toArray):=by exact Z)(hx:evs σ p=X vs:=by exact Z)(he:q++vs++r=xs:=by exact Z)(h:∀v w',Q v w'->OW prog R ops rest K n ((d,v)::σ) w'):OW prog R ops (⟨X d,.call { callee:=.value f,args:=p.toArray,argTypes:=ats },ty,pos,after,g⟩::rest) K n σ w:=qu C hd ht hx he D h
def Gf(p:prog.underlying t=X (.slice e):=by exact uF Z)(hti:TI prog e z 1 bs:=by exact tF Z)(hz1:z.oneCell'=Af:=by exact Z)(hx:NV σ x k len:=by exact nV)(hy:NV σ y k' len:=by exact nV)(hb:bs*len<=281474976710656:=by omega)(h63:len<=9223372036854775807:=by omega)(hg:BK ops σ g=X Af:=by exact Z)(hd:BL d n=Af:=by exact Z)(h:∀b w',w.heap.size<=b->Bk w' b e (BG len z)->Bf w w'->OW prog R ops rest K n ((d,.slice (X ⟨b,0,Aa⟩) len len)::σ) w'):OW prog R ops (⟨X d,.makeSlice t x y,ty,pos,after,g⟩::rest) K n σ w:=WT hg hd p hti hz1 hx hy hb h63 h
def GZ{d1 G:Y}{r:AJ}{p:Ap Edge}{E:Av (Y×Aw)}{v:Ah}{l:Y}{xs:Bm}{u:Ah}(D:Bf w0 w)(C:Bp w w0.heap.size e 1 v l xs)(I:BK ops σ E=X Af:=by exact Z)(hd1:BL d1 n=Af:=by exact Z)(hg:∀u,BK ops ((d1,u)::σ) g=X Af:=by exact fun _=>rfl)(hd:BL d n=Af:=by exact Z)(ht:prog.underlying t=X (.slice e):=by exact uF Z)(hi:TI prog e z 1 bs:=by exact tF Z)(hz1:z.oneCell'=Af:=by exact Z)(hy:ev σ y=X u:=by exact Z)(hx:∀q,ev ((d1,q)::σ) x=X v:=by exact fun _=>rfl)(hu:u.oneCell'=Af:=by first|rfl|assumption|exact Bp.one Cr)(h63:l+1<=maxLen:=by simp only[maxLen];omega)(hbytes:(l+1)*bs<=140737488355328:=by omega)(h:∀q v' w',Bp w' w0.heap.size e 1 v' (l+1) (xs++[u])->Bf w0 w'->w.grownBy w' v.ownBlock->(v'.ownBlock=v.ownBlock∨∃g,v'.ownBlock=X g/\w.heap.size<=g)->OW prog R ops rest K n ((d,v')::(d1,q)::σ) w'):OW prog R ops (⟨X d1,.buildSlice t 1 #[(0,y)],G,r,p,E⟩::⟨X d,.call { callee:=.builtin .append,args:=#[x,.tmp d1],argTypes:=#[t,t] },ty,pos,after,g⟩::rest) K n σ w:=OW.push I hd1 hg hd ht hi hz1 hy hx hu D C h63 hbytes h
def Qs{d1 E:Y}{r:AJ}{p:Ap Edge}{D:Av (Y×Aw)}{v:Ah}{l:Y}{xs:Bm}{u:Ah}(B:Y)(I:B<=w.heap.size)(C:Bp w B e 1 v l xs)(G:BK ops σ D=X Af:=by exact Z)(hd1:BL d1 n=Af:=by exact Z)(hg:∀u,BK ops ((d1,u)::σ) g=X Af:=by exact fun _=>rfl)(hd:BL d n=Af:=by exact Z)(ht:prog.underlying t=X (.slice e):=by exact uF Z)(hi:TI prog e z 1 bs:=by exact tF Z)(hz1:z.oneCell'=Af:=by exact Z)(hy:ev σ y=X u:=by exact Z)(hx:∀q,ev ((d1,q)::σ) x=X v:=by exact fun _=>rfl)(hu:u.oneCell'=Af:=by first|rfl|assumption|exact Bp.one Cr)(h63:l+1<=maxLen:=by simp only[maxLen];omega)(hbytes:(l+1)*bs<=140737488355328:=by omega)(h:∀q v' w',Bp w' B e 1 v' (l+1) (xs++[u])->Mo w w' v.ownBlock.toList->(v'.ownBlock=v.ownBlock∨∃g,v'.ownBlock=X g/\w.heap.size<=g)->OW prog R ops rest K n ((d,v')::(d1,q)::σ) w'):OW prog R ops (⟨X d1,.buildSlice t 1 #[(0,y)],E,r,p,D⟩::⟨X d,.call { callee:=.builtin .append,args:=#[x,.tmp d1],argTypes:=#[t,t] },ty,pos,after,g⟩::rest) K n σ w:=qz B G hd1 hg hd ht hi hz1 hy hx hu I C h63 hbytes h
def Ko{d1 G:Y}{r:AJ}{p:Ap Edge}{E:Av (Y×Aw)}{v:Ah}{l:Y}{xs:Bm}{vs:Bm}(D:Bf w0 w)(C:Bp w w0.heap.size e s v l xs)(I:BK ops σ E=X Af:=by exact Z)(hd1:BL d1 n=Af:=by exact Z)(hg:∀u,BK ops ((d1,u)::σ) g=X Af:=by exact fun _=>rfl)(hd:BL d n=Af:=by exact Z)(ht:prog.underlying t=X (.slice e):=by exact uF Z)(hi:TI prog e z s bs:=by exact tF Z)(hzs:z.cells.size=s:=by exact Z)(hs0:0<s:=by decide)(hs:s<=16777216:=by decide)(hy:ev σ y=X (.agg vs.toArray):=by exact Z)(hl:Aim vs=s:=by exact Z)(hx:∀q,ev ((d1,q)::σ) x=X v:=by exact fun _=>rfl)(hu:vs.all (·.oneCell')=Af:=by first|rfl|assumption|(simp only[II,IJ,ID,IE,Bool.and_eq_true,Value.oneCell'];repeat (first|assumption|exact Bp.one Cr|constructor)))(h63:l+1<=maxLen:=by simp only[maxLen];omega)(hbytes:(l+1)*bs<=140737488355328:=by omega)(h:∀q v' w',Bp w' w0.heap.size e s v' (l+1) (xs++vs)->Bf w0 w'->w.grownBy w' v.ownBlock->OW prog R ops rest K n ((d,v')::(d1,q)::σ) w'):OW prog R ops (⟨X d1,.buildSlice t 1 #[(0,y)],G,r,p,E⟩::⟨X d,.call { callee:=.builtin .append,args:=#[x,.tmp d1],argTypes:=#[t,t] },ty,pos,after,g⟩::rest) K n σ w:=qA I hd1 hg hd ht hi hzs hs0 hs hy hl hx hu D C h63 hbytes h
def Kn{fn:Func}{q:Y}(r:Bk w b T' l)(p:fn.results=#[.cell q T]:=by exact Z)(hu:prog.underlying T=X dd:=by exact uF Z)(hd:flat dd=Aj:=by exact Z)(hi:TI prog T z s bs:=by exact tF Z)(hv:lk σ q=X (.pointer (X ⟨b,0,Aa⟩)):=by exact Z)(hl:Aim l=s:=by exact Z)(h:Q (.agg l.toArray) w):KW prog (fun a w'=>bodyPost prog fn (fun e w'=>∃v,e=.returned v/\Q v w') .ret a w') (.code .ret::K) n σ w:=Gd (retC1 p hu hd hi hv r hl h)
def Du{fn:Func}{q r:Y}{u:Ah}(C:Bk w b T' l)(p:fn.results=#[.cell q T,.tmp r]:=by exact Z)(hu:prog.underlying T=X dd:=by exact uF Z)(hd:flat dd=Aj:=by exact Z)(hi:TI prog T z s bs:=by exact tF Z)(hv:lk σ q=X (.pointer (X ⟨b,0,Aa⟩)):=by exact Z)(hx:lk σ r=X u:=by exact Z)(hl:Aim l=s:=by exact Z)(h:Q (.tuple #[.agg l.toArray,u]) w):KW prog (fun a w'=>bodyPost prog fn (fun e w'=>∃v,e=.returned v/\Q v w') .ret a w') (.code .ret::K) n σ w:=Gd (retC2 p hu hd hi hv hx C hl h)
def Ye(i j:Y)(h1:GO prog R ops S fuel listed K n σ w i)(h2:GO prog R ops S fuel listed K n σ w j)(h:Region.ready .any ops listed=[i,j]:=by kernel_rfl):GW prog R ops S (fuel+1) listed K n σ w:=GW.two i j h h1 h2
def Xshl{a2:Y}(hx:NV σ x k a:=by first|exact NV.c|exact Dh Z)(hy:NV σ y k' s:=by exact nV)(hp:2 ^ s=a2:=by simp only[Lh]<;>exact Z)(hs:s<=k.bits:=by decide)(h:a*a2<=_root_.Go.Proofs.YtkmlafmjaeeanaaGreatDoor.maxN k:=by simp only[maxN];omega):EX prog n σ (.binOp .shl t x y t') ty w (.int k ((a*a2:Y):H)) w:=Hk hx hy hp hs Z h
def Xshr{a2:Y}(hx:NV σ x k a:=by first|exact NV.c|exact Dh Z)(hy:NV σ y k' s:=by exact nV)(hp:2 ^ s=a2:=by simp only[Lh]<;>exact Z)(hs:s<=k.bits:=by decide):EX prog n σ (.binOp .shr t x y t') ty w (.int k ((a/a2:Y):H)) w:=IG hx hy hp hs
def Yd(p:Region.ready .any ops listed=[]:=by kernel_rfl)(h:KW prog R K n σ w):GW prog R ops S fuel listed K n σ w:=GW.done p h
end
def O(m:Y){p q:Prop}(c:Rn m p q:=by
 repeat (first|exact Rn.z|(apply Rn.s;first
  |(apply OW.val;exact Z;exact Z;exact Xx)
  |(apply OW.nil)
  |(apply Ek)
  |(apply KW.region)
  |(apply KW.skip)
  |(apply KW.block)
  |(apply cW)
  |(apply qf;exact Z)
  |(apply HK;exact Z;exact Z)
  |(apply QW.val;exact Z;exact Z;(intro j;first|exact Xx|exact Bo (Bk.drewN (by with_reducible assumption) _)))
  |(apply qF;exact Z;exact Z)
  |(apply qd;exact Z)
  |(apply qc;exact Z)
  |(apply Ws;kernel_rfl;kernel_rfl)
  |(apply qg)
  |(apply KW.scope)
  
   ))) (h:q):p:=c.ok h
def Gv(l:Bi){p q:Prop}(c:Rl l p q:=by
 repeat (first|exact Rl.z|(apply Rl.s;first|exact Yv|exact Yp))) (h:q):p:=c.ok h
section
variable{P:AE}{R:AF->Ad->Prop}{ops:Ap AG}{S:Ad->Prop}{fuel:Y}{listed:Ap Aw}{k:Ae KI}{n:Y}{σ:BJ}{w:Ad}
def GW.all{l:Bi}(m:Region.ready .any ops listed=l)(f:l≠[])(h:∀i∈l,GO P R ops S fuel listed k n σ w i):GW P R ops S (fuel+1) listed k n σ w:=fun a p=>
 wpAnyH_all m f fun q o=>h q o a p
def Wn(i j m:Y)(hr:Region.ready .any ops listed=[i,j,m])(h1:GO P R ops S fuel listed k n σ w i)(h2:GO P R ops S fuel listed k n σ w j)(h3:GO P R ops S fuel listed k n σ w m):GW P R ops S (fuel+1) listed k n σ w:=
 GW.all hr Bl fun q hq=>by
  simp only[List.mem_cons,List.not_mem_nil,or_false]at hq;rcases hq with rfl|rfl|rfl
  .exact h1
  .exact h2
  .exact h3
def GW.one(i:Y)(hr:Region.ready .any ops listed=[i])(h:GO P R ops S fuel listed k n σ w i):GW P R ops S (fuel+1) listed k n σ w:=
 GW.all hr Bl fun q hq=>by
  simp only[List.mem_cons,List.not_mem_nil,or_false]at hq;subst hq;exact h
def DK(i:Y){d:Y}{T e ty:Ay}{pos:AJ}{after:Ap Edge}{g:Av (Y×Aw)}{x y:AD}{z:Ah}{bs len:Y}{kl kc:AI}(hi:ops[i]? =X ⟨X d,.makeSlice T x y,ty,pos,after,g⟩)
 (hg:BK ops σ g=X Af) (hd:BL d n=Af) (ht:P.underlying T=X (.slice e)) (hti:TI P e z 1 bs) (hz1:z.oneCell'=Af) (hx:ev σ x=X (.int kl (len:H))) (hy:ev σ y=X (.int kc (len:H))) (hb:bs*len<=281474976710656) (h63:len<=9223372036854775807)
 (h:∀b w',w.heap.size<=b->Bk w' b e (BG len z)->Bf w w'->S w'/\(S w'->GW P R ops S fuel (listed.setIfInBounds i Af) k n ((d,.slice (X ⟨b,0,Aa⟩) len len)::σ) w')):GO P R ops S fuel listed k n σ w i:=
 GO.new i hi hg hd (cy ht hti hz1 hx hy hb h63) (h _ _ (Bq _) (Bk.new w e _) (Bf.alloc w _))
end
section
variable{P:AE}{n:Y}{σ:BJ}{w:Ad}{x y:AD}{ty t e:Ay}
def Ty{len i bs:Y}{l:Bm}{k:AI}{d:TypeDesc}{v z:Ah}(ht:P.underlying t=X (.array len e))(he:P.underlying e=X d)(m:flat d=Af)(a:TI P e z 1 bs)(hx:ev σ x=X (.agg l.toArray))(h:ev σ y=X (.int k (i:H)))(hl:i<len)(hi:l[i]? =X v):EX P n σ (.index t x y) ty w v w:=fun A f o pos after g=>by
 simp only[execOp,f.ev hx,f.ev h];have hi':(i:H)<(len:H):=J;simp[Instr.index,asIntOf,run_underlying ht,Sem.run_bind,hi',Fj a,part,MN he,m,hi];omega
end
section
variable{P:AE}{R:AF->Ad->Prop}{ops:Ap AG}{rest:Ae AG}{k:Ae KI}{n:Y}{σ:BJ}{w w0:Ad}{x y:AD}{t t' e ty:Ay}{pos:AJ}{after:Ap Edge}{gd:Av (Y×Aw)}{d:Y}{z:Ah}{bs:Y}
def Abe{m ki:AI}{B:Y}(ht:P.underlying t=X (.slice e))(hk:P.underlying t'=X (.int m))(hi:TI P e z 1 bs){v:Ah}{l:Y}{xs:Bm}(a:Bp w B e 1 v l xs):
 (Builtin.append_ #[t,t'] ty #[v,.int ki 0]).run P w=.ok v w:=by
 obtain⟨i,h,q,f,rfl⟩:=hi.at;rcases a.2 with⟨rfl,rfl⟩|⟨g,cap,rest,rfl,D,C,A,o,p⟩
 .have r:xs=[]:=Gx (by simpa using a.1);simp[Builtin.append_,run_underlying ht,run_underlying hk,sizeOf,typeInfo,h,f,asInt,asIntOf,IntKind.wrap_i64,Sem.run_bind]
 .simp[Builtin.append_,run_underlying ht,run_underlying hk,sizeOf,typeInfo,h,f,asInt,asIntOf,IntKind.wrap_i64,Sem.run_bind,o,storeCells]
def qt{E ki:AI}{v:Ah}{m l:Y}{xs:Bm}(B:BK ops σ gd=X Af)(C:BL d n=Af)(ht:P.underlying t=X (.slice e))(hk:P.underlying t'=X (.int E))(hi:TI P e z 1 bs)(p:z.oneCell'=Af)
 (hx:ev σ x=X v) (r:ev σ y=X (.int ki (m:H))) (o:Bf w0 w) (f:Bp w w0.heap.size e 1 v l xs)
 (q:l+m<=maxLen) (a:(l+m)*bs<=140737488355328)
 (h:∀v' w',Bp w' w0.heap.size e 1 v' (l+m) (xs++BG m z)->Bf w0 w'->OW P R ops rest k n ((d,v')::σ) w'):
 OW P R ops (⟨X d,.call { callee:=.builtin .append,args:=#[x,y],argTypes:=#[t,t'] },ty,pos,after,gd⟩::rest) k n σ w:=by
 rcases Jy m with rfl|G
 .refine OW.val B C (v:=v) (w':=w) ?_ (h v w Bh o);intro A D L pos after g;simp only[execOp,resolve,invoke,builtin,Sem.run_bind,Sem.run_pure,Result.andThen_ok,Gy,Cp,EO,D.ev hx,D.ev r];have:=Abe (P:=P) (ty:=ty) (ki:=ki) ht hk hi f;simp_all
 .exact qp B C ht hk hi p hx r o f G q a fun v' w' K I _ _=>h v' w' K I
end
section
variable{P:AE}{n:Y}{σ:BJ}{w:Ad}{x lo hi':AD}{t e ty:Ay}{z:Ah}{bs g len cap i j:Y}{kk k2:AI}
def cG(ht:P.underlying t=X (.slice e))(hi:TI P e z 1 bs)(hx:ev σ x=X (.slice (X ⟨g,0,Aa⟩) len cap))(hl:ev σ lo=X (.int kk (i:H)))(l:ev σ hi'=X (.int k2 (j:H)))(h:i<=j/\j<=len/\len<=cap):
 EX P n σ (.slice t x (X lo) (X hi') Aa) ty w (.slice (X ⟨g,if cap=i then 0 else i,Aa⟩) (j-i) (cap-i)) w:=fun Ac a m pos after gd=>by
 have f:(⟨g,0,Aa⟩:AC).add i=⟨g,i,Aa⟩:=by unfold Addr.add;split<;>simp_all
 simp only[execOp,a.ev hx,a.ev hl,a.ev l,FO,Nr];simp[Instr.sliceAt,run_underlying ht,Instr.slice,Instr.sliceBounds,Sem.run_bind,NQ j _ h.1,NQ cap _ (BF h.2.1 h.2.2),Fj hi];split<;>simp_all
def Wg{s:Y}(ht:P.underlying t=X (.slice e))(hi:TI P e z s bs)(hx:ev σ x=X (.slice (X ⟨g,0,Aa⟩) len cap))(l:ev σ hi'=X (.int k2 (j:H)))(h:j<=len/\len<=cap):
 EX P n σ (.slice t x Aa (X hi') Aa) ty w (.slice (X ⟨g,0,Aa⟩) j cap) w:=fun Ac f m pos after gd=>by
 have a:(⟨g,0,Aa⟩:AC).add 0=⟨g,0,Aa⟩:=by unfold Addr.add;split<;>simp_all
 simp only[execOp,f.ev hx,f.ev l,FO,Nr];simp[Instr.sliceAt,run_underlying ht,Instr.slice,Instr.sliceBounds,Sem.run_bind,NQ cap _ (BF h.1 h.2),Fj hi,a]
end
def kI{L:Bm}{k i cap:Y}{v:Ah}(h:L[k]? =X v)(hi:i=if cap=1 then 0 else 1)(hk:cap=1->k=0):(L.take i++L.take k++L.drop (i+Aim (L.take k))).set 0 v=v::L.eraseIdx k:=by
 obtain⟨f,l⟩:=HF.1 h;cases L with
 |nil=>grind
 |cons a r=>
  by_cases c:cap=1
  .grind
  .grind
section
variable{P:AE}{R:AF->Ad->Prop}{ops:Ap AG}{rest:Ae AG}{k:Ae KI}{n:Y}{σ:BJ}{w:Ad}{x y:AD}{T e ty:Ay}{pos:AJ}{after:Ap Edge}{gd:Av (Y×Aw)}{d:Y}{z:Ah}{s bs:Y}
def qw{len:Y}{f l:AI}(C:BK ops σ gd=X Af)(D:BL d n=Af)(ht:P.underlying T=X (.slice e))(hi:TI P e z s bs)(hx:ev σ x=X (.int f (len:H)))(q:ev σ y=X (.int l (len:H)))
 (I:bs*len<=281474976710656) (E:len<=9223372036854775807)
 (h:∀b w' y9,w.heap.size<=b->Aim y9=len*s->Bk w' b e y9->Bf w w'->OW P R ops rest k n ((d,.slice (X ⟨b,0,Aa⟩) len len)::σ) w'):
 OW P R ops (⟨X d,.makeSlice T x y,ty,pos,after,gd⟩::rest) k n σ w:=by
 obtain⟨i,B,p,r,rfl⟩:=hi.at
 have a:(i.bytes:H)*(len:H)<=281474976710656:=by
  have h:((i.bytes*len:Y):H)<=281474976710656:=J;rwa[PY]at h
 have m:=run_make (P:=P) w T e i z ht B p f l len len J (PX _) a J;simp only[RH]at m;refine OW.val C D (v:=.slice (X ⟨w.heap.size,0,Aa⟩) len len) (w':=w.alloc (.cells (madeCells z.cells (len*i.size)).toList.toArray e)) ?_ (h _ _ (madeCells z.cells (len*i.size)).toList (Bq _) (by rw[Array.length_toList,size_madeCells,r]) (Bk.new w e _) (Bf.alloc w _));intro A o G pos after g;simp only[execOp,o.ev hx,o.ev q,Sem.run_bind,m];rfl
end
end
section
open Go.MapKept
open Go.ChangeMaps (setBlock)
abbrev KU:=Ae (Bg×Ah)
structure Mp(w:Ad)(b:Y)(es:Ap MapEntry)(c:Y)(l:KU):Prop where
 blk:w.heap[b]? =X (.map es c)
 st:Stamped es c
 kv:es.toList.map (fun e=>(e.key,e.val))=l.map (fun p=>(Bj p.1,p.2))
def Hi{α:Type}(l:Ae (Bg×α))(s:Bg)(v:α):Ae (Bg×α):=if s∈l.map (·.1)then l.map (fun p=>if p.1=s then(s,v)else p)else l++[(s,v)]
def Il{α:Type}(l:Ae (Bg×α))(s:Bg):Ae (Bg×α):=l.filter (fun p=>decide (p.1≠s))
def VE{a b:Bg}(h:Bj a=Bj b):a=b:=by
 grind
section
variable{w w':Ad}{b c:Y}{es:Ap MapEntry}{l:KU}
def Mp.lt(h:Mp w b es c l):b<w.heap.size:=by
 rcases Db b w.heap.size with a|a
 .omega
 .have:=h.blk;grind
def Mp.of_block(h:Mp w b es c l)(hb:w'.heap[b]? =w.heap[b]?):Mp w' b es c l:=⟨hb.trans h.blk,h.st,h.kv⟩
def Mp.ext(h:Mp w b es c l)(hx:Bf w w'):Mp w' b es c l:=h.of_block (hx.block b h.lt)
def Mp.mo{S:Bi}(h:Mp w b es c l)(hm:Mo w w' S)(hb:b∉S):Mp w' b es c l:=h.of_block (hm.block b h.lt hb)
def Mp.Agx{k:Y}{T:Ay}{xs:Bm}(h:Mp w b es c l)(a:Bk w k T xs):k≠b:=by
 rintro rfl;obtain⟨g,f,_⟩:=a;rw[h.blk]at f;grind
def Mp.at{j:Y}{e:MapEntry}(h:Mp w b es c l)(he:es.toList[j]? =X e):∃p,l[j]? =X p/\e.key=Bj p.1/\e.val=p.2:=by
 have a:=Ar (fun z=>z[j]?) h.kv;grind
def Mp.mem{e:MapEntry}(h:Mp w b es c l)(he:e∈es.toList):∃p∈l,e.key=Bj p.1/\e.val=p.2:=by
 obtain⟨j,a⟩:=List.mem_iff_getElem?.1 he;obtain⟨p,g,f⟩:=h.at a;grind
def Mp.keys(h:Mp w b es c l):(l.map (·.1)).Nodup:=by
 have f:(es.toList.map (·.key))=l.map (fun p=>Bj p.1):=by
  have:=Ar (List.map Prod.fst) h.kv;simpa[EE,Function.comp_def]using this
 have a:=h.st.2.2;grind
def Zm(w:Ad)(b:Y)(o:Obj):Mo w (setBlock w b o) [b]:=⟨Z,Z,Z,by simp[setBlock],fun k _ hk=>by simp at hk;simp[setBlock,Array.getElem?_setIfInBounds_ne (Ne.symm hk)]⟩
def Te{o:Obj}(h:b<w.heap.size):(setBlock w b o).heap[b]? =X o:=by simp[setBlock,h]
def zt:∀{l:KU} {j:Y} {p:Bg×Ah} (v:Ah),(l.map (·.1)).Nodup->l[j]? =X p->Hi l p.1 v=l.set j (p.1,v)
 |l,j,p,v,hn,hj=>by
  have hm:p.1∈l.map (·.1):=Ck.2 ⟨p,RS hj,Z⟩;unfold Hi;rw[Ai hm];apply GU;intro k;rw[DP,Wy];by_cases e:j=k
  .grind
  .rw[Ag e];cases hk:l[k]? with
   |none=>rfl
   |some q=>
    have:q.1≠p.1:=fun z=>by
     have f:(l.map (·.1))[k]? =X p.1:=by rw[DP,hk,<-z];rfl
     have a:(l.map (·.1))[j]? =X p.1:=by rw[DP,hj];rfl
     obtain⟨m,h⟩:=HF.1 f;obtain⟨i,g⟩:=HF.1 a;exact e ((Nl hn).1 (g.trans h.symm))
    grind
def fP:∀{l:KU} {j:Y} {p:Bg×Ah},(l.map (·.1)).Nodup->l[j]? =X p->Il l p.1=l.eraseIdx j
 |q::l,0,p,hn,hj=>by
  simp only[List.getElem?_cons_zero,Ns.injEq]at hj;subst hj;simp only[Cp,Qg]at hn;simp only[Il,List.eraseIdx_cons_zero,LY,ne_eq,not_true_eq_false,decide_false,Bool.false_eq_true,if_false];refine Ww.2 fun r hr=>?_;grind
 |q::l,j+1,p,hn,hj=>by
  simp only[Qe]at hj;simp only[Cp,Qg]at hn;have hne:q.1≠p.1:=fun z=>hn.1 (z▸Ck.2 ⟨p,RS hj,Z⟩);have a:=fP hn.2 hj;simp only[Il]at a ⊢;grind
def Zh{l:KU}{s:Bg}{es:Ap MapEntry}(a:es.toList.map (fun e=>(e.key,e.val))=l.map (fun p=>(Bj p.1,p.2)))(h:∀x∈es.toList,x.key≠Bj s):s∉l.map (·.1):=fun g=>by
 obtain⟨p,f,rfl⟩:=Ck.1 g;have:(Bj p.1,p.2)∈es.toList.map (fun e=>(e.key,e.val)):=by rw[a];exact Ck.2 ⟨p,f,Z⟩
 grind
def Mp.isKey(h:Mp w b es c l):∀x∈es.toList,IsKey .string x.key:=fun x a=>by
 obtain⟨p,_,e,_⟩:=h.mem a;rw[e];trivial
variable{P:AE}{t k e:Ay}
def Abm(ht:P.underlying t=X (.map k e))(hk:P.underlying k=X .string)(h:Mp w b es c l)(s:Bg)(v:Ah):
 ∃es' c',(Instr.mapUpdate t (.map (X b)) (Bj s) v).run P w=.ok () (setBlock w b (.map es' c'))/\Mp (setBlock w b (.map es' c')) b es' c' (Hi l s v):=by
 have a:IsKey .string (Bj s):=trivial;rcases findNow_spec a es.toList 0 h.isKey with⟨q,m⟩|⟨j,E,q,m,A⟩
 .refine⟨es.push ⟨Bj s,v,c⟩,c+1,?_,⟨Te h.lt,stamped_push h.st m,?_⟩⟩
  .simp[Instr.mapUpdate,run_underlying ht,MapKept.run_getObj_map h.blk,run_checkKey hk a,run_findKey hk q,MapKept.run_setObj_map _ h.blk,Result.andThen,setBlock]
  .unfold Hi;rw[Ag (Zh h.kv m),Array.toList_push,DX,DX,h.kv];rfl
 .have D:es[j]? =X E:=by simpa using m
  obtain⟨p,C,o,B⟩:=h.at m;have r:Bj s=Bj p.1:=A.symm.trans o;obtain rfl:=VE r;have g:∀f,es[j]? =X f->({ f with key:=Bj p.1,val:=v }:MapEntry).key=f.key:=fun f i=>by grind
  refine⟨es.modify j (fun f=>{ f with key:=Bj p.1,val:=v }),c,?_,⟨Te h.lt,stamped_modify h.st _ _ (fun _ _=>rfl) (fun f _ i=>g f i),?_⟩⟩
  .simp[Instr.mapUpdate,run_underlying ht,MapKept.run_getObj_map h.blk,run_checkKey hk a,run_findKey hk q,D,A,run_keyThatStays a,MapKept.run_setObj_map _ h.blk,Result.andThen,setBlock]
  .rw[zt v h.keys C,Array.toList_modify,List.map_set,<-h.kv];apply GU;grind
def Abi{ty:Ay}(ht:P.underlying t=X (.map k e))(hk:P.underlying k=X .string)(h:Mp w b es c l)(s:Bg):
 ∃es',(Builtin.delete_ #[t,k] ty #[.map (X b),Bj s]).run P w=.ok (.tuple #[]) (setBlock w b (.map es' c))/\Mp (setBlock w b (.map es' c)) b es' c (Il l s):=by
 have a:IsKey .string (Bj s):=trivial;rcases findNow_spec a es.toList 0 h.isKey with⟨r,g⟩|⟨j,B,r,g,A⟩
 .refine⟨es,?_,⟨Te h.lt,h.st,?_⟩⟩
  .simp[Builtin.delete_,run_underlying ht,MapKept.run_getObj_map h.blk,run_checkKey hk a,run_findKey hk r,MapKept.run_setObj_map _ h.blk,Result.andThen,setBlock]
  .rw[h.kv];congr 1;unfold Il;refine(Ww.2 fun p m=>?_).symm;simp only[decide_eq_true_eq];exact fun z=>Zh h.kv g (z▸Ck.2 ⟨p,m,Z⟩)
 .have q:j<Aim es.toList:=(HF.1 g).1;have o:j<es.size:=by simpa using q
  have f:(es.eraseIdxIfInBounds j).toList=es.toList.eraseIdx j:=by
   unfold Array.eraseIdxIfInBounds;rw[AQ o];simp
  obtain⟨p,m,i,v⟩:=h.at g;obtain rfl:=VE (A.symm.trans i);refine⟨es.eraseIdxIfInBounds j,?_,⟨Te h.lt,stamped_erase h.st j,?_⟩⟩
  .simp[Builtin.delete_,run_underlying ht,MapKept.run_getObj_map h.blk,run_checkKey hk a,run_findKey hk r,MapKept.run_setObj_map _ h.blk,Result.andThen,setBlock]
  .rw[fP h.keys m,f,ChangeMaps.map_eraseIdx,h.kv,<-ChangeMaps.map_eraseIdx]
end
def It(w:Ad)(r b since:Y)(seen:Ap Y)(c:Y):Prop:=w.heap[r]? =X (.mapIter (X b) since seen c)
section
variable{P:AE}{R:AF->Ad->Prop}{ops:Ap AG}{rest:Ae AG}{k:Ae KI}{n:Y}{σ:BJ}{w:Ad}{x y z:AD}{t e kt ty:Ay}{pos:AJ}{after:Ap Edge}{gd:Av (Y×Aw)}{d:Y}
def du(f:BK ops σ gd=X Af)(i:BL d n=Af)
 (h:∀b w',w.heap.size<=b->Mp w' b #[] 0 []->Bf w w'->OW P R ops rest k n ((d,.map (X b))::σ) w'):
 OW P R ops (⟨X d,.makeMap t Aa,ty,pos,after,gd⟩::rest) k n σ w:=by
 refine OW.val f i (v:=.map (X w.heap.size)) (w':=w.alloc (.map #[] 0)) ?_ (h _ _ (Bq _) ⟨heap_alloc_new w _,⟨Bl,Bl,Bl⟩,Z⟩ (Bf.alloc w _));intro a m j pos after g;rfl
def EU.put{b c:Y}{es f:Ap MapEntry}{j:Y}{v:Ah}{s:Bg}(hx:ev σ x=X (.map (X b)))(o:ev σ y=X (Bj s))(m:ev σ z=X v)
 (h:(Instr.mapUpdate t (.map (X b)) (Bj s) v).run P w=.ok () (setBlock w b (.map f j))):EU P n σ (.mapUpdate t x y z) ty w (setBlock w b (.map f j)):=by
 intro a i p pos after g;simp only[execOp,i.ev hx,i.ev o,i.ev m,h,Sem.run_bind,Result.andThen_ok,Sem.run_pure]
def OW.put{b c:Y}{es:Ap MapEntry}{l:KU}{v:Ah}{s:Bg}(g:BK ops σ gd=X Af)(ht:P.underlying t=X (.map kt e))(hk:P.underlying kt=X .string)(hx:ev σ x=X (.map (X b)))(f:ev σ y=X (Bj s))(a:ev σ z=X v)(hm:Mp w b es c l)
 (h:∀es' c' w',Mp w' b es' c' (Hi l s v)->Mo w w' [b]->OW P R ops rest k n σ w'):
 OW P R ops (⟨Aa,.mapUpdate t x y z,ty,pos,after,gd⟩::rest) k n σ w:=by
 obtain⟨es',c',j,i⟩:=Abm ht hk hm s v;exact RX g (EU.put (c:=c) (es:=es) hx f a j) (h es' c' _ i (Zm w b _))
def qE{op:Op}{ty:Ay}{pos:AJ}{after:Ap Edge}{g:Av (Y×Aw)}{v:Ah}{w':Ad}(i:BK ops σ g=X Af)(he:EX P n σ op ty w v w')
 (h:OW P R ops rest k n σ w'):OW P R ops (⟨Aa,op,ty,pos,after,g⟩::rest) k n σ w:=fun a f=>by
 have j:=he a f Aa pos after g;unfold wpList;rw[Ai (IC f (o:=⟨Aa,op,ty,pos,after,g⟩) i)];refine .inl ?_;unfold Oper.wp;rw[j];exact h _ f
def OW.del{b c:Y}{es:Ap MapEntry}{l:KU}{s:Bg}(j:BK ops σ gd=X Af)(ht:P.underlying t=X (.map kt e))(hk:P.underlying kt=X .string)(hx:ev σ x=X (.map (X b)))(i:ev σ y=X (Bj s))(hm:Mp w b es c l)
 (h:∀es' c' w',Mp w' b es' c' (Il l s)->Mo w w' [b]->OW P R ops rest k n σ w'):
 OW P R ops (⟨Aa,.call { callee:=.builtin .delete,args:=#[x,y],argTypes:=#[t,kt] },ty,pos,after,gd⟩::rest) k n σ w:=by
 obtain⟨es',o,m⟩:=Abi (ty:=ty) ht hk hm s;refine qE j (v:=.tuple #[]) (w':=setBlock w b (.map es' c)) ?_ (h es' c _ m (Zm w b _));intro a f p pos after g;simp only[execOp,resolve,invoke,builtin,Sem.run_bind,Sem.run_pure,Result.andThen_ok,Gy,Cp,EO,f.ev hx,f.ev i,o]
def OW.range{b c:Y}{es:Ap MapEntry}{l:KU}(f:BK ops σ gd=X Af)(i:BL d n=Af)(ht:P.underlying t=X (.map kt e))(hx:ev σ x=X (.map (X b)))(hm:Mp w b es c l)
 (h:∀r w',w.heap.size<=r->It w' r b c #[] c->Bf w w'->OW P R ops rest k n ((d,.pointer (X ⟨r,0,Aa⟩))::σ) w'):
 OW P R ops (⟨X d,.range t x,ty,pos,after,gd⟩::rest) k n σ w:=by
 refine OW.val f i (v:=.pointer (X ⟨w.heap.size,0,Aa⟩)) (w':=w.alloc (.mapIter (X b) c #[] c)) ?_ (h _ _ (Bq _) (heap_alloc_new w _) (Bf.alloc w _));intro a j m pos after g;simp[execOp,Instr.range,j.ev hx,run_underlying ht,MapKept.run_getObj_map hm.blk,run_newObj_alloc,Sem.run_bind,Result.andThen_ok,Sem.run_pure]
def OW.next{r b c:Y}{es:Ap MapEntry}{l:KU}{f:Ap Y}(q:BK ops σ gd=X Af)(A:BL d n=Af)(hx:ev σ x=X (.pointer (X ⟨r,0,Aa⟩)))(hm:Mp w b es c l)(hi:It w r b c f c)
 (h0:(∀e∈es.toList,e.born∈f)->OW P R ops rest k n ((d,.tuple #[.bool Aj])::σ) w)
 (h1:∀(e:MapEntry) w',e∈es.toList->e.born∉f->It w' r b c (f.push e.born) c->Mo w w' [r]->OW P R ops rest k n ((d,.tuple #[.bool Af,e.key,e.val])::σ) w'):
 OW P R ops (⟨X d,.next x Aj,ty,pos,after,gd⟩::rest) k n σ w:=by
 have B:r<w.heap.size:=by
  rcases Db r w.heap.size with C|C
  .omega
  .unfold It at hi;grind
 rcases run_next_at (P:=P) w ty r b c c f es c hi hm.blk hm.st.1 (Bq _)with⟨h2,h3⟩|⟨e,i,w1,hw,h3⟩
 .refine OW.val q A (v:=.tuple #[.bool Aj]) (w':=w) ?_ (h0 ?_)
  .intro a o p pos after g;simp only[execOp,o.ev hx,h3,Sem.run_bind,Result.andThen_ok,Sem.run_pure]
  .intro e i;unfold leftOf at h2;simp_all
 .have h:e∈es.toList/\e.born∉f:=by
   unfold leftOf at i;simp at i;exact⟨Bh,i.2⟩
  have m:Mo w (setBlock w1 r (.mapIter (X b) c (f.push e.born) c)) [r]:=by
   refine Mo.trans ?_ (Zm w1 r _);rcases hw with rfl|rfl
   .exact Mo.refl _ _
   .exact Mo.Age (Bf.drew w) _
  have j:r<w1.heap.size:=by rcases hw with rfl|rfl<;>exact B
  refine OW.val q A (v:=.tuple #[.bool Af,e.key,e.val]) ?_ (h1 e _ h.1 h.2 (Te j) m);intro a o p pos after g;simp only[execOp,o.ev hx,h3,Sem.run_bind,Result.andThen_ok,Sem.run_pure]
def pc{r b c:Y}{es:Ap MapEntry}{l:KU}{f:Ap Y}{e:MapEntry}(hx:ev σ x=X (.pointer (X ⟨r,0,Aa⟩)))(hm:Mp w b es c l)(hi:It w r b c (f.push e.born) c)(he:e∈es.toList):
 EX P n σ (.entry x) ty w (.tuple #[e.key,e.val]) w:=by
 intro a h i pos after g;have:=run_entry_at (P:=P) w r b c f es c e hi hm.blk he hm.st.2.1;simp only[execOp,h.ev hx,this,Sem.run_bind,Result.andThen_ok,Sem.run_pure]
end
end
section
structure RP where
 round:Av Y
 m:Y
 ds:Ae Deferred
 post:AP->AF->Ad->Prop
def RP.F(R:RP):Fence:={ Fence.wide with round:=R.round }
structure FrD(R:RP)(n:Y)(σ:BJ)(a:AF):Prop where
 fr:Fr n σ { a with defers:=[] }
 df:a.defers=R.ds
section
variable{R:RP}{n:Y}{σ σ':BJ}{a:AF}
def FrD.ev(h:FrD R n σ a){x:AD}{v:Ah}(hx:ev σ x=X v):a.eval x=v:=by
 have:=h.fr.ev hx;assumption
def FrD.sub(h:FrD R n σ a)(hs:Eh σ' σ):FrD R n σ' a:=⟨h.fr.sub hs,h.df⟩
def FrD.put(h:FrD R n σ a){d:Y}(hd:BL d n=Af)(v:Ah):FrD R n ((d,v)::σ) (a.put (X d) v):=⟨h.fr.put hd v,h.df⟩
end
def Ct(P:AE)(R:RP):Ae KI->AP->AF->Ad->Prop
 |[],e=>R.post e
 |.code c::k,e=>match e with|.normal=>fun a w=>c.wpIn R.F R.m P (Ct P R k) a w|e=>Ct P R k e
 |.blk id::k,e=>match e with|.exit i=>fun a w=>if i=id then Ct P R k .normal a w else Ct P R k (.exit i) a w|e=>Ct P R k e
 |.asr I::k,e=>match e with|.normal=>I|e=>Ct P R k e
def KR(P:AE)(R:RP)(k:Ae KI)(n:Y)(σ:BJ)(w:Ad):Prop:=∀a,FrD R n σ a->Ct P R k .normal a w
section
variable{P:AE}{R:RP}{k:Ae KI}{n:Y}{σ:BJ}{w:Ad}
def zm(c:AL)(k:Ae KI):Ct P R (.code c::k)=Exit.then (fun a w=>c.wpIn R.F R.m P (Ct P R k) a w) (Ct P R k):=by
 funext e a w;cases e<;>simp[Ct,Exit.then]
def zk(id:Y)(k:Ae KI):Ct P R (.blk id::k)=Exit.inBlock id (Ct P R k):=by
 funext e a w;cases e<;>simp[Ct,Exit.inBlock]
def Vn{id:Y}:∀{k k':Ae KI},GI id k=X k'->∀a w,Ct P R k (.exit id) a w=Ct P R k' .normal a w
 |[],_,h,_,_=>by simp[GI]at h
 |.code c::k,k',h,a,w=>by simp[GI]at h;exact Vn h a w
 |.asr I::k,k',h,a,w=>by simp[GI]at h;exact Vn h a w
 |.blk i::k,k',h,a,w=>by
  simp[GI]at h;simp only[Ct];by_cases e:id=i
  .simp_all
  .have:Jw id i=Aj:=by
    cases hb:Jw _ i with
    |false=>rfl
    |true=>simp_all
   rw[this]at h;rw[Ag e];exact Vn h a w
def Vp:∀(k:Ae KI) (a:AF) (w:Ad),Ct P R k .ret a w=R.post .ret a w
 |[],_,_=>rfl
 |.code _::k,a,w=>Vp k a w
 |.blk _::k,a,w=>Vp k a w
 |.asr _::k,a,w=>Vp k a w
def BT{x y:AL}(h:KR P R (.code x::.code y::k) n σ w):KR P R (.code (.seq x y)::k) n σ w:=fun a f=>by
 have:=h a f;refine wpIn_seq ?_;rwa[<-zm]
def KR.block{id:Y}{c:AL}(h:KR P R (.code c::.blk id::k) n σ w):KR P R (.code (.block id c)::k) n σ w:=fun a f=>by
 have:=h a f;refine wpIn_block ?_;rwa[<-zk]
def KV{id:Y}(h:KR P R k n σ w):KR P R (.blk id::k) n σ w:=Cr
def KR.skip(h:KR P R k n σ w):KR P R (.code .skip::k) n σ w:=fun a f=>wpIn_skip (h a f)
def pR{l:Y}(h:KR P R k n σ w):KR P R (.code (.label l)::k) n σ w:=fun a f=>wpIn_label (h a f)
def Qa{id:Y}{f:Ae KI}(hk:GI id k=X f)(h:KR P R f n σ w):KR P R (.code (.exit id)::k) n σ w:=fun a g=>
 wpIn_exit (by rw[Vn hk];exact h a g)
def Ke(h:∀a,FrD R n σ a->R.post .ret a w):KR P R (.code .ret::k) n σ w:=fun a f=>wpIn_ret (by rw[Vp];grind)
def KR.done(h:∀a,FrD R n σ a->R.post .normal a w):KR P R [] n σ w:=h
def RJ{c:AD}{x y:AL}{b:Aw}(g:ev σ c=X (.bool b))(ht:b=Af->KR P R (.code x::k) n σ w)(hf:b=Aj->KR P R (.code y::k) n σ w):
 KR P R (.code (.cond c x y)::k) n σ w:=fun a f=>
 wpIn_cond_split (f.ev g) (fun e=>ht e a f) (fun e=>hf e a f)
def LW{c:AD}{x y:AL}{p:Prop}[Decidable p](hc:ev σ c=X (.bool (decide p)))(ht:p->KR P R (.code x::k) n σ w)(hf:¬p->KR P R (.code y::k) n σ w):
 KR P R (.code (.cond c x y)::k) n σ w:=
 RJ hc Bh Bh
def PZ{c:AD}{x y:AL}(hc:ev σ c=X (.bool Af))(h:KR P R (.code x::k) n σ w):KR P R (.code (.cond c x y)::k) n σ w:=
 RJ hc (fun _=>h) Bl
def RL{c:AD}{x y:AL}(hc:ev σ c=X (.bool Aj))(h:KR P R (.code y::k) n σ w):KR P R (.code (.cond c x y)::k) n σ w:=
 RJ hc Bl (fun _=>h)
def WO{ι:Type}(R:RP)(n:Y)(I:ι->Prop)(S:ι->BJ)(W:ι->Ad)(a:AF)(w:Ad):Prop:=∃i,I i/\FrD R n (S i) a/\w=W i
def KR.cut{ι:Type}(I:ι->Prop)(S:ι->BJ)(W:ι->Ad){c:AL}(h:KR P R (.code c::.asr (WO R n I S W)::k) n σ w)(h2:∀i,I i->KR P R k n (S i) (W i)):
 KR P R (.code c::k) n σ w:=fun a o=>by
 have f:=h a o;simp[Ct]at f ⊢;refine Code.wpIn_mono (fun e p w' q=>?_) f;cases e with
 |normal=>obtain⟨i,g,j,rfl⟩:=q;exact h2 i g _ j
 |_=>omega
def pW{ι:Type}{I:ι->Prop}{S:ι->BJ}{W:ι->Ad}(i:ι)(hs:Eh (S i) σ)(hw:w=W i)(hi:I i):KR P R (.asr (WO R n I S W)::k) n σ w:=
 fun _ ha=>⟨i,hi,ha.sub hs,hw⟩
def Ry{ι:Type}(R:RP)(n:Y)(I:ι->Prop)(S:ι->BJ)(W:ι->Ad)(μ:ι->Y)(i:ι)(a:AF)(w:Ad):Prop:=∃j,I j/\μ j<μ i/\FrD R n (S j) a/\w=W j
def KR.back{ι:Type}{I:ι->Prop}{S:ι->BJ}{W:ι->Ad}{μ:ι->Y}{i:ι}(j:ι)(g:Eh (S j) σ)(f:w=W j)(hi:I j)(hm:μ j<μ i):
 KR P R (.asr (Ry R n I S W μ i)::k) n σ w:=fun _ h=>⟨j,hi,hm,h.sub g,f⟩
def Wq{ι:Type}(I:ι->Prop)(S:ι->BJ)(W:ι->Ad)(μ:ι->Y){c:AL}(i:ι)(K:Eh (S i) σ)(G:w=W i)(hi:I i)
 (f:∀i,I i->KR P R (.code c::.asr (Ry R n I S W μ i)::k) n (S i) (W i)):KR P R (.code (.loop c)::k) n σ w:=fun a ha=>by
 let M (a:AF) (w:Ad) (m:Y):=∃i,I i/\FrD R n (S i) a/\w=W i/\μ i=m
 have p:∀a w,(∃m,M a w m)->∃m,M a w m/\∀m',M a w _->m<=m':=fun a w⟨m,o⟩=>jN _ m o
 let ν (a:AF) (w:Ad):=Classical.epsilon fun m=>M a w m/\∀m',M a w m'->m<=m'
 have C:∀a w,(∃m,M a w m)->M a w (ν a w)/\∀m',M a w _->ν a w<=m':=fun a w h=>Classical.epsilon_spec (p a w h);refine wpIn_loop (fun a w=>∃m,M a w m) ν ⟨_,i,hi,ha.sub K,G,Z⟩ fun a' w' o=>?_;obtain⟨⟨j,N,V,g,L⟩,_⟩:=C a' w' o;have h:=f j N _ V;subst g;refine Code.wpIn_mono (fun e ab E q=>?_) h;cases e with
 |normal=>
  obtain⟨j',B,h2,A,r⟩:=q;refine⟨⟨_,_,B,A,r,Z⟩,?_⟩;have:=(C _ _ ⟨_,_,B,A,r,Z⟩).2 _ ⟨_,B,A,r,Z⟩;omega
 |_=>exact q
end
section
variable{P:AE}{R:RP}{k:Ae KI}{n:Y}{σ:BJ}{w:Ad}
def bS{α:Type}(R:RP)(n:Y)(I:α->Prop)(S:α->BJ)(W:α->Ad)(μ:α->Y)(x0:α):AF->Ad->Prop:=
 Ry R n (fun p:α=>I p) (fun p=>S p) (fun p=>W p) (fun p=>μ p) x0
def pT{α:Type}(I:α->Prop)(S:α->BJ)(W:α->Ad)(μ:α->Y){c:AL}(x0:α)(hs:Eh (S x0) σ)(hw:w=W x0)(hi:I x0)
 (round:∀x0,I x0->KR P R (.code c::.asr (bS R n I S W μ x0)::k) n (S x0) (W x0)):KR P R (.code (.loop c)::k) n σ w:=
 Wq (fun p:α=>I p) (fun p=>S p) (fun p=>W p) (fun p=>μ p) x0 hs hw hi fun p hp=>round p hp
def pO{α:Type}{I:α->Prop}{S:α->BJ}{W:α->Ad}{μ:α->Y}{g:α}(f:α)(i:Eh (S f) σ)(h:w=W f)(hi:I f)(hm:μ f<μ g):
 KR P R (.asr (bS R n I S W μ g)::k) n σ w:=
 KR.back (I:=fun p:α=>I p) (S:=fun p=>S p) (W:=fun p=>W p) (μ:=fun p=>μ p) f i h hi hm
def dj{α β:Type}(R:RP)(n:Y)(I:α->β->Prop)(S:α->β->BJ)(W:α->β->Ad):AF->Ad->Prop:=
 WO R n (fun p:α×β=>I p.1 p.2) (fun p=>S p.1 p.2) (fun p=>W p.1 p.2)
def cU{α β:Type}(I:α->β->Prop)(S:α->β->BJ)(W:α->β->Ad){c:AL}(h:KR P R (.code c::.asr (dj R n I S W)::k) n σ w)
 (h2:∀x0 x1,I x0 x1->KR P R k n (S x0 x1) (W x0 x1)):KR P R (.code c::k) n σ w:=
 KR.cut (fun p:α×β=>I p.1 p.2) (fun p=>S p.1 p.2) (fun p=>W p.1 p.2) h Bh
def LX{α β:Type}{I:α->β->Prop}{S:α->β->BJ}{W:α->β->Ad}(g:α)(f:β)(i:Eh (S g f) σ)(h:w=W g f)(hi:I g f):
 KR P R (.asr (dj R n I S W)::k) n σ w:=
 pW (I:=fun p:α×β=>I p.1 p.2) (S:=fun p=>S p.1 p.2) (W:=fun p=>W p.1 p.2) (g,f) i h hi
def bT{α β γ:Type}(R:RP)(n:Y)(I:α->β->γ->Prop)(S:α->β->γ->BJ)(W:α->β->γ->Ad)(μ:α->β->γ->Y)(x0:α)(x1:β)(x2:γ):AF->Ad->Prop:=
 Ry R n (fun p:α×β×γ=>I p.1 p.2.1 p.2.2) (fun p=>S p.1 p.2.1 p.2.2) (fun p=>W p.1 p.2.1 p.2.2) (fun p=>μ p.1 p.2.1 p.2.2) (x0,x1,x2)
def pU{α β γ:Type}(I:α->β->γ->Prop)(S:α->β->γ->BJ)(W:α->β->γ->Ad)(μ:α->β->γ->Y){c:AL}(x0:α)(x1:β)(x2:γ)(hs:Eh (S x0 x1 x2) σ)(hw:w=W x0 x1 x2)(hi:I x0 x1 x2)
 (round:∀x0 x1 x2,I x0 x1 x2->KR P R (.code c::.asr (bT R n I S W μ x0 x1 x2)::k) n (S x0 x1 x2) (W x0 x1 x2)):KR P R (.code (.loop c)::k) n σ w:=
 Wq (fun p:α×β×γ=>I p.1 p.2.1 p.2.2) (fun p=>S p.1 p.2.1 p.2.2) (fun p=>W p.1 p.2.1 p.2.2) (fun p=>μ p.1 p.2.1 p.2.2) (x0,x1,x2) hs hw hi fun p hp=>round p.1 p.2.1 p.2.2 hp
def pP{α β γ:Type}{I:α->β->γ->Prop}{S:α->β->γ->BJ}{W:α->β->γ->Ad}{μ:α->β->γ->Y}{o:α}{j:β}{i:γ}(h:α)(g:β)(f:γ)(r:Eh (S h g f) σ)(q:w=W h g f)(hi:I h g f)(hm:μ h g f<μ o j i):
 KR P R (.asr (bT R n I S W μ o j i)::k) n σ w:=
 KR.back (I:=fun p:α×β×γ=>I p.1 p.2.1 p.2.2) (S:=fun p=>S p.1 p.2.1 p.2.2) (W:=fun p=>W p.1 p.2.1 p.2.2) (μ:=fun p=>μ p.1 p.2.1 p.2.2) (h,g,f) r q hi hm
def bU{α β γ δ:Type}(R:RP)(n:Y)(I:α->β->γ->δ->Prop)(S:α->β->γ->δ->BJ)(W:α->β->γ->δ->Ad)(μ:α->β->γ->δ->Y)(x0:α)(x1:β)(x2:γ)(x3:δ):AF->Ad->Prop:=
 Ry R n (fun p:α×β×γ×δ=>I p.1 p.2.1 p.2.2.1 p.2.2.2) (fun p=>S p.1 p.2.1 p.2.2.1 p.2.2.2) (fun p=>W p.1 p.2.1 p.2.2.1 p.2.2.2) (fun p=>μ p.1 p.2.1 p.2.2.1 p.2.2.2) (x0,x1,x2,x3)
def pV{α β γ δ:Type}(I:α->β->γ->δ->Prop)(S:α->β->γ->δ->BJ)(W:α->β->γ->δ->Ad)(μ:α->β->γ->δ->Y){c:AL}(x0:α)(x1:β)(x2:γ)(x3:δ)(hs:Eh (S x0 x1 x2 x3) σ)(hw:w=W x0 x1 x2 x3)(hi:I x0 x1 x2 x3)
 (round:∀x0 x1 x2 x3,I x0 x1 x2 x3->KR P R (.code c::.asr (bU R n I S W μ x0 x1 x2 x3)::k) n (S x0 x1 x2 x3) (W x0 x1 x2 x3)):KR P R (.code (.loop c)::k) n σ w:=
 Wq (fun p:α×β×γ×δ=>I p.1 p.2.1 p.2.2.1 p.2.2.2) (fun p=>S p.1 p.2.1 p.2.2.1 p.2.2.2) (fun p=>W p.1 p.2.1 p.2.2.1 p.2.2.2) (fun p=>μ p.1 p.2.1 p.2.2.1 p.2.2.2) (x0,x1,x2,x3) hs hw hi fun p hp=>round p.1 p.2.1 p.2.2.1 p.2.2.2 hp
def Wp{α β γ δ:Type}{I:α->β->γ->δ->Prop}{S:α->β->γ->δ->BJ}{W:α->β->γ->δ->Ad}{μ:α->β->γ->δ->Y}{r:α}{q:β}{o:γ}{j:δ}(i:α)(h:β)(g:γ)(f:δ)(B:Eh (S i h g f) σ)(A:w=W i h g f)(hi:I i h g f)(hm:μ i h g f<μ r q o j):
 KR P R (.asr (bU R n I S W μ r q o j)::k) n σ w:=
 KR.back (I:=fun p:α×β×γ×δ=>I p.1 p.2.1 p.2.2.1 p.2.2.2) (S:=fun p=>S p.1 p.2.1 p.2.2.1 p.2.2.2) (W:=fun p=>W p.1 p.2.1 p.2.2.1 p.2.2.2) (μ:=fun p=>μ p.1 p.2.1 p.2.2.1 p.2.2.2) (i,h,g,f) B A hi hm
end
def OR(P:AE)(R:RP)(ops:Ap AG)(l:Ae AG)(k:Ae KI)(n:Y)(σ:BJ)(w:Ad):Prop:=∀a,FrD R n σ a->wpListIn R.F R.m P ops (Ct P R k) l a w
section
variable{P:AE}{R:RP}{ops:Ap AG}{l rest:Ae AG}{k:Ae KI}{n:Y}{σ:BJ}{w w':Ad}
def KR.region{id:Y}(h:OR P R l.toArray l k n σ w):KR P R (.code (.region id l.toArray Aj)::k) n σ w:=fun a f=>wpIn_region_lit (h a f)
def OR.nil(h:KR P R k n σ w):OR P R ops [] k n σ w:=h
def FrD.as{a:AF}(t:Y)(v':Ah){v:Ah}(ht:lk σ t=X v)(e:v=v')(ha:FrD R n σ a):FrD R n ((t,v')::σ) a:=
 ⟨⟨ha.fr.size,fun i u hu=>by
  rw[Ph]at hu;by_cases e':t=i
  .subst e';simp at hu;subst hu;rw[<-e];exact ha.fr.val t _ ht
  .simp[e']at hu;exact ha.fr.val i u hu,Bl⟩,ha.df⟩
def OR.as(t:Y)(f:Ah){v:Ah}(ht:lk σ t=X v)(e:v=f)(h:OR P R ops l k n ((t,f)::σ) w):OR P R ops l k n σ w:=fun a g=>h a (g.as t f ht e)
def KR.as(t:Y)(f:Ah){v:Ah}(ht:lk σ t=X v)(e:v=f)(h:KR P R k n ((t,f)::σ) w):KR P R k n σ w:=fun a g=>h a (g.as t f ht e)
def OR.split(t:Y){b:Aw}(ht:lk σ t=X (.bool b))(h1:b=Af->OR P R ops l k n ((t,.bool Af)::σ) w)(h2:b=Aj->OR P R ops l k n ((t,.bool Aj)::σ) w):OR P R ops l k n σ w:=by
 cases b with
 |true=>exact OR.as t _ ht Z (h1 Z)
 |false=>exact OR.as t _ ht Z (h2 Z)
def Qo(t:Y){p:Prop}[Decidable p](ht:lk σ t=X (.bool (decide p)))(h1:p->OR P R ops l k n ((t,.bool Af)::σ) w)(h2:¬p->OR P R ops l k n ((t,.bool Aj)::σ) w):OR P R ops l k n σ w:=
 OR.split t ht Bh Bh
def Rv{a:AF}(ha:FrD R n σ a){o:AG}{b:Aw}(h:BK ops σ o.guard=X b):Region.wanted o (yielded ops a.tmps)=b:=IC ha.fr h
def RP.semAt(R:RP){ρ:AD->Ah}{o:AG}{r:Result Next}{w:Ad}(h:(execOp ρ o).run P w=r)(f:∀c,o.op≠.defer c):(o.semAt R.F.round ρ).run P w=r:=by rw[Oper.semAt_eq _ _ _ f];omega
def EX.noDefer{op:Op}{ty:Ay}{v:Ah}(he:EX P n σ op ty w v w'){a:AF}(f:Fr n σ a):∀c,op≠.defer c:=fun c e=>by
 subst e;have h:=he a f Aa "" #[] Aa;unfold execOp at h;simp only[Sem.run_bind]at h;unfold Result.andThen at h;split at h<;>simp at h
def EU.noDefer{op:Op}{ty:Ay}(he:EU P n σ op ty w w'){a:AF}(f:Fr n σ a):∀c,op≠.defer c:=fun c e=>by
 subst e;have h:=he a f Aa "" #[] Aa;unfold execOp at h;simp only[Sem.run_bind]at h;unfold Result.andThen at h;split at h<;>simp at h
def EC.noDefer{op:Op}{ty:Ay}{f:FuncId}{args:Ap Ah}(he:EC P n σ op ty w f args){a:AF}(g:Fr n σ a):∀c,op≠.defer c:=fun c e=>by
 subst e;have h:=he a g Aa "" #[] Aa;unfold execOp at h;simp only[Sem.run_bind]at h;unfold Result.andThen at h;split at h<;>simp at h
def Sz(a:AF):({ a with defers:=[] }:AF).eval=a.eval:=by rfl
def OR.val{d:Y}{op:Op}{ty:Ay}{pos:AJ}{after:Ap Edge}{g:Av (Y×Aw)}{v:Ah}(j:BK ops σ g=X Af)(o:BL d n=Af)(he:EX P n σ op ty w v w')
 (h:OR P R ops rest k n ((d,v)::σ) w'):OR P R ops (⟨X d,op,ty,pos,after,g⟩::rest) k n σ w:=fun a f=>by
 have i:=he _ f.fr (X d) pos after g;rw[Sz]at i;unfold wpListIn;rw[Ai (Rv f j)];refine⟨fun _ _=>trivial,?_⟩;rw[R.semAt i (he.noDefer f.fr)];exact h _ (f.put o v)
def dq{op:Op}{ty:Ay}{pos:AJ}{after:Ap Edge}{g:Av (Y×Aw)}(j:BK ops σ g=X Af)(he:EU P n σ op ty w w')
 (h:OR P R ops rest k n σ w'):OR P R ops (⟨Aa,op,ty,pos,after,g⟩::rest) k n σ w:=fun a f=>by
 have i:=he _ f.fr Aa pos after g;rw[Sz]at i;unfold wpListIn;rw[Ai (Rv f j)];refine⟨fun _ _=>trivial,?_⟩;rw[R.semAt i (he.noDefer f.fr)];exact h _ f
def Hr{d:Y}{op:Op}{ty:Ay}{pos:AJ}{after:Ap Edge}{g:Av (Y×Aw)}(i:BK ops σ g=X Aj)(j:BL d n=Af)
 (h:OR P R ops rest k n ((d,undef)::σ) w):OR P R ops (⟨X d,op,ty,pos,after,g⟩::rest) k n σ w:=fun a f=>by
 unfold wpListIn;rw[Ag (by rw[Rv f i];simp)];exact⟨fun _ _=>trivial,h _ (f.put j undef)⟩
def eu{r:Av Y}{m:Y}{f:FuncId}{args:Ap Ah}{Q:Ending->Ad->Prop}(h:Calls P f args w Q):CallsIn { Fence.wide with round:=r } m P f args w Q:=by
 have g:CallsIn _ m P f _ w Q:=callsIn_wide.2 h;exact g
def dp{d:Y}{op:Op}{ty:Ay}{pos:AJ}{after:Ap Edge}{g:Av (Y×Aw)}{f:FuncId}{args:Bm}{Q:Ah->Ad->Prop}(p:BK ops σ g=X Af)(r:BL d n=Af)
 (he:EC P n σ op ty w f args.toArray) (A:Bn P f args w Q) (h:∀v w',Q v w'->OR P R ops rest k n ((d,v)::σ) w'):OR P R ops (⟨X d,op,ty,pos,after,g⟩::rest) k n σ w:=fun a i=>by
 have j:=he _ i.fr (X d) pos after g;rw[Sz]at j;unfold wpListIn;rw[Ai (Rv i p)];refine⟨fun _ _=>trivial,?_⟩;rw[R.semAt j (he.noDefer i.fr)];refine⟨fun q=>(by cases q),?_⟩;refine eu (A.2.mono fun e o⟨v,he,q⟩=>?_);subst he;exact h v _ q _ (i.put r v)
def OR.call{d:Y}{f:FuncId}{xs:Ae AD}{i:Ap Ay}{ty:Ay}{pos:AJ}{after:Ap Edge}{g:Av (Y×Aw)}{vs:Bm}{Q:Ah->Ad->Prop}
 (o:BK ops σ g=X Af) (p:BL d n=Af) (hx:evs σ xs=X vs) (j:Bn P f vs w Q) (h:∀v w',Q v w'->OR P R ops rest k n ((d,v)::σ) w'):
 OR P R ops (⟨X d,.call { callee:=.value (.func f),args:=xs.toArray,argTypes:=i },ty,pos,after,g⟩::rest) k n σ w:=by
 obtain⟨⟨fn,r,q⟩,_⟩:=id j;exact dp o p (RC r q hx) j h
def Ug(P:AE)(m l:Y)(args:Bm)(W:Ad)(Q:Ah->Ad->Prop):Prop:=YieldAt Fence.wide m P l args.toArray W fun e W'=>∃v,e=.returned v/\Q v W'
def WS{d:Y}{x t:AD}{j:Ap Ay}{ty:Ay}{pos:AJ}{after:Ap Edge}{g:Av (Y×Aw)}{p:Y}{v:Ah}{Q:Ah->Ad->Prop}(W:R.round=Aa)
 (C:BK ops σ g=X Af) (G:BL d n=Af) (ht:ev σ t=X (.func (.yield p) #[] #[])) (hx:ev σ x=X v) (I:Ug P (R.m-1) p [v] w Q)
 (h:∀u w',Q u w'->OR P R ops rest k n ((d,u)::σ) w'):
 OR P R ops (⟨X d,.call { callee:=.value t,args:=#[x],argTypes:=j },ty,pos,after,g⟩::rest) k n σ w:=fun a o=>by
 obtain⟨V,m,S,i⟩:=R;obtain⟨fn,f,assign,body,B,K⟩:=I;have N:=by have:=o.fr.ev ht;rwa[Sz]at this
 have ex:=by have:=o.fr.ev hx;rwa[Sz]at this
 unfold wpListIn;rw[Ai (Rv o C)];refine⟨fun _ _=>trivial,?_⟩
 have L:(execOp a.eval ⟨X d,.call { callee:=.value t,args:=#[x],argTypes:=j },ty,pos,after,g⟩).run P w=.ok (.round p fn f assign body) w:=by
  simp[execOp,resolve,Deferred.ofValue,N,invoke];simpa[ex]using B
 rw[RP.semAt _ L Bl];refine⟨fun q=>(by cases q),?_⟩;have r:RoundIn (RP.F ⟨_,m,S,i⟩) (m-1) P _ _ _ _ _ w _:=K;refine r.mono fun e A⟨u,E,q⟩=>?_;subst E;exact h u _ q _ (o.put G u)
end
section
variable{P:AE}{R:RP}{ops:Ap AG}{rest:Ae AG}{k:Ae KI}{n:Y}{σ:BJ}{w:Ad}{x y t:AD}{T T' e ty:Ay}{pos:AJ}{after:Ap Edge}{gd:Av (Y×Aw)}{d:Y}{v z:Ah}{s bs:Y}{l:Bm}
def qj(hg:BK ops σ gd=X Af)(hd:BL d n=Af)(hx:ev σ x=X v)(h1:v.oneCell'=Af)
 (h:∀b w',w.heap.size<=b->Bk w' b T [v]->Bf w w'->OR P R ops rest k n ((d,.pointer (X ⟨b,0,Aa⟩))::σ) w'):
 OR P R ops (⟨X d,.box T x,ty,pos,after,gd⟩::rest) k n σ w:=
 OR.val hg hd (bV hx h1) (h _ _ J (Bk.new w T [v]) (Bf.alloc w _))
def Jz(hg:BK ops σ gd=X Af)(hd:BL d n=Af)(hi:TI P T z s bs)(hl:z.cells.toList=l)
 (h:∀b w',w.heap.size<=b->Bk w' b T l->Bf w w'->OR P R ops rest k n ((d,.pointer (X ⟨b,0,Aa⟩))::σ) w'):
 OR P R ops (⟨X d,.alloc T,ty,pos,after,gd⟩::rest) k n σ w:=
 OR.val hg hd (EX.alloc hi hl) (h _ _ J (Bk.new w T l) (Bf.alloc w _))
def JA{b i:Y}(hg:BK ops σ gd=X Af)(hi:TI P T z 1 bs)(hx:ev σ x=X (.pointer (X ⟨b,i,Aa⟩)))(hy:ev σ y=X v)(h1:v.oneCell'=Af)(hb:Bk w b T' l)(hlt:i<Aim l)
 (h:∀w',Bk w' b T' (l.set i v)->Mo w w' [b]->OR P R ops rest k n σ w'):
 OR P R ops (⟨Aa,.store T x y,ty,pos,after,gd⟩::rest) k n σ w:=
 dq hg (RD hi hx hy h1 hb hlt) (h _ (hb.set i v) (Mo.set w b i v))
def dm{BO:Ap (Y×AD)}{vs:Bm}(len:Y)(hg:BK ops σ gd=X Af)(hd:BL d n=Af)(ht:P.underlying T=X (.slice e))(hi:TI P e z 1 bs)(hz1:z.oneCell'=Af)
 (hv:evs σ (BO.toList.map (·.2))=X vs) (hp:BO.toList.map (·.1)=GX 0 (Aim BO.toList)) (hl:Aim vs=len) (h1:vs.all (·.oneCell')=Af) (hlen:len<=16777216)
 (h:∀b w',w.heap.size<=b->Bk w' b e vs->Bf w w'->OR P R ops rest k n ((d,.slice (X ⟨b,0,Aa⟩) len len)::σ) w'):
 OR P R ops (⟨X d,.buildSlice T len BO,ty,pos,after,gd⟩::rest) k n σ w:=
 OR.val hg hd (EX.buildSlice len ht hi hz1 hv hp hl h1 hlen) (h _ _ J (Bk.new w e vs) (Bf.alloc w _))
def Qn{f:FuncId}{xs:Ae AD}{g:Ap Ay}{vs j o args:Bm}{Q:Ah->Ad->Prop}
 (p:BK ops σ gd=X Af) (q:BL d n=Af) (ht:ev σ t=X (.func (.func f) j.toArray o.toArray)) (hx:evs σ xs=X vs) (he:j++vs++o=args) (i:Bn P f args w Q)
 (h:∀v w',Q v w'->OR P R ops rest k n ((d,v)::σ) w'):
 OR P R ops (⟨X d,.call { callee:=.value t,args:=xs.toArray,argTypes:=g },ty,pos,after,gd⟩::rest) k n σ w:=by
 obtain⟨⟨fn,A,r⟩,_⟩:=id i;exact dp p q (EC.val A r ht hx he) i h
end
section
variable{P:AE}{R:RP}{ops:Ap AG}{rest:Ae AG}{k:Ae KI}{n:Y}{σ:BJ}{w:Ad}{x y:AD}{t t' e ty:Ay}{pos:AJ}{after:Ap Edge}{gd:Av (Y×Aw)}{d:Y}
def OR.append(B:Y){z:Ah}{s bs:Y}(K:BK ops σ gd=X Af)(L:BL d n=Af)(ht:P.underlying t=X (.slice e))(hi:TI P e z s bs)(p:z.cells.size=s)(q:0<s)
 {v C:Ah} {m l:Y} {xs i:Bm} (hx:ev σ x=X v) (G:ev σ y=X C) (o:Bp w B e s v l xs) (j:Src P s t' C m i w)
 (r:l+m<=maxLen) (f:(l+m)*bs<=140737488355328) (N:B<=w.heap.size)
 (h:∀v' w',Bp w' B e s v' (l+m) (xs++i)->w.grownBy w' v.ownBlock->(v'.ownBlock=v.ownBlock∨v'.ownBlock=X w.heap.size)->OR P R ops rest k n ((d,v')::σ) w'):
 OR P R ops (⟨X d,.call { callee:=.builtin .append,args:=#[x,y],argTypes:=#[t,t'] },ty,pos,after,gd⟩::rest) k n σ w:=by
 obtain⟨v',w',I,h2,W,V⟩:=Vz (P:=P) B t t' ty e ht hi p q o j r f N;refine OR.val K L (v:=v') (w':=w') ?_ Bh;intro A E S pos after g;simp[execOp,resolve,invoke,builtin,Sem.run_bind,Sem.run_pure,Result.andThen_ok,Gy,Cp,EO,E.ev hx,E.ev G,I]
end
section
variable{P:AE}{R:RP}{ops:Ap AG}{rest:Ae AG}{k:Ae KI}{n:Y}{σ:BJ}{w w0:Ad}{x y:AD}{t t' e ty ty1:Ay}{pos pos1:AJ}{after after1:Ap Edge}{gd gd1:Av (Y×Aw)}{d d1:Y}
def qi{z:Ah}{s bs:Y}(hg:BK ops σ gd=X Af)(hd:BL d n=Af)(ht:P.underlying t=X (.slice e))(hi:TI P e z s bs)(hzs:z.cells.size=s)(hs0:0<s)
 {v xv:Ah} {m l:Y} {xs news:Bm} (hx:ev σ x=X v) (hy:ev σ y=X xv) (hext:Bf w0 w) (hown:Bp w w0.heap.size e s v l xs) (hsrc:Src P s t' xv m news w)
 (h63:l+m<=maxLen) (hbytes:(l+m)*bs<=140737488355328)
 (h:∀v' w',Bp w' w0.heap.size e s v' (l+m) (xs++news)->Bf w0 w'->w.grownBy w' v.ownBlock->(v'.ownBlock=v.ownBlock∨v'.ownBlock=X w.heap.size)->OR P R ops rest k n ((d,v')::σ) w'):
 OR P R ops (⟨X d,.call { callee:=.builtin .append,args:=#[x,y],argTypes:=#[t,t'] },ty,pos,after,gd⟩::rest) k n σ w:=
 OR.append w0.heap.size hg hd ht hi hzs hs0 hx hy hown hsrc h63 hbytes hext.size fun v' w' h1 h2 h3=>h v' w' h1 (hext.grown h2 fun g hg=>(hown.lt g hg).1) h2 h3
def OR.push{z:Ah}{bs:Y}(C:BK ops σ gd1=X Af)(E:BL d1 n=Af)(S:∀u,BK ops ((d1,u)::σ) gd=X Af)(V:BL d n=Af)(ht:P.underlying t=X (.slice e))(hi:TI P e z 1 bs)(i:z.oneCell'=Af)
 {v u:Ah} {l:Y} {xs:Bm} (L:ev σ y=X u) (hx:∀q,ev ((d1,q)::σ) x=X v) (hu:u.oneCell'=Af) (p:Bf w0 w) (o:Bp w w0.heap.size e 1 v l xs)
 (G:l+1<=maxLen) (f:(l+1)*bs<=140737488355328)
 (h:∀q v' w',Bp w' w0.heap.size e 1 v' (l+1) (xs++[u])->Bf w0 w'->w.grownBy w' v.ownBlock->(v'.ownBlock=v.ownBlock∨∃g,v'.ownBlock=X g/\w.heap.size<=g)->OR P R ops rest k n ((d,v')::(d1,q)::σ) w'):
 OR P R ops (⟨X d1,.buildSlice t 1 #[(0,y)],ty1,pos1,after1,gd1⟩::⟨X d,.call { callee:=.builtin .append,args:=#[x,.tmp d1],argTypes:=#[t,t] },ty,pos,after,gd⟩::rest) k n σ w:=by
 refine OR.val C E (EX.buildSlice (vs:=[u]) 1 ht hi i (by simp[evs,L]) Z Z Bh Bc) ?_;have A:Bf _ (w.alloc (.cells [u].toArray e)):=p.trans (Bf.alloc w _);have K:=Bk.new w e [u];refine qi (S _) V ht hi (LF i▸Z) Bc (hx _) (Pj _ _ _) A (o.alloc _) (Src.Agh ht (Sl.Agf K K.lt) Z Bh Bc) G f ?_;intro v' w' h1 W r I;refine h _ _ _ h1 W ⟨r.os,r.tape,r.output,by have:=r.size;simp_all;omega,fun j N B=>?_⟩ ?_
 .rw[r.block j Bx B];exact Below.heap_alloc w _ j N
 .rcases I with I|I
  .grind
  .simp_all
end
def RP.mark(R:RP)(D:Y):RP:={ R with ds:={ target:=.collected D,args:=#[] }::R.ds }
def Py{P:AE}{R:RP}{D:Y}:∀(k:Ae KI) (e:AP),Ct P (R.mark D) k e=Ct P R k e
 |[],e=>rfl
 |.code c::k,e=>by
  have ih:Ct P (R.mark D) k=Ct P R k:=funext (Py k);cases e<;>(simp[Ct,ih];try rfl)
 |.blk id::k,e=>by
  have ih:Ct P (R.mark D) k=Ct P R k:=funext (Py k);cases e<;>simp[Ct,ih]
 |.asr I::k,e=>by
  have ih:Ct P (R.mark D) k=Ct P R k:=funext (Py k);cases e<;>simp[Ct,ih]
section
variable{P:AE}{R:RP}{k:Ae KI}{n:Y}{σ:BJ}{w:Ad}
def Rq{b:Frame}{a:AF}{c:AL}{k:Ae Item}{cs:Ae Frame}:step P (lone (b.atR a (.code (.scope c)::k)) cs w)=.next (lone (b.atR a (.code c::.inScope c::k)) cs w):=
 step_lone_go (by rfl)
def Acw{b:Frame}{a:AF}{c:AL}{k:Ae Item}{cs:Ae Frame}:step P (lone (b.atR a (.inScope c::k)) cs w)=.next (lone (b.atR a k) cs w):=
 step_lone_go (by rfl)
def Afk{F:Fence}{n:Y}{a:AF}{Q:AP->AF->Ad->Prop}{c:AL}(h:c.wpIn F n P Q a w)(G:∀l a w,Q (.goto l) a w->False):(Code.scope c).wpIn F n P Q a w:=by
 intro b k B j r p;have g:(lone (b.atR a (.code (.scope c)::k)) _ w).fenced P F:=fenced_calm r p Z;obtain⟨e,I,C,i,f⟩:=h b (.inScope c::k) B j r p;cases e with
 |normal=>exact⟨_,_,_,i,.head g Rq (StepsIn.trans f (.one (fenced_calm r p Z) Acw))⟩
 |exit id=>
  have A:exitTo id (.inScope c::k)=exitTo id k:=by simp[exitTo]
  exact⟨_,_,_,i,fun E q=>.head g Rq (f.1 _ (A▸q)),
   fun o q=>let ⟨_,h1,h2⟩:=f.2 o (A▸q);⟨_,h1,.head g Rq h2⟩⟩
 |goto l=>grind
 |ret=>exact⟨_,_,_,i,.of_steps (.one g Rq) f⟩
 |panic ch=>exact⟨_,_,_,i,.of_steps (.one g Rq) f⟩
 |outgrown=>exact⟨_,_,_,i,.of_steps (.one g Rq) f⟩
def Vo{l:Y}:∀(k:Ae KI) (a:AF) (w:Ad),Ct P R k (.goto l) a w=R.post (.goto l) a w
 |[],_,_=>rfl
 |.code _::k,a,w=>Vo k a w
 |.blk _::k,a,w=>Vo k a w
 |.asr _::k,a,w=>Vo k a w
def KR.scope{c:AL}(f:∀l a w,R.post (.goto l) a w->False)(h:KR P R (.code c::k) n σ w):KR P R (.code (.scope c)::k) n σ w:=fun a g=>
 Afk (h a g) (fun l a w q=>f l a w (by rw[Vo]at q;omega))
def pQ{id:Y}(hk:GI id k=Aa)(h:∀a,FrD R n σ a->R.post (.exit id) a w):KR P R (.code (.exit id)::k) n σ w:=fun a g=>by
 refine wpIn_exit ?_
 have f:∀k,GI id k=Aa->Ct P R k (.exit id) a w=R.post (.exit id) a w:=by
  intro k
  induction k with
  |nil=>intro _;rfl
  |cons x k ih=>
   intro hk;cases x with
   |code c=>exact ih hk
   |asr I=>exact ih hk
   |blk i=>
    simp[GI]at hk;by_cases e:id=i
    .simp_all
    .have:Jw id i=Aj:=by
      cases hb:Jw _ i with
      |false=>rfl
      |true=>grind
     simp[Ct];grind
 grind
def pX{α:Type}(hr:R.round=Aa)(hm:1<=R.m){g:AD}{p d id:Y}{op:Op}{ty:Ay}{pos:AJ}{after:Ap Edge}{body:AL}{gf:Y}{lb:Bm}{fn:Func}
 (hf:P.funcs[gf]? =X fn) (hn:(!(fn.name== "runtime.NumGoroutine") && fn.body.isSome)=Af)
 (hg:ev σ g=X (.func (.func gf) #[] lb.toArray)) (hp:BL p n=Af) (hd:BL d n=Af)
 (af:∀(a:AF) (W:Ad),(execOp a.eval ⟨X d,op,ty,pos,after,Aa⟩).run P W=.ok (.value (a.eval (.tmp p))) W) (L:∀c,op≠.defer c)
 {enc:α->Ah} {Kp:Ad->Ad->Prop} {S Sp:Ae α->Prop} {N:Y} (G:SeqStopsK Fence.wide (R.m-1) P gf lb.toArray (fun x=>#[enc x]) Kp S Sp N w)
 (aj:∀{A B C:Ad},Kp A B->Kp B C->Kp A C) (al:∀(W:Ad) (l:Y) (o o':Obj),w.heap.size<=l->W.heap[l]? =X o->o.isCells=Aj->o.isWalk=Aj->Kp W (W.putObj l o'))
 (I:Ae α->Ad->Prop) (Ix:AL->Ae α->Ad->Prop) (hI:OwnFrom w.heap.size I) (ao:∀c,OwnFrom w.heap.size (Ix c)) (h0:I [] w)
 (r:∀(l:Y) (pre:Ae α) (x:α) (W:Ad),I pre W->Aim pre<N->KR P ⟨X l,R.m-1-1,[],ownPostK Kp I Ix (pre++[x]) W⟩ [.code body] n ((d,enc x)::(p,enc x)::σ) W)
 (q:∀(D:Y) (xs:Ae α) (W:Ad),w.heap.size<=D->S xs->I xs W->W.heap[D]? =X (.deferred (X []))->KR P (R.mark D) k n σ W)
 (j:∀(D:Y) (c:AL) (pre:Ae α) (W:Ad),w.heap.size<=D->Sp pre->Ix c pre W->W.heap[D]? =X (.deferred (X []))->KR P (R.mark D) (.code c::k) n σ W):
 KR P R (.code (.rangeFunc g #[p] (.region id #[⟨X d,op,ty,pos,after,Aa⟩] Aj) body)::k) n σ w:=fun a E=>by
 obtain⟨ro,m,ds,a0⟩:=R;subst hr;have ai:=E.ev hg;have ab:p<a.tmps.size:=by have:=E.fr.size;rw[this];simpa[Nat.blt_eq]using hp
 refine wpIn_rangeFunc_ownF (F:=Fence.wide) (n:=m) Z hm (lb:=lb.toArray) ai AB (fun i w=>Ri hf hn i) G aj al (Below.refl _ _) (fun _=>rfl) I Ix hI ao h0
  (fun x=>{ tmps:=(a.tmps.setIfInBounds p (enc x)).setIfInBounds d (enc x),defers:=[] }) ?_ ?_ ?_ ?_
 .intro l x W K hK;refine wpIn_region_lit ?_;have ez:∀f,((#[p]:Ap Tmp).zip #[enc x]).foldl f a.tmps=f a.tmps (p,enc x):=Bl;rw[ez];unfold wpListIn;refine⟨fun _ _=>trivial,?_⟩;rw[Oper.semAt_eq _ _ _ L,af];have e:(({ tmps:=a.tmps.setIfInBounds p (enc x),defers:=[] }:AF).eval (.tmp p))=enc x:=by simp[Act.eval,ab]
  rwa[e]
 .intro l pre x W V hl;exact r l _ x W V hl _ ⟨(E.fr.put hp _).put hd _,Z⟩
 .intro D xs W hD hS V hK;have h:=q D _ W hD hS V hK { a with defers:={ target:=.collected D,args:=#[] }::a.defers } ⟨E.fr,by show _::a.defers=_::ds;rw[E.df]⟩;rwa[Py]at h
 .intro D c pre W hD hS V hK;have h:=j D c _ W hD hS V hK { a with defers:={ target:=.collected D,args:=#[] }::a.defers } ⟨E.fr,by show _::a.defers=_::ds;rw[E.df]⟩;rwa[Py]at h
end
def Sa{P:AE}{f:FuncId}{fn:Func}{c:AL}{args:Bm}{w:Ad}{Q:Ah->Ad->Prop}{n:Y}(m:Y)(hf:P.funcs[f]? =X fn)(j:fn.body=X c)(g:fn.ntmps=n)
 (o:(!(fn.name== "runtime.NumGoroutine") && fn.body.isSome)=Af) (hl:Aim args+(n-Aim args)=n)
 (h:KR P ⟨Aa,m,[],bodyPostM Fence.wide m P fn (fun e w'=>∃v,e=.returned v/\Q v w')⟩ [.code c] n (Ln 0 args) w):Bn P f args w Q:=by
 refine⟨Bh,(callsIn_wide (n:=m)).1 (callsIn_of_wp_marks hf j AB ?_)⟩
 have i:Fr n (Ln 0 args) { tmps:=args.toArray++JW (fn.ntmps-args.toArray.size) undef,defers:=[] }:=by
  have:=Fr.start args (n-Aim args);rw[hl]at this;simpa[g]using this
 exact h _ ⟨i,Z⟩
section
variable{P:AE}{fn:Func}{Q:Ah->Ad->Prop}{n m D:Y}{σ:BJ}{w:Ad}{R:RP}
def mh{v:Ah}{e:AP}(he:e=.normal∨e=.ret)(f:R.ds=[])(j:R.post=bodyPostM Fence.wide m P fn (fun e w'=>∃v,e=.returned v/\Q v w'))(h:∀a,FrD R n σ a->(results fn a.tmps).run P w=.ok v w)(i:Q v w):
 ∀a,FrD R n σ a->R.post e a w:=fun a g=>by
 rw[j]
 have o:LeavesInM Fence.wide m P fn a.tmps (fun e w'=>∃v,e=.returned v/\Q v w') a.defers .returning w:=by
  rw[g.df,f];exact⟨v,h a g,v,Z,i⟩
 rcases he with rfl|rfl<;>exact o
def zY{v:Ah}{e:AP}(he:e=.normal∨e=.ret)(f:R.ds=[{ target:=.collected D,args:=#[] }])(j:R.post=bodyPostM Fence.wide m P fn (fun e w'=>∃v,e=.returned v/\Q v w'))(o:w.heap[D]? =X (.deferred (X [])))
 (h:∀a w,FrD R n σ a->(results fn a.tmps).run P w=.ok v w) (i:Q v (w.putObj D (.deferred Aa))):
 ∀a,FrD R n σ a->R.post e a w:=fun a g=>by
 rw[j]
 have p:LeavesInM Fence.wide m P fn a.tmps (fun e w'=>∃v,e=.returned v/\Q v w') a.defers .returning w:=by
  rw[g.df,f];exact⟨Bl,.inl ⟨D,_,Z,run_takeDeferred o,v,h a _ g,v,Z,i⟩⟩
 rcases he with rfl|rfl<;>exact p
def SY{e:AP}(he:e=.normal∨e=.ret)(hds:R.ds=[])(hp:R.post=bodyPostM Fence.wide m P fn (fun e w'=>∃v,e=.returned v/\Q v w'))(hs:fn.results=#[])(hq:Q (.tuple #[]) w):∀a,FrD R n σ a->R.post e a w:=
 mh he hds hp (fun _ _=>results_none hs _ _ _) hq
def mg{e:AP}(he:e=.normal∨e=.ret){t u:Y}{v x:Ah}(hds:R.ds=[])(hp:R.post=bodyPostM Fence.wide m P fn (fun e w'=>∃v,e=.returned v/\Q v w'))(hs:fn.results=#[.tmp t,.tmp u])(hv:lk σ t=X v)(hx:lk σ u=X x)(hq:Q (.tuple #[v,x]) w):
 ∀a,FrD R n σ a->R.post e a w:=
 mh he hds hp (fun a ha=>by rw[results_tmp2 hs];have h1:=ha.fr.val t v hv;have h2:=ha.fr.val u x hx;simp_all) hq
def Vv{e:AP}(he:e=.normal∨e=.ret){t u:Y}{v x:Ah}(hds:R.ds=[{ target:=.collected D,args:=#[] }])(hp:R.post=bodyPostM Fence.wide m P fn (fun e w'=>∃v,e=.returned v/\Q v w'))(hK:w.heap[D]? =X (.deferred (X [])))(hs:fn.results=#[.tmp t,.tmp u])(hv:lk σ t=X v)(hx:lk σ u=X x)(hq:Q (.tuple #[v,x]) (w.putObj D (.deferred Aa))):
 ∀a,FrD R n σ a->R.post e a w:=
 zY he hds hp hK (fun a w ha=>by rw[results_tmp2 hs];have h1:=ha.fr.val t v hv;have h2:=ha.fr.val u x hx;simp_all) hq
end
def Bf.putObj{w W:Ad}(h:Bf w W){D:Y}(hD:w.heap.size<=D)(o:Obj):Bf w (W.putObj D o):=
 ⟨h.os,h.tape,h.output,by simpa using h.size,fun k hk=>(World.putObj_heap_other J).trans (h.block k hk)⟩
def Bk.putObj{w:Ad}{b D:Y}{T:Ay}{l:Bm}(h:Bk w b T l)(hD:b≠D)(o:Obj):Bk (w.putObj D o) b T l:=h.of_block (World.putObj_heap_other hD)
section
variable{P:AE}{R:RP}{ops:Ap AG}{rest:Ae AG}{k:Ae KI}{n:Y}{σ:BJ}{w w0:Ad}{x y t:AD}{T T' e ty ty1:Ay}{pos pos1:AJ}{after after1:Ap Edge}{gd gd1:Av (Y×Aw)}{d d1:Y}{v z:Ah}{s bs:Y}{l:Bm}
def qo{b o:Y}{vs:Bm}(j:BK ops σ gd=X Af)(hi:TI P T z s bs)(hx:ev σ x=X (.pointer (X ⟨b,o,Aa⟩)))(g:ev σ y=X (.agg vs.toArray))(i:Aim vs=s)(h1:vs.all (·.oneCell')=Af)(q:Bk w b T' l)(hlt:o+Aim vs<=Aim l)
 (h:∀w',Bk w' b T' (l.take o++vs++l.drop (o+Aim vs))->Mo w w' [b]->OR P R ops rest k n σ w'):
 OR P R ops (⟨Aa,.store T x y,ty,pos,after,gd⟩::rest) k n σ w:=by
 obtain⟨w',p,f,a⟩:=Tv (P:=P) (n:=n) (ty:=ty) hi hx g i h1 q hlt;exact dq j p (h w' f (Mo.grown a (fun k e=>by grind)))
def qn{t e:Ay}(B:Y){z:Ah}(p:BK ops σ gd1=X Af)(r:BL d1 n=Af)(L:∀u,BK ops ((d1,u)::σ) gd=X Af)(N:BL d n=Af)(ht:P.underlying t=X (.slice e))(hi:TI P e z s bs)(j:z.cells.size=s)(i:0<s)(I:s<=16777216)
 {v:Ah} {vs:Bm} {l:Y} {xs:Bm} (E:ev σ y=X (.agg vs.toArray)) (hl:Aim vs=s) (hx:∀q,ev ((d1,q)::σ) x=X v) (G:vs.all (·.oneCell')=Af) (S:B<=w.heap.size) (o:Bp w B e s v l xs)
 (A:l+1<=maxLen) (a:(l+1)*bs<=140737488355328)
 (h:∀q v' w',Bp w' B e s v' (l+1) (xs++vs)->Mo w w' v.ownBlock.toList->(v'.ownBlock=v.ownBlock∨∃g,v'.ownBlock=X g/\w.heap.size<=g)->OR P R ops rest k n ((d,v')::(d1,q)::σ) w'):
 OR P R ops (⟨X d1,.buildSlice t 1 #[(0,y)],ty1,pos1,after1,gd1⟩::⟨X d,.call { callee:=.builtin .append,args:=#[x,.tmp d1],argTypes:=#[t,t] },ty,pos,after,gd⟩::rest) k n σ w:=by
 refine OR.val p r (We ht hi j i I E hl) ?_;have f:Bf w (w.alloc (.cells vs.toArray e)):=Bf.alloc w _;have C:=Bk.new w e vs;refine OR.append B (L _) N ht hi j i (hx _) (Pj _ _ _) (o.alloc _) (Src.Agh ht (Sl.Agf C C.lt) J (fun u K=>Ng.1 G u K) i) A a (BF S f.size) ?_;intro v' w' h1 W V;exact h _ v' w' h1 (Mo.append f W) (V.imp id fun e=>⟨_,e,f.size⟩)
end
section
variable{P:AE}{fn:Func}{Q:Ah->Ad->Prop}{n m D:Y}{σ:BJ}{w:Ad}{R:RP}
def QM{T T':Ay}{b:Y}{v:Ah}{d:TypeDesc}(a:P.underlying T=X d)(f:flat d=Af)(h:Bk w b T' [v]):(loadVar T ⟨b,0,Aa⟩).run P w=.ok v w:=by
 have g:=h.cell_of (i:=0) (v:=v) Z;simp[loadVar,MN a,f,Sem.run_bind,load,Sem.run,g]
def zU{t u:Y}{T f:Ay}(h:fn.results=#[.cell t T,.cell u f])(tmps:Ap Ah)(P:AE)(w:Ad):
 (results fn tmps).run P w=((asAddr (tmps.getD t undef)).run P w).andThen fun a w₁=>((loadVar T a).run P w₁).andThen fun v w₂=>((asAddr (tmps.getD u undef)).run P w₂).andThen fun a' w₃=>((loadVar f a').run P w₃).andThen fun v' w₄=>.ok (.tuple #[v,v']) w₄:=by
 simp only[results,h];simp
def Abg{t u:Y}{T h T' E:Ay}{b c:Y}{v x:Ah}{d p:TypeDesc}(r:fn.results=#[.cell t T,.cell u h])(q:P.underlying T=X d)(A:flat d=Af)(f:P.underlying h=X p)(g:flat p=Af)
 (hv:lk σ t=X (.pointer (X ⟨b,0,Aa⟩))) (hx:lk σ u=X (.pointer (X ⟨c,0,Aa⟩))) (C:Bk w b T' [v]) (B:Bk w c E [x]) (a:AF) (i:FrD R n σ a):(results fn a.tmps).run P w=.ok (.tuple #[v,x]) w:=by
 rw[zU r];have o:=i.fr.val t _ hv;have j:=i.fr.val u _ hx;simp only at o j;simp[o,j,asAddr,QM q A C,QM f g B,Result.andThen]
def zX{e:AP}(he:e=.normal∨e=.ret){t u:Y}{T j T' L:Ay}{b c:Y}{v x:Ah}{d A:TypeDesc}(g:R.ds=[{ target:=.collected D,args:=#[] }])(G:R.post=bodyPostM Fence.wide m P fn (fun e w'=>∃v,e=.returned v/\Q v w'))(K:w.heap[D]? =X (.deferred (X [])))(C:fn.results=#[.cell t T,.cell u j])(B:P.underlying T=X d)(I:flat d=Af)(f:P.underlying j=X A)(i:flat A=Af)
 (hv:lk σ t=X (.pointer (X ⟨b,0,Aa⟩))) (hx:lk σ u=X (.pointer (X ⟨c,0,Aa⟩))) (p:Bk w b T' [v]) (o:Bk w c L [x]) (E:Q (.tuple #[v,x]) (w.putObj D (.deferred Aa))):∀a,FrD R n σ a->R.post e a w:=fun a q=>by
 have nb:∀{b:Y} {T:Ay} {l:Bm},Bk w b T l->b≠D:=fun {b T l} h e=>by
  subst e;obtain⟨N,r,_⟩:=h;grind
 rw[G]
 have r:LeavesInM Fence.wide m P fn a.tmps (fun e w'=>∃v,e=.returned v/\Q v w') a.defers .returning w:=by
  rw[q.df,g];exact⟨Bl,.inl ⟨D,_,Z,run_takeDeferred K,_,Abg C B I f i hv hx (p.putObj (nb p) _) (o.putObj (nb o) _) a q,_,Z,E⟩⟩
 rcases he with rfl|rfl<;>exact r
end
def NN{n:Y}{σ:BJ}{w:Ad}{P:AE}{fn:Func}{Q:Ah->Ad->Prop}{t u q:Y}{T T':Ay}{b s bs:Y}{z x y:Ah}{d:TypeDesc}{l:Bm}(i:fn.results=#[.cell t T,.tmp u,.tmp q])(g:P.underlying T=X d)(o:flat d=Aj)(hi:TI P T z s bs)(hv:lk σ t=X (.pointer (X ⟨b,0,Aa⟩)))(hx:lk σ u=X x)(f:lk σ q=X y)
 (p:Bk w b T' l) (hl:Aim l=s) (j:Q (.tuple #[.agg l.toArray,x,y]) w):∀a,Fr n σ a->bodyPost P fn (fun e w'=>∃v,e=.returned v/\Q v w') .ret a w:=
 MK (fun a ha=>by
  have h:=Jl (P:=P) (n:=n) (σ:=σ) (x:=.tmp t) (ty:=0) g o hi hv p hl a ha Aa "" #[] Aa
  have h1:(loadVar T ⟨b,0,Aa⟩).run P w=.ok (.agg l.toArray) w:=by
   have r:a.eval (.tmp t)=.pointer (X ⟨b,0,Aa⟩):=ha.ev (x:=.tmp t) hv;simp only[execOp,r,Instr.loadAt,Instr.sureAddr,Sem.run_bind,Sem.run_pure,Result.andThen_ok]at h;cases hr:(loadVar T ⟨b,0,Aa⟩).run P w with
   |ok v w'=>simp_all
   |halt q w'=>simp_all
  have C:=ha.val t _ hv;have B:=ha.val u _ hx;have A:=ha.val q _ f;simp only[results,i];simp[Sem.run_bind,C,B,A,asAddr,h1]) j
section
variable{P:AE}{R:AF->Ad->Prop}{k:Ae KI}{n:Y}{σ:BJ}{w:Ad}{c c':AL}
end
def Abd{β:Type}(S:Bi)(B:Y)(I:β->Ad->Prop):Prop:=∀s W W' T,I s W->Mo W W' T->(∀k∈T,k∈S∨(B<=k/\∃o:Obj,W.heap[k]? =X o/\o.isCells=Aj))->I s W'
def AbS{β:Type}(S:Bi)(j6:β->Ad->Prop):Prop:=∀s W W',j6 s W->Mo W W' S->j6 s W'
def SeqM{α:Type}(n:Y)(P:AE)(g:Y)(lb:Bm)(encs:α->Bm)(S:Bi)(G:Ad->Prop)(Fin Stop:Ae α->Prop)(N:Y)(w:Ad):Prop:=
 ∀(l:Y) (j6 Jx:Ae α->Ad->Prop) (W:Ad),Bf w W->AbS S j6->AbS S Jx->(∀pre W1,j6 pre W1->G W1)->
  (∀pre x W1,j6 pre W1->Aim pre<N->Ug P (n-1) l (encs x) W1 fun v W'=>(v=.bool Af/\j6 (pre++[x]) W'/\∀k∈S,W'.heap[k]? =W1.heap[k]?)∨(v=.bool Aj/\Jx (pre++[x]) W'))->
  j6 [] W->CallsIn Fence.wide n P g (#[.func (.yield l) #[] #[]]++lb.toArray) W fun e W'=>(∃v,e=.returned v)/\((∃xs,Fin xs/\j6 xs W')∨(∃pre,Stop pre/\Jx pre W'))
def NJ(w:Ad)(l:Y)(o:Obj):Mo w (w.putObj l o) [l]:=⟨Z,Z,Z,Bl,fun k _ hk=>World.putObj_heap_other Bh⟩
def Bk.abd{W W':Ad}{S T:Bi}{b B:Y}{j8:Ay}{l:Bm}(h:Bk W b j8 l)(hm:Mo W W' T)(hT:∀k∈T,k∈S∨(B<=k/\∃o:Obj,W.heap[k]? =X o/\o.isCells=Aj))(hb:b∉S):Bk W' b j8 l:=
 h.mo hm fun hk=>by
  rcases hT b hk with q|⟨_,o,ho,hc⟩
  .grind
  .obtain⟨fr,h1,_⟩:=h;rw[h1]at ho;cases ho;cases hc
def Bp.abd{W W':Ad}{S T:Bi}{B B0 s n:Y}{j8:Ay}{v:Ah}{xs:Bm}(h:Bp W B0 j8 s v n xs)(hm:Mo W W' T)(hT:∀k∈T,k∈S∨(B<=k/\∃o:Obj,W.heap[k]? =X o/\o.isCells=Aj))(hb:∀k,v.ownBlock=X k->k∉S):Bp W' B0 j8 s v n xs:=
 h.mo hm fun k hk hkT=>by
  rcases hT k hkT with q|⟨_,o,ho,hc⟩
  .grind
  .obtain⟨_,l,fr,h1,_⟩:=h.blkT k hk;rw[h1]at ho;cases ho;cases hc
section
variable{P:AE}{R:RP}{ops:Ap AG}{rest:Ae AG}{k:Ae KI}{n:Y}{σ:BJ}{w:Ad}
def Vm{ds:Ae Deferred}:∀(k:Ae KI) (e:AP),Ct P { R with ds:=ds } k e=Ct P R k e
 |[],e=>rfl
 |.code c::k,e=>by
  have ih:Ct P { R with ds:=ds } k=Ct P R k:=funext (Vm k);cases e<;>(simp only[Ct,ih];try rfl)
 |.blk id::k,e=>by
  have ih:Ct P { R with ds:=ds } k=Ct P R k:=funext (Vm k);cases e<;>simp only[Ct,ih]
 |.asr I::k,e=>by
  have ih:Ct P { R with ds:=ds } k=Ct P R k:=funext (Vm k);cases e<;>simp only[Ct,ih]
def qm{t:Y}{f:FuncId}{cap:Ap Ah}{ty:Ay}{pos:AJ}{after:Ap Edge}{g:Av (Y×Aw)}(p:R.round=Aa)(q:BK ops σ g=X Af)(ht:lk σ t=X (.func (.func f) #[] cap))
 (h:OR P { R with ds:={ target:=.fn (.func f) cap,args:=#[] }::R.ds } ops rest k n σ w):OR P R ops (⟨Aa,.defer { callee:=.value (.tmp t),args:=#[],argTypes:=#[] },ty,pos,after,g⟩::rest) k n σ w:=fun a e=>by
 have j:a.eval (.tmp t)=.func (.func f) #[] cap:=e.ev (x:=.tmp t) ht;unfold wpListIn;rw[Ai (Rv e (o:=⟨Aa,.defer { callee:=.value (.tmp t),args:=#[],argTypes:=#[] },ty,pos,after,g⟩) q)];refine⟨fun _ _=>trivial,?_⟩
 have r:((⟨Aa,.defer { callee:=.value (.tmp t),args:=#[],argTypes:=#[] },ty,pos,after,g⟩:AG).semAt R.F.round a.eval).run P w=.ok (.defer { target:=.fn (.func f) cap,args:=#[] }) w:=by
  rw[show R.F.round=Aa from p,Oper.semAt_none];simp[execOp,resolve,j,Deferred.ofValue,Sem.run_bind]
 rw[r];have l:=h { a with defers:={ target:=.fn (.func f) cap,args:=#[] }::a.defers } ⟨e.fr,by show _::a.defers=_::R.ds;rw[e.df]⟩;rw[show Ct P { R with ds:={ target:=.fn (.func f) cap,args:=#[] }::R.ds } k=Ct P R k from funext (Vm k)]at l;exact l
end
def pB{P:AE}{n:Y}{σ:BJ}{w:Ad}{x:AD}{t T ty:Ay}(hd:∀d,(Op.equalIn (d+1) t .nilIface .nilIface).run P w=.ok Af w)(hx:ev σ x=X .nilIface):EX P n σ (.binOp .neq t x (.const .nilIface) T) ty w (.bool Aj) w:=
 Gb hx Z (by unfold eqGuard;simp) (aq Z hd)
section
variable{m n:Y}{P:AE}{ops:Ap AG}{Q:AP->AF->Ae Frame->Ad->Prop}{rest:Bi}{a:AF}{cs:Ae Frame}{w w':Ad}{i d:Y}{ty:Ay}{pos:AJ}{after:Ap Edge}{σ:BJ}{v:Ah}
def Afe(g:ops[i]? =X ⟨X d,.call { callee:=.builtin .recover,args:=#[],argTypes:=#[] },ty,pos,after,Aa⟩)(j:recoverD cs=Aa)(h:wpOpsSIn Fence.wide m P ops Q rest (a.put (X d) .nilIface) cs w):wpOpsSIn Fence.wide m P ops Q (i::rest) a cs w:=by
 unfold wpOpsSIn;simp only[g];refine⟨fun _ _=>trivial,?_⟩;have f:Region.wanted (⟨X d,.call { callee:=.builtin .recover,args:=#[],argTypes:=#[] },ty,pos,after,Aa⟩:AG) (yielded ops a.tmps)=Af:=rfl;rw[Ai f];have e:(execOp a.eval ⟨X d,.call { callee:=.builtin .recover,args:=#[],argTypes:=#[] },ty,pos,after,Aa⟩).run P w=.ok .recover w:=by simp[execOp,resolve,invoke,builtin,Sem.run_bind]
 grind
def bz{op:Op}(hf:Fr n σ a)(f:ops[i]? =X ⟨X d,op,ty,pos,after,Aa⟩)(he:EX P n σ op ty w v w')(h:wpOpsSIn Fence.wide m P ops Q rest (a.put (X d) v) cs w'):wpOpsSIn Fence.wide m P ops Q (i::rest) a cs w:=by
 unfold wpOpsSIn;simp only[f];refine⟨fun _ _=>trivial,?_⟩;have e:Region.wanted (⟨X d,op,ty,pos,after,Aa⟩:AG) (yielded ops a.tmps)=Af:=rfl;rw[Ai e,he a hf];omega
end
section
variable{P:AE}{fn:Func}{Q:Ah->Ad->Prop}{n m:Y}{σ:BJ}{w:Ad}{R:RP}
def Abh{j h g f:Y}{T1 T2 T3 T4 U1 U2 U3 U4:Ay}{b1 b2 b3 b4:Y}{v1 v2 T N:Ah}{d1 d2 d3 d4:TypeDesc}(hs:fn.results=#[.cell j T1,.cell h T2,.cell g T3,.cell f T4])(y:P.underlying T1=X d1)(D:flat d1=Af)(x:P.underlying T2=X d2)(C:flat d2=Af)(t:P.underlying T3=X d3)(B:flat d3=Af)(r:P.underlying T4=X d4)(A:flat d4=Af)
 (q:lk σ j=X (.pointer (X ⟨b1,0,Aa⟩))) (p:lk σ h=X (.pointer (X ⟨b2,0,Aa⟩))) (o:lk σ g=X (.pointer (X ⟨b3,0,Aa⟩))) (l:lk σ f=X (.pointer (X ⟨b4,0,Aa⟩))) (L:Bk w b1 U1 [v1]) (I:Bk w b2 U2 [v2]) (G:Bk w b3 U3 [T]) (E:Bk w b4 U4 [N]) (a:AF) (e:FrD R n σ a):(results fn a.tmps).run P w=.ok (.tuple #[v1,v2,T,N]) w:=by
 have e1:=e.fr.val j _ q;have e2:=e.fr.val h _ p;have W:=e.fr.val g _ o;have V:=e.fr.val f _ l;simp only at e1 e2 W V;simp only[results,hs];simp[Sem.run_bind,e1,e2,W,V,asAddr,QM y D L,QM x C I,QM t B G,QM r A E,Result.andThen]
def zV {v:Ah} {e:AP} {f:FuncId} {cap:Ap Ah} {p:Func} (j:P.funcs[f]? =X p) (g:(!(p.name== "runtime.NumGoroutine") && p.body.isSome)=Af) (he:e=.normal∨e=.ret) (l:R.ds=[{ target:=.fn (.func f) cap,args:=#[] }]) (x:R.post=bodyPostM Fence.wide m P fn (fun e w'=>∃v,e=.returned v/\Q v w')) (r:∀a,FrD R n σ a->(results fn a.tmps).run P w=.ok v w)
 (y:CallsDIn Fence.wide (m-1) P f cap .returning w fun e u' w'=>e=.returned (.tuple #[])/\u'=.returning/\w'=w) (t:Q v w):∀a,FrD R n σ a->R.post e a w:=fun a q=>by
 rw[x]
 have o:LeavesInM Fence.wide m P fn a.tmps (fun e w'=>∃v,e=.returned v/\Q v w') a.defers .returning w:=by
  rw[q.df,l];refine⟨Bl,.inr ⟨fun h=>by simp[Fence.wide]at h,.func f,cap,f,cap,Z,by simp[invoke,Ri j g],fun _ _=>trivial,y.mono fun e u' w'⟨o,B,A⟩=>?_⟩⟩;subst o B A;exact⟨v,r a q,v,Z,t⟩
 rcases he with rfl|rfl<;>exact o
end
def ret4{P:AE}{fn:Func}{Q:Ah->Ad->Prop}{n:Y}{σ:BJ}{w:Ad}{t u s q:Y}{v x y z:Ah}(hs:fn.results=#[.tmp t,.tmp u,.tmp s,.tmp q])(hv:lk σ t=X v)(hx:lk σ u=X x)(hy:lk σ s=X y)(hz:lk σ q=X z)(hq:Q (.tuple #[v,x,y,z]) w):
 ∀a,Fr n σ a->bodyPost P fn (fun e w'=>∃v,e=.returned v/\Q v w') .ret a w:=
 MK (fun a ha=>by simp only[results,hs];simp[Sem.run_bind,ha.val t v hv,ha.val u x hx,ha.val s y hy,ha.val q z hz]) hq
def Act.more(ds:Ae Deferred)(a:AF):AF:={ a with defers:=a.defers++ds }
section
variable{P:AE}{ops:Ap AG}{S:Ad->Prop}{Q0 Q:AP->AF->Ad->Prop}{K0 K:AF->Ad->Prop}{ds:Ae Deferred}{a:AF}{w:Ad}
def Zo(d:Av Y)(v:Ah):Act.more ds (a.put d v)=(Act.more ds a).put d v:=by cases d<;>rfl
def xF:(Act.more ds a).eval=a.eval:=by rfl
def Afn{o:AG}(p:∀a w,K0 a w->K (Act.more ds a) w)(l:∀e a w,Q0 e a w->Q e (Act.more ds a) w)(h:o.wp P a w K0 Q0):o.wp P (Act.more ds a) w K Q:=by
 unfold Oper.wp at*;rw[xF];generalize(execOp a.eval o).run P w=r at*;have t:LetsOut Q0->LetsOut Q:=fun⟨b,g,q⟩=>⟨_,g,l _ b g q⟩;have j:∀v w',K0 (a.put o.dst v) w'->K ((Act.more ds a).put o.dst v) w':=fun v w' q=>by rw[<-Zo];grind
 cases r with
 |ok x w'=>
  cases x with
  |value v=>exact j _ _ h
  |skip=>exact j _ _ h
  |defer d=>
   have e:Act.more ds ({ a with defers:=d::a.defers }.put o.dst undef)=({ Act.more ds a with defers:=d::(Act.more ds a).defers }.put o.dst undef):=Zo (ds:=ds) (a:={ a with defers:=d::a.defers }) o.dst undef;show K ({ Act.more ds a with defers:=d::(Act.more ds a).defers }.put o.dst undef) w';rw[<-e];exact p _ _ h
  |enter f args=>
   refine Calls.mono h fun e g q=>?_;grind
  |row r args=>exact Rows.mono h fun v g q=>j _ _ q
  |_=>exact h.elim
 |halt x w'=>
  cases x with
  |panic v=>exact l _ _ _ h
  |_=>exact h.elim
def Afl{i:Y}(j:∀a w,K0 a w->K (Act.more ds a) w)(g:∀e a w,Q0 e a w->Q e (Act.more ds a) w)(h:wpOp P ops Q0 i K0 a w):wpOp P ops Q i K (Act.more ds a) w:=by
 unfold wpOp at*;split
 .grind
 .rename_i o e;rw[e]at h;simp only at h;have p:(Act.more ds a).tmps=a.tmps:=rfl;rw[p];split
  .rename_i q;rw[Ai q]at h;rcases h with h|⟨r,b,f,l⟩
   .exact .inl (Afn j g h)
   .refine .inr ⟨?_,_,f,g _ b f l⟩;assumption
  .rename_i q;rw[Ag q]at h;rw[<-Zo];grind
def oR(hQ:∀e a w,Q0 e a w->Q e (Act.more ds a) w):∀(fuel:Y) (listed:Ap Aw) (a:AF) (w:Ad),wpAnyH P .any ops Q0 S fuel listed a w->wpAnyH P .any ops Q S fuel listed (Act.more ds a) w
 |0,_,a,w,h=>⟨h.1,hQ _ _ _ h.2⟩
 |fuel+1,_,a,w,h=>⟨fun e=>hQ _ _ _ (h.1 e),fun i hi=>Afl (fun a w q=>⟨q.1,oR hQ fuel _ a w q.2⟩) hQ (h.2 i hi)⟩
end
section
variable{P:AE}{R:RP}{k:Ae KI}{n:Y}{σ:BJ}{w:Ad}
def onR(P:AE)(R:RP)(k:Ae KI):Ae KI:=[.asr fun a w=>Ct P R k .normal (Act.more R.ds a) w]
def cV{id N:Y}{l:Ae AG}(S:Ad->Prop)(hm:P.follows .mixedOrders=Af)(o:l.toArray.size=N)(h:GW P (fun _ _=>False) l.toArray S N (JW N Aj) (onR P R k) n σ w.drew)(j:R.round=Aa:=by rfl):KR P R (.code (.region id l.toArray Af)::k) n σ w:=fun a f=>by
 subst o;have p:R.F=Fence.wide:=by unfold RP.F;rw[j];rfl
 show(Code.region id l.toArray Af).wpIn R.F R.m P (Ct P R k) a w;rw[p,wpIn_wide];have g:=oR (Q:=Ct P R k) (ds:=R.ds) (fun e a w q=>by cases e<;>first|exact q|exact q.elim) _ _ _ _ (h _ f.fr)
 have e:Act.more R.ds { a with defers:=[] }=a:=by
  unfold Act.more;rw[Ev,<-f.df]
 rw[e]at g;exact wp_region_held hm g
def LP(h:KR P R k n σ w):KW P (fun _ _=>False) (onR P R k) n σ w:=fun a e=>h (Act.more R.ds a) ⟨⟨e.size,e.val,Z⟩,by unfold Act.more;rw[e.df];rfl⟩
end
section
variable{P:AE}{n:Y}{σ:BJ}{w w0:Ad}{x y:AD}{t e ty T:Ay}{s bs:Y}{R:RP}{ops:Ap AG}{rest:Ae AG}{k:Ae KI}{pos:AJ}{after:Ap Edge}{g:Av (Y×Aw)}{d:Y}
def qk{z:Ah}{BO:Ap (Y×AD)}(len:Y)(vss:Ae (Bm))(hg:BK ops σ g=X Af)(hd:BL d n=Af)(ht:P.underlying T=X (.slice e))(hi:TI P e z s bs)(hzs:z.cells.size=s)(hs0:0<s)
 (hv:evs σ (BO.toList.map (·.2))=X (vss.map fun v=>Value.agg v.toArray)) (hp:BO.toList.map (·.1)=GX 0 (Aim BO.toList)) (hl:Aim vss=len) (h1:∀v∈vss,Aim v=s) (hlen:len*s<=16777216)
 (h:∀b w',w.heap.size<=b->Bk w' b e vss.flatten->Bf w w'->OR P R ops rest k n ((d,.slice (X ⟨b,0,Aa⟩) len len)::σ) w'):OR P R ops (⟨X d,.buildSlice T len BO,ty,pos,after,g⟩::rest) k n σ w:=
 OR.val hg hd (Tw len vss ht hi hzs hs0 hv hp hl h1 hlen) (h _ _ (Bq _) (Bk.new w e _) (Bf.alloc w _))
end
section
variable{P:AE}{ops:Ap AG}{Q0 Q:AP->AF->Ad->Prop}{K0 K:AF->Ad->Prop}{a:AF}{w:Ad}{l m:Y}
def Afm(A:∀o∈ops.toList,∀c,o.op≠.defer c)(C:∀e a w,Q0 e a w->e=.normal){i:Y}(j:∀a w,K0 a w->K a w)(h:wpOp P ops Q0 i K0 a w):wpOpIn (Fence.wide.inRound l) m P ops Q i K a w:=by
 unfold wpOp at h;unfold wpOpIn;split
 .grind
 .rename_i o e;rw[e]at h;simp only at h
  have E:∀c,o.op≠.defer c:=A o (by
   grind)
  have I:¬LetsOut Q0:=fun⟨b,B,q⟩=>by cases C _ _ _ q
  split
  .rename_i q;rw[Ai q]at h;rcases h with h|⟨_,h⟩
   .unfold Oper.wp at h;unfold Oper.wpIn;refine⟨fun _ _=>trivial,?_⟩;rw[Oper.semAt_eq _ _ _ E];generalize(execOp a.eval o).run P w=r at*;cases r with
    |ok x p=>
     cases x with
     |value v=>exact j _ _ h
     |skip=>exact j _ _ h
     |defer d=>exact j _ _ h
     |enter f args=>
      refine⟨fun z=>(by cases z),eu (Calls.mono h fun e B q=>?_)⟩;grind
     |row r args=>
      refine⟨fun z=>(by cases z),fun c G _=>?_⟩;obtain⟨v,p,q,D⟩:=Rows.mono h (fun v B q=>j _ _ q) c G;exact⟨v,p,q,stepsIn_wide.2 D⟩
     |_=>exact h.elim
    |halt x p=>
     cases x with
     |panic v=>cases C _ _ _ h
     |_=>exact h.elim
   .grind
  .rename_i q;rw[Ag q]at h;exact⟨fun _ _=>trivial,j _ _ h⟩
def oT{md:Region.Mode}(hno:∀o∈ops.toList,∀c,o.op≠.defer c)(hQ:∀e a w,Q0 e a w->e=.normal/\Q .normal a w):∀(fuel:Y) (listed:Ap Aw) (a:AF) (w:Ad),wpAny P md ops Q0 fuel listed a w->wpAnyIn (Fence.wide.inRound l) m P md ops Q fuel listed a w
 |0,_,a,w,h=>⟨h.1,(hQ _ _ _ h.2).2⟩
 |fuel+1,_,a,w,h=>⟨fun e=>(hQ _ _ _ (h.1 e)).2,fun i hi=>Afm hno (fun e a w q=>(hQ e a w q).1) (fun a w q=>oT hno hQ fuel _ a w q) (h.2 i hi)⟩
end
section
variable{P:AE}{R:RP}{k:Ae KI}{n:Y}{σ:BJ}{w:Ad}
def pZ{id N i:Y}{l:Ae AG}(S:Ad->Prop)(hm:P.follows .mixedOrders=Af)(v:l.toArray.size=N)(r:(l.all fun o=>match o.op with|.defer _=>Aj|_=>Af)=Af)(h:GW P (fun _ _=>False) l.toArray S N (JW N Aj) (onR P R k) n σ w.drew)(p:R.round=X i:=by rfl)(hds:R.ds=[]:=by rfl):KR P R (.code (.region id l.toArray Af)::k) n σ w:=fun a j=>by
 subst v;have A:R.F=Fence.wide.inRound i:=by unfold RP.F;rw[p];rfl
 show(Code.region id l.toArray Af).wpIn R.F R.m P (Ct P R k) a w;rw[A]
 have f:∀o∈l.toArray.toList,∀c,o.op≠.defer c:=fun o D c e=>by
  grind
 have C:∀b:AF,Act.more R.ds b=b:=fun b=>by unfold Act.more;simp_all
 have B:({ a with defers:=[] }:AF)=a:=by rw[<-hds,<-j.df]
 refine wpIn_region_any hm (oT f (Q0:=Dx P (fun _ _=>False) (onR P R k)) (fun e a w q=>?_) _ _ _ _ (wpAny_of_held _ _ _ _ (h a (B▸j.fr))));cases e with
 |normal=>exact⟨Z,by rw[<-C a];exact q⟩
 |_=>exact q.elim
end
section
variable{P:AE}{R:RP}{k:Ae KI}{n:Y}{σ:BJ}{w:Ad}
def pY{α:Type}(hr:R.round=Aa)(hm:1<=R.m){g:AD}{p d id:Y}{ty:Ay}{pos:AJ}{af:Ap Edge}{body:AL}{gf:Y}{lb:Bm}{fn:Func}
 (hf:P.funcs[gf]? =X fn) (hn:(!(fn.name== "runtime.NumGoroutine") && fn.body.isSome)=Af)
 (hg:ev σ g=X (.func (.func gf) #[] lb.toArray)) (hp:BL p n=Af) (hd:BL d n=Af)
 (val:α->Ah)
 {S:Bi} {G:Ad->Prop} {b0 Stop:Ae α->Prop} {N:Y} (hS:∀k∈S,k<w.heap.size) (ba:SeqM (R.m-1) P gf lb (fun x=>[val x]) S G b0 Stop N w)
 (I:Ae α->Ad->Prop) (Ix:AL->Ae α->Ad->Prop) (hI:Abd S w.heap.size I) (V:∀c,Abd S w.heap.size (Ix c)) (cc:∀pre W,I pre W->G W) (h0:I [] w)
 (a6:∀(l:Y) (pre:Ae α) (x:α) (W:Ad),I pre W->Aim pre<N->w.heap.size<=W.heap.size->KR P ⟨X l,R.m-1-1,[],ownPostK (fun A B=>∀k∈S,B.heap[k]? =A.heap[k]?) I Ix (pre++[x]) W⟩ [.code body] n ((d,val x)::(p,val x)::σ) W)
 (a5:∀(D:Y) (xs:Ae α) (W:Ad),w.heap.size<=D->b0 xs->I xs W->W.heap[D]? =X (.deferred (X []))->KR P (R.mark D) k n σ W)
 (a4:∀(D:Y) (c:AL) (pre:Ae α) (W:Ad),w.heap.size<=D->Stop pre->Ix c pre W->W.heap[D]? =X (.deferred (X []))->KR P (R.mark D) (.code c::k) n σ W):
 KR P R (.code (.rangeFunc g #[p] (.region id #[⟨X d,.assign (.tmp p),ty,pos,af,Aa⟩] Aj) body)::k) n σ w:=fun a ha=>by
 obtain⟨ro,m,ds,cd⟩:=R;simp only at hr;subst hr;have b8:a.eval g=.func (.func gf) #[] lb.toArray:=ha.ev hg;show Code.wpIn Fence.wide m P _ (Ct P _ k) a w;refine wpIn_rangeFunc fun ao b9=>?_;generalize bn:Code.region id #[⟨X d,.assign (.tmp p),ty,pos,af,Aa⟩] Aj=asg;obtain⟨rec,hrec⟩:∃rec:LoopState->Av AL->Loop,rec=fun st pe=>{ state:=st,pending:=pe,fn:=ao,tmps:=a.tmps,params:=#[p],assign:=asg,body:=body,defers:=w.heap.size }:=⟨_,Z⟩;obtain⟨l,hl⟩:∃l,l=w.heap.size+1:=⟨_,Z⟩;have b2:Bf w (w.alloc (.deferred (X []))):=Bf.alloc w _;have a2:Bf (w.alloc (.deferred (X []))) ((w.alloc (.deferred (X []))).alloc (.loop (rec .ready Aa))):=Bf.alloc _ _
 have bq:((w.alloc (.deferred (X []))).alloc (.loop (rec .ready Aa))).heap[l]? =X (.loop (rec .ready Aa)):=by
  have:=World.alloc_heap_new (w.alloc (.deferred (X []))) (.loop (rec .ready Aa));rwa[World.size_alloc,<-hl]at this
 have bx:((w.alloc (.deferred (X []))).alloc (.loop (rec .ready Aa))).heap[w.heap.size]? =X (.deferred (X [])):=
  (a2.block _ Bl).trans (World.alloc_heap_new w _)
 have a7:=run_enterLoop_outer (P:=P) (w:=w) ao a.tmps #[p] asg body;rw[show({ state:=.ready,pending:=Aa,fn:=ao,tmps:=a.tmps,params:=#[p],assign:=asg,body:=body,defers:=w.heap.size }:Loop)=rec .ready Aa by rw[hrec],<-hl]at a7;generalize((w.alloc (.deferred (X []))).alloc (.loop (rec .ready Aa)))=W1 at a2 bq bx a7;have a9:Bf w W1:=b2.trans a2;have nS:∀j,w.heap.size<=j->j∉S:=fun j hj hm=>by grind
 have keep:∀{A B:Ad} {T':Bi} {j:Y} {o:Obj},Mo A B T'->j∉T'->A.heap[j]? =X o->B.heap[j]? =X o:=fun {A B T' j o} hm hj ho=>
  (hm.block j (LR.1 ho).1 hj).trans ho
 have nl:∀{A:Ad} {q:Loop},A.heap[l]? =X (.loop q)->∀k∈[l],k∈S∨(w.heap.size<=k/\∃o:Obj,A.heap[k]? =X o/\o.isCells=Aj):=fun {A q} h k C=>by
  simp only[CG]at C;subst C;exact .inr ⟨J,_,h,Z⟩
 have ab:∀{T':Bi} {A:Ad},(∀k∈T',k∈S)->∀k∈T',k∈S∨(w.heap.size<=k/\∃o:Obj,A.heap[k]? =X o/\o.isCells=Aj):=fun h k C=>.inl (h k C);have al:w.heap.size≠l:=J;refine⟨l,[{ target:=.collected w.heap.size,args:=#[] }],W1,{ target:=.fn (.func gf) lb.toArray,args:=#[.func (.yield l) #[] #[]] },W1,gf,#[.func (.yield l) #[] #[]]++lb.toArray,W1,a7,?_,fun _ _=>trivial,?_,fun _=>hm,?_⟩
 .simp only[resolve,b8];simp[go_sem]
 .have eg:∀i w,(callFunc gf i).run P w=.ok (.enter gf i) w:=fun i w=>Ri hf hn i;simp[invoke,go_sem,eg]
 .refine(ba l (fun pre W=>I pre W/\W.heap[l]? =X (.loop (rec .ready Aa))/\W.heap[w.heap.size]? =X (.deferred (X [])))
   (fun pre W=>∃c,Ix c pre W/\W.heap[l]? =X (.loop (rec .done (X c)))/\W.heap[w.heap.size]? =X (.deferred (X []))) W1 a9
   (fun q A B h hm=>⟨hI q A B S h.1 hm (ab fun _ C=>C),keep hm (nS _ J) h.2.1,keep hm (nS _ J) h.2.2⟩)
   (fun q A B h hm=>by
    obtain⟨c,h1,h2,h3⟩:=h;exact⟨c,V c q A B S h1 hm (ab fun _ C=>C),keep hm (nS _ J) h2,keep hm (nS _ J) h3⟩)
   (fun q A h=>cc q A h.1) ?_ ⟨hI [] w W1 [] h0 (Mo.Age a9 _) (fun _ C=>by cases C),bq,bx⟩).mono ?_
  .rintro pre x W⟨b7,aj,b6⟩bc;have hy:=run_yield (P:=P) (args:=#[val x]) aj Bh;rw[hrec]at hy;refine⟨ao,_,asg,body,hy,roundIn_of_wpIn b9 ?_⟩;have ez:((#[p]:Ap Tmp).zip #[val x]).foldl (fun t(p,v)=>t.setIfInBounds p v) a.tmps=a.tmps.setIfInBounds p (val x):=Bl;simp only;rw[ez];generalize cb:(Exit.then (fun a₁ w₁=>∃w₂,(Instr.beginRound l).run P w₁=.ok () w₂/\body.wpIn (Fence.wide.inRound l) (m-1-1) P (roundPost P l fun e W'=>∃v,e=.returned v/\((v=.bool Af/\(I (pre++[x]) W'/\W'.heap[l]? =X (.loop (rec .ready Aa))/\W'.heap[w.heap.size]? =X (.deferred (X [])))/\∀k∈S,W'.heap[k]? =W.heap[k]?)∨(v=.bool Aj/\∃c,Ix c (pre++[x]) W'/\W'.heap[l]? =X (.loop (rec .done (X c)))/\W'.heap[w.heap.size]? =X (.deferred (X []))))) a₁ w₂) (fun _ _ _=>False):AP->AF->Ad->Prop)=PQ
   have b1:KR P ⟨X l,m-1-1,[],PQ⟩ [.code asg] n ((p,val x)::σ) W:=by
    subst bn;refine KR.region ?_;refine OR.val (v:=val x) Z hd (CI (by simp[ev,Ph])) ?_;refine OR.nil (KR.done fun a₁ bm=>?_);obtain⟨Wb,hWb⟩:∃Wb,Wb=W:=⟨_,Z⟩;have ai:Mo W Wb []:=by rw[hWb];exact Mo.refl _ _
    have r:=keep ai Bl aj;have E:=keep ai Bl b6;have L:=hI _ _ _ _ b7 ai (fun _ C=>by cases C);have b3:l<Wb.heap.size:=(LR.1 r).1;have bl:=run_beginRound (P:=P) r (by rw[hrec]);have bj:=hI _ _ _ _ L (NJ Wb l (.loop { rec .ready Aa with state:=.busy })) (nl r);have bh:(Wb.putObj l (.loop { rec .ready Aa with state:=.busy })).heap[l]? =X (.loop { rec .ready Aa with state:=.busy }):=World.putObj_heap_same b3;have bi:(Wb.putObj l (.loop { rec .ready Aa with state:=.busy })).heap[w.heap.size]? =X (.deferred (X [])):=(World.putObj_heap_other al).trans E
    have bb:∀k∈S,(Wb.putObj l (.loop { rec .ready Aa with state:=.busy })).heap[k]? =W.heap[k]?:=fun k C=>by
     have b5:=hS k C;have b4:l<W.heap.size:=(LR.1 aj).1;exact(World.putObj_heap_other J).trans (ai.block k J Bl)
    have b4:l<W.heap.size:=(LR.1 aj).1;have a8:w.heap.size<=(Wb.putObj l (.loop { rec .ready Aa with state:=.busy })).heap.size:=BF J (NJ Wb l _).size;generalize Wb.putObj l (.loop { rec .ready Aa with state:=.busy })=Wc at bl bj bh bi bb a8;rw[<-hWb];show PQ .normal a₁ Wb;subst cb;refine⟨Wc,bl,?_⟩;have hb:=a6 l pre x Wc bj bc a8 a₁ ⟨bm.fr,bm.df⟩;have ca:body.wpIn (Fence.wide.inRound l) (m-1-1) P (ownPostK (fun A B=>∀k∈S,B.heap[k]? =A.heap[k]?) I Ix (pre++[x]) Wc) a₁ Wc:=Code.wpIn_mono (fun e a' w' q=>by assumption) hb;refine Code.wpIn_mono ?_ ca
    have a0:∀(f:Av AL) (W3:Ad),KeepsOthers Wc W3->
     (Instr.endRound l f).run P W3=.ok (.bool f.isNone) (W3.putObj l (.loop (rec (if f.isNone then .ready else .done) f)))/\W3.heap[l]? =X (.loop { rec .ready Aa with state:=.busy })/\
     (W3.putObj l (.loop (rec (if f.isNone then .ready else .done) f))).heap[l]? =X (.loop (rec (if f.isNone then .ready else .done) f))/\
     (W3.putObj l (.loop (rec (if f.isNone then .ready else .done) f))).heap[w.heap.size]? =X (.deferred (X [])):=fun f W3 a1=>by
     have bf:=a1.same _ _ bh Z;have hr:=run_endRound (P:=P) f bf;rw[hrec]at hr ⊢;exact⟨hr,Bh,World.putObj_heap_same (LR.1 bf).1,(World.putObj_heap_other al).trans (a1.same _ _ bi Z)⟩
    rintro e a3 W3 hp;cases e with
    |normal=>
     obtain⟨h1,h2,h3⟩:=hp;obtain⟨g1,g2,g3,g4⟩:=a0 Aa W3 h1;refine⟨_,_,g1,_,Z,.inl ⟨Z,⟨hI _ _ _ _ h3 (NJ _ _ _) (nl g2),g3,g4⟩,fun k C=>?_⟩⟩;have b5:=hS k C;exact(World.putObj_heap_other J).trans ((h2 k C).trans (bb k C))
    |ret=>
     obtain⟨h1,h3⟩:=hp;obtain⟨g1,g2,g3,g4⟩:=a0 (X .ret) W3 h1;exact⟨_,_,g1,_,Z,.inr ⟨Z,.ret,V _ _ _ _ _ h3 (NJ _ _ _) (nl g2),g3,g4⟩⟩
    |exit id=>
     obtain⟨h1,h3⟩:=hp;obtain⟨g1,g2,g3,g4⟩:=a0 (X (.exit id)) W3 h1;exact⟨_,_,g1,_,Z,.inr ⟨Z,.exit id,V _ _ _ _ _ h3 (NJ _ _ _) (nl g2),g3,g4⟩⟩
    |goto t=>
     obtain⟨h1,h3⟩:=hp;obtain⟨g1,g2,g3,g4⟩:=a0 (X (.goto t)) W3 h1;exact⟨_,_,g1,_,Z,.inr ⟨Z,.goto t,V _ _ _ _ _ h3 (NJ _ _ _) (nl g2),g3,g4⟩⟩
    |panic ch=>exact hp.elim
    |outgrown=>exact hp.elim
   exact b1 _ ⟨ha.fr.put hp _,Z⟩
  .rintro e W2⟨⟨v,rfl⟩,(⟨xs,hF,L,r,E⟩|⟨pre,hP,c,L,r,E⟩)⟩
   .obtain⟨o,he⟩:∃o,(Instr.endLoop l).run P W2=.ok Aa (W2.putObj l o):=by
     have he:=run_endLoop (P:=P) r (by rw[hrec];simp);grind
    have h:=a5 w.heap.size xs _ (Bq _) hF (hI _ _ _ _ L (NJ W2 l o) (nl r)) ((World.putObj_heap_other al).trans E) { a with defers:={ target:=.collected w.heap.size,args:=#[] }::a.defers } ⟨ha.fr,by show _::a.defers=_::ds;rw[ha.df]⟩;rw[Py]at h;exact⟨Aa,_,he,h⟩
   .obtain⟨o,he⟩:∃o,(Instr.endLoop l).run P W2=.ok (X c) (W2.putObj l o):=by
     have he:=run_endLoop (P:=P) r (by rw[hrec];simp);grind
    have h:=a4 w.heap.size c pre _ (Bq _) hP (V c _ _ _ _ L (NJ W2 l o) (nl r)) ((World.putObj_heap_other al).trans E) { a with defers:={ target:=.collected w.heap.size,args:=#[] }::a.defers } ⟨ha.fr,by show _::a.defers=_::ds;rw[ha.df]⟩;rw[Py]at h;exact⟨X c,_,he,h⟩
end
section
variable{P:AE}{n:Y}{σ:BJ}{w w':Ad}{t e ty T src dst:Ay}{x y:AD}
def Bk.shape{b:Y}{l:Bm}(h:Bk w b T l):w.shape? b=X (T,Aim l):=by
 obtain⟨a,h,_⟩:=h;simp[World.shape?,h]
def pI{a:AC}{s cells:Y}(i:P.underlying src=X (.pointer t))(m:P.underlying dst=X .unsafePointer)(h:(P.info? t).map (·.size)=X (s+1))(hsh:w.shape? a.block=X (e,cells))(d:a.off<cells)(hx:ev σ x=X (.pointer (X a))):
 EX P n σ (.convert src dst x) ty w (.pointer (X a)) w:=fun A o dd f after g=>by
 obtain⟨j,l,k⟩:=Nq.1 h;simp only[execOp,o.ev hx,Lib.run_to_unsafe w a i m l J hsh d,Sem.run_bind,Result.andThen_ok];rfl
def pj{a:AC}{u:Ay}{cells:Y}{z:Y}(h:P.underlying src=X .unsafePointer)(l:P.underlying dst=X (.pointer u))(f:(P.info? u).map (·.size)=X z)(hsh:w.shape? a.block=X (e,cells))(hl:liesAt P P.depth e (cells/P.cellsOf e) a.off u 1=Af)(hx:ev σ x=X (.pointer (X a))):
 EX P n σ (.convert src dst x) ty w (.pointer (X a)) w:=fun A m dd d after g=>by
 obtain⟨j,k,i⟩:=Nq.1 f;simp only[execOp,m.ev hx,Lib.run_from_unsafe w a h l k hsh hl,Sem.run_bind,Result.andThen_ok];rfl
def pC{a:AC}{z:Y}(g:P.underlying t=X (.pointer e))(d:(P.info? e).map (·.size)=X z)(hx:ev σ x=X (.pointer (X a)))(f:ev σ y=X (.pointer (X a))):EX P n σ (.binOp .neq t x y T) ty w (.bool Aj) w:=by
 obtain⟨j,i,h⟩:=Nq.1 d;exact Gb hx f (YK _ _ _) (Lib.run_neq_ptr_same w a g i)
def pg {f:FuncId} {fn:Func} {xs:Ae AD} {vs:Bm} {h:Ap Ay} {E:Ap Ah->Sem Ah} {v:Ah} (hf:P.funcs[f]? =X fn) (d:(fn.name== "runtime.NumGoroutine")=Aj) (l:fn.body.isNone=Af) (k:Extern.findNext fn=Aa) (he:Extern.find fn=X E)
 (hx:evs σ xs=X vs) (j:(E vs.toArray).run P w=.ok v w'):EX P n σ (.call { callee:=.value (.func f),args:=xs.toArray,argTypes:=h }) ty w v w':=fun a m dd i after g=>by
 rw[execOp_call_go];have:#[]++xs.toArray.map a.eval++#[]=vs.toArray:=by simp[m.evs hx]
 rw[this,run_callFunc_extern hf d l k he,j];rfl
def cL{a:AC}{m c:Y}(f:c≠0)(hx:ev σ x=X (.slice (X a) m c)):EX P n σ (.call { callee:=.builtin .unsafeSliceData,args:=#[x],argTypes:=#[t] }) ty w (.pointer (X a)) w:=fun A h dd d after g=>by
 simp only[execOp,resolve,invoke,builtin,Sem.run_bind,Sem.run_pure,Result.andThen_ok,Gy,Cp,EO,h.ev hx,Lib.run_unsafeSliceData_row w _ _ a m c f]
def pH{m c:Y}(hx:ev σ x=X (.slice Aa m c)):EX P n σ (.call { callee:=.builtin .unsafeSliceData,args:=#[x],argTypes:=#[t] }) ty w (.pointer Aa) w:=fun A d dd a after g=>by
 simp only[execOp,resolve,invoke,builtin,Sem.run_bind,Sem.run_pure,Result.andThen_ok,Gy,Cp,EO,d.ev hx,Lib.run_unsafeSliceData_nil w _ _ m c]
def cN{g:Y}{l:Bg}{rest:Bm}{t':Ay}(m:P.underlying t=X (.pointer e))(p:P.cellsOf e=1)(d:Bk w g e (BI l++rest))(h0:l≠[])(a:Aim l<=9223372036854775807)
 (hx:ev σ x=X (.pointer (X ⟨g,0,Aa⟩))) (k:ev σ y=X (.int .i64 (Aim l:H))):EX P n σ (.call { callee:=.builtin .unsafeString,args:=#[x,y],argTypes:=#[t,t'] }) ty w (Bj l) (w.freeze ⟨g,0,Aa⟩ (Aim l)):=fun A f dd i after r=>by
 have h:=Lib.run_unsafeString_row (P:=P) w t t' ty e m p g (Aim (BI l++rest)) d.shape l h0 (by simp[BI]) a (by
  intro j u o
  have:(BI l++rest)[j]? =X (.int .u8 (u.toNat:H)):=by
   rw[FA (by simp[BI];grind)];simp[BI,o]
  have q:=d.cell_of this;rw[show(⟨g,0,Aa⟩:AC).add j=⟨g,j,Aa⟩ by unfold Addr.add;grind];omega)
 simp only[execOp,resolve,invoke,builtin,Sem.run_bind,Sem.run_pure,Result.andThen_ok,Gy,Cp,EO,f.ev hx,f.ev k,h]
def pJ{t':Ay}{p:Av AC}(hx:ev σ x=X (.pointer p))(f:ev σ y=X (.int .i64 ((0:Y):H))):EX P n σ (.call { callee:=.builtin .unsafeString,args:=#[x,y],argTypes:=#[t,t'] }) ty w (Bj []) w:=fun A a dd d after i=>by
 have h:=Lib.run_unsafeString_none (P:=P) w t t' ty p;have g:(((0:Y):H))=0:=rfl;simp only[execOp,resolve,invoke,builtin,Sem.run_bind,Sem.run_pure,Result.andThen_ok,Gy,Cp,EO,a.ev hx,a.ev f,g,h];rfl
end
section
variable{P:AE}{n:Y}{σ:BJ}{w:Ad}{x y:AD}{t e ty T:Ay}{z:Ah}{bs:Y}
def EX.arrayAt{m len cap:Y}{A:Av AC}(ht:P.underlying t=X (.array m e))(hx:ev σ x=X (.slice A len cap))(h:m<=len):EX P n σ (.sliceToArrayPointer t x) ty w (.pointer A) w:=fun a j k d after g=>by
 have i:¬len<m:=J
 have f:(Instr.arrayAt t (.slice A len cap)).run P w=.ok (.pointer A) w:=by
  simp[Instr.arrayAt,run_underlying ht,i,Sem.run_bind]
 simp only[execOp,j.ev hx,Sem.run_bind,f];rfl
def Abj{a0 a1 a2 m l b0 j i h g:Ah}{q0 q1 q2 f a:Aw}{d:TypeDesc}(ht:P.underlying t=X (.array 5 e))(he:P.underlying e=X d)(hf:flat d=Af)(hi:TI P e z 1 bs)
 (h0:∀k,(Op.equalIn (k+1) e a0 b0).run P w=.ok q0 w) (h1:∀k,(Op.equalIn (k+1) e a1 j).run P w=.ok q1 w) (h2:∀k,(Op.equalIn (k+1) e a2 i).run P w=.ok q2 w) (q:∀k,(Op.equalIn (k+1) e m h).run P w=.ok f w) (p:∀k,(Op.equalIn (k+1) e l g).run P w=.ok a w) (k:Y):
 (Op.equalIn (k+1+1) t (.agg #[a0,a1,a2,m,l]) (.agg #[b0,j,i,h,g])).run P w=.ok (q0 && (q1 && (q2 && (f && a)))) w:=by
 have o:GX 0 5=[0,1,2,3,4]:=rfl;rw[Op.equalIn];simp only[Sem.run_bind,run_underlying ht,Result.andThen_ok,Fj hi];cases q0<;>cases q1<;>cases q2<;>cases f<;>cases a<;>simp[Std.Legacy.Range.forIn_eq_forIn_range',Std.Legacy.Range.size,o,part,MN he,hf,h0 k,h1 k,h2 k,q k,p k,Sem.run_bind]
def py{g s1 s2 f d r0 r1 r2 j i:Bg}(ht:P.underlying t=X (.array 5 e))(he:P.underlying e=X .string)(hi:TI P e z 1 bs)(hm:P.eqGuardType P.depth t=Aj)(hx:ev σ x=X (.agg [Bj g,Bj s1,Bj s2,Bj f,Bj d].toArray))(l:ev σ y=X (.agg [Bj r0,Bj r1,Bj r2,Bj j,Bj i].toArray)):
 EX P n σ (.binOp .neq t x y T) ty w (.bool (decide ([g,s1,s2,f,d]≠[r0,r1,r2,j,i]))) w:=by
 refine Gb hx l (run_eqGuard_agg w _ t x y _ _ hm) ?_;have h:=Abj (w:=w) ht he Z hi (fun k=>QE (a:=g) (b:=r0) he k) (fun k=>QE (a:=s1) (b:=r1) he k) (fun k=>QE (a:=s2) (b:=r2) he k) (fun k=>QE (a:=f) (b:=j) he k) (fun k=>QE (a:=d) (b:=i) he k) 9998;rw[run_neq_struct];simp_all
end
end
section
open Go.MapKept
section
variable{P:AE}{w:Ad}{b c:Y}{es:Ap MapEntry}{n:Y}{σ:BJ}{x y:AD}{ty t k e:Ay}
def NS(ks:Ae (Bg)):Ae (Bg×Ah):=ks.map fun s=>(s,.bool Af)
def mS(ks:Ae (Bg)):(NS ks).map (·.1)=ks:=by
 unfold NS;rw[EE];exact List.map_id' ks
def Abl{bs:Y}(ht:P.underlying t=X (.map k e))(hk:P.underlying k=X .string)(hi:TI P e (.bool Aj) 1 bs){ks:Ae (Bg)}(h:Mp w b es c (NS ks))(s:Bg):
 (Instr.lookup t (.map (X b)) (Bj s) Aj).run P w=.ok (.bool (decide (s∈ks))) w:=by
 have a:IsKey .string (Bj s):=trivial;rcases findNow_spec a es.toList 0 h.isKey with⟨m,l⟩|⟨j,A,m,l,v⟩
 .have i:s∉ks:=by
   have:=Zh h.kv l;rwa[mS]at this
  rw[AN i];simp[Instr.lookup,run_underlying ht,MapKept.run_getObj_map h.blk,run_checkKey hk a,run_findKey hk m,NR hi,Result.andThen]
 .obtain⟨p,r,g,f⟩:=h.at l;obtain rfl:=VE (v.symm.trans g);obtain⟨o,d,rfl⟩:=Ck.1 (RS r);rw[AM (show(o,Value.bool Af).1∈ks from d)];have q:A.val=.bool Af:=f;simp[Instr.lookup,run_underlying ht,MapKept.run_getObj_map h.blk,run_checkKey hk a,run_findKey hk m,q,Result.andThen]
def pq{bs:Y}{s:Bg}(ht:P.underlying t=X (.map k e))(hk:P.underlying k=X .string)(hi:TI P e (.bool Aj) 1 bs){ks:Ae (Bg)}(hx:ev σ x=X (.map (X b)))(i:ev σ y=X (Bj s))(h:Mp w b es c (NS ks)):
 EX P n σ (.lookup t x y Aj) ty w (.bool (decide (s∈ks))) w:=fun a d j f after g=>by
 simp only[execOp,d.ev hx,d.ev i,Abl ht hk hi h s,Sem.run_bind,Result.andThen_ok,Sem.run_pure]
end
end
end Go.Proofs.YtkmlafmjaeeanaaGreatDoor
