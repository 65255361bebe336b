/- TopCrash, part A: the laws of steps through code, plain facts of runs and lists. -/
import Derived.Carry
import Derived.ChangeMaps4
import Derived.Deep.AppendSrc
import Derived.Deep.Draws
import Derived.Deep.Grids
import Derived.Deep.Quiet
import Derived.Deep.Slices
import Derived.Ground.Names2Prog
import Derived.Ground.SlsfProg
import Derived.Laws.Externs
import Derived.Laws.ResultCell
import Derived.Laws.StructEq
import Derived.Lib.AppendIntMem
import Derived.Lib.AppendZerosOnto
import Derived.Lib.Builder
import Derived.Lib.Bytealg
import Derived.Lib.CountLaws
import Derived.Lib.Hide
import Derived.Lib.IndexBytes
import Derived.Lib.IndexLaws
import Derived.Lib.IndexMore
import Derived.Lib.ItoaLen
import Derived.Lib.ItoaNum
import Derived.Lib.Join
import Derived.Lib.LaidTab
import Derived.Lib.SlBytesConst
import Derived.Lib.Split
import Derived.Lib.SplitLaws
import Derived.Lib.UnsafeStr
import Derived.MapKept
import Derived.Maps.RangeRun
import Derived.OpenShut
import Derived.OrdersHeld
import Derived.OrdersIn
import Derived.ProofKit
import Derived.RangeFuncBound
import Derived.RangeFuncCalls
import Derived.RangeFuncFrom
import Derived.RangeFuncLeaves
import Derived.RecoverIn
import Derived.Scope
import Derived.Shelf.Bits.Mul64
import Derived.Shelf.LaysM
import Derived.Shelf.SlGeneric
import Derived.Shelf.SlSortCmp.HeapSort1
import Derived.Shelf.SlSortCmp.Insertion
import Derived.Shelf.SlSortCmp.Insertion1
import Derived.Shelf.SlSortCmp.Median1
import Derived.Shelf.SlSortCmp.NoneTotal
import Derived.Shelf.SlSortCmp.PartialInsertion1
import Derived.Shelf.SlSortCmp.Partition1
import Derived.Shelf.SlSortCmp.PartitionEqual1
import Derived.Shelf.SlSortCmp.Pdq1
import Derived.Shelf.SlSortCmp.Pivot1
import Derived.Shelf.SlSortCmp.ReverseRange1
import Derived.Shelf.SlSortCmp.SiftDown1
import Derived.Shelf.SlSortCmp.Whole1
import Derived.Shelf.Slices.Clone
import Derived.Shelf.Slices.Turned
import Derived.Shelf.Small.Bits
import Derived.Shelf.Small.Strs
import Derived.Shelf.Strconv.Itoa0
import Derived.Shelf.Strconv.Itoa1
import Derived.Shelf.Strconv.Itoa2
import Derived.Shelf.Strconv.Itoa3
import Derived.Shelf.Strings.Builder1
import Derived.Shelf.Strings.Builder2
import Derived.Shelf.Strings.Builder2Cap
import Derived.Shelf.Strings.BuilderF
import Derived.Shelf.Strings.Count
import Derived.Shelf.Strings.Cut
import Derived.Shelf.Strings.Explode
import Derived.Shelf.Strings.OnBuilder
import Derived.Shelf.Strings.Prefix
import Derived.Shelf.Strings.Repeat
import Derived.Shelf.Strings.RuneCount
import Derived.Shelf.Strings.Search1
import Derived.Shelf.Strings.Search2
import Derived.Shelf.Strings.Search3
import Derived.Shelf.Strings.Shaped
import Derived.Shelf.Strings.Split
import Derived.Shelf.Strings.SplitShaped
import Derived.Shelf.Unicode.Decode
import Derived.Shelf.Unicode.DecodeAny
import Derived.Shelf.Unicode.DecodeSlow
import Derived.Shelf.Utf8.RuneCount
import Derived.ShutString
import Derived.SizedLaws
import Derived.SliceStrings
import Derived.Sort.AssemblyPlain
import Derived.Sort.Defs
import Derived.Sort.LotC
import Derived.Sort.Statements
import Derived.Sort.Walk13a
import Derived.Sort.WalkA14
import Derived.Sort.WalkB3
import Derived.StillTail
import Derived.Stop.LaidErr
import Derived.WalkKit
import Derived.WalkLawsBesides
import Derived.WalkSpells
import Derived.Test.YtkmlafmjaeeanaaGreatDoorProg
import Derived.Test.YtkmlafmjaeeanaaGreatDoorRows
set_option linter.all false
set_option maxHeartbeats 2000000
set_option maxRecDepth 20000
open Go Go.RowKit Go.Proofs.Tryz
open _root_ renaming rfl→Z,Nat→Y,Int→H,List→Ae,if_neg→Ag,if_pos→Ai,Array→Ap,Bool→Ar,congrArg→Av,Option→Aw,trivial→AB,UInt8→AH,absurd→AI,String→AJ,decide_eq_true→AL,decide_eq_false→AN,of_decide_eq_true→AO,dif_pos→AQ,of_decide_eq_false→AR
open _root_.Array renaming replicate→JX
open _root_.Bool renaming false_eq_true→Wi,true→Af,false→Aj
open _root_.ByteArray renaming size→PO,toList→RC
open _root_.Go renaming World→Ad,Value→Ah,TypeId→Ay,Addr→AC,Program→AD,Act→AE,Operand→AF,Oper→AG,IntKind→AK,Code→AM,Exit→AP
open _root_.List renaming range→BF,replicate→BJ,length→DZ,range'→Ha,cons→RM,length→Ajb
open _root_.Nat renaming blt→BL,beq→Jw,strongRecOn→RX,reducePow→WV
open _root_.Option renaming some→RZ,some→J,none→Aa
open _root_.UInt8 renaming ofNat→BU
namespace Go.Proofs.YtkmlafmjaeeanaaGreatDoor
def Bv:=@Nat.le_refl
def BA:=@List.length_append
def BC:=@Nat.le_trans
def BE:=@Nat.zero_le
def BM:=@List.getElem_mem
def BR:=@List.getElem?_eq_getElem
def BZ:=@List.length_take
def Ck:=@List.getD_eq_getElem?_getD
def Co:=@List.map_cons
def Cq:=@List.length_replicate
def Cr:=@List.mem_map
def Cx:=@List.append_assoc
def Cz:=@List.length_cons
def CF:=@List.mem_singleton
def CM:=@List.length_drop
def CS:=@List.take_append_getElem
def Dd:=@List.length_singleton
def Df:=@Nat.lt_or_ge
def Dk:=@Classical.not_not
def Dq:=@List.take_of_length_le
def Dx:=@List.mem_append
def DE:=@List.drop_eq_getElem_cons
def DF:=@List.length_map
def DT:=@List.map_append
def DU:=@List.mem_range
def DV:=@List.take_length
def Eh:=@List.getElem?_map
def Ep:=@List.map_nil
def EO:=@List.map_map
def EP:=@List.nil_append
def EY:=@Int.eq_ofNat_of_zero_le
def EZ:=@List.length_nil
def Fa:=@Nat.sub_self
def Fb:=@Nat.zero_add
def FC:=@Option.mem_toList
def FN:=@List.getElem?_append_left
def FO:=@List.mem_cons_of_mem
def FP:=@Option.map_some
def FZ:=@List.flatMap_cons
def Ga:=@List.range_succ
def Gb:=@Nat.pow_le_pow_right
def Gi:=@List.cons_append
def Gj:=@List.drop_drop
def GC:=@List.map_toArray
def GZ:=@List.ext_getElem?
def Hb:=@Nat.min_eq_left
def Hp:=@List.length_range
def Hq:=@List.mem_iff_getElem
def Hr:=@List.take_left'
def HB:=@Bool.and_true
def HF:=@List.all_cons
def HG:=@List.all_nil
def HH:=@List.length_set
def HI:=@List.mem_cons_self
def HJ:=@List.take_append_drop
def Ig:=@Bool.true_and
def Ih:=@List.eq_nil_of_length_eq_zero
def Ii:=@List.getElem?_append_right
def Ij:=@List.pairwise_cons
def Ik:=@List.pairwise_iff_getElem
def IG:=@Classical.byContradiction
def IK:=@List.drop_length
def IL:=@List.flatMap_append
def IM:=@List.flatMap_def
def IN:=@List.getElem?_eq_none
def IP:=@Nat.mul_one
def Jv:=@Nat.add_zero
def Jy:=@Nat.eq_zero_or_pos
def Jz:=@Nat.mod_eq_of_lt
def Kh:=@List.foldl_cons
def Ki:=@List.getElem?_eq_some_iff
def Kj:=@List.map_congr_left
def Kk:=@List.mem_filter
def Kl:=@List.mem_of_mem_take
def Km:=@List.replicate_succ
def Kn:=@List.set_cons_succ
def Ko:=@List.set_cons_zero
def Kq:=@Nat.add_assoc
def Kr:=@Nat.add_sub_cancel_left
def Ks:=@Nat.lt_of_lt_of_le
def Kt:=@Nat.pow_succ
def Le:=@List.drop_eq_nil_of_le
def Lf:=@List.filter_append
def Lg:=@List.forall_mem_cons
def Lh:=@List.forall_mem_nil
def Ll:=@UInt8.toNat_inj
def LV:=@List.filter_cons
def LW:=@List.map_singleton
def LX:=@List.pairwise_map
def LY:=@List.take_add_one
def LZ:=@Nat.or_lt_two_pow
def MX:=@List.ext_getElem
def MY:=@List.getElem?_range
def MZ:=@List.getElem_inj
def Na:=@List.length_pos_iff
def Nb:=@List.pairwise_append
def Nc:=@List.set_append_right
def Nf:=@Nat.le_succ
def Ng:=@Nat.mod_lt
def Nh:=@Nat.shiftRight_eq_div_pow
def Ni:=@Option.map_eq_some_iff
def Nj:=@Option.map_none
def NZ:=@Classical.em
def Oq:=@List.drop_of_length_le
def Ot:=@List.drop_zero
def Ou:=@List.getElem_map
def Ov:=@List.mem_flatMap
def Ox:=@Nat.div_le_self
def Oy:=@Nat.le_of_eq
def Oz:=@Nat.mul_le_mul
def OA:=@Nat.xor_lt_two_pow
def PM:=@Array.getElem?_eq_some_iff
def PN:=@Bool.toNat_le
def PZ:=@List.flatten_cons
def Qa:=@List.foldl_append
def Qb:=@List.idxOf_lt_length_of_mem
def Qc:=@List.nodup_range
def Qd:=@List.take_zero
def Qf:=@Nat.le_add_right
def Qg:=@Nat.le_of_lt
def Qh:=@Nat.lt_succ_self
def Qi:=@Nat.mul_comm
def Qj:=@Nat.succ_mul
def Qk:=@Nat.testBit_lt_two_pow
def Rz:=@Bool.and_eq_false_iff
def RA:=@Bool.eq_iff_iff
def RB:=@Bool.or_eq_true
def RN:=@List.drop_left'
def RO:=@List.getElem?_cons_succ
def RQ:=@List.getElem_set
def RR:=@List.length_filter_le
def RS:=@List.range_eq_range'
def RT:=@List.replicate_succ'
def RU:=@List.singleton_append
def RV:=@Nat.add_mul
def RW:=@Nat.add_sub_cancel
def TD:=@Int.toNat_natCast
def TE:=@Int.toNat_of_nonneg
def TG:=@List.all_eq_true
def TH:=@List.drop_append_of_le_length
def TJ:=@List.drop_succ_cons
def TK:=@List.eq_nil_or_concat
def TL:=@List.flatMap_nil
def TM:=@List.getElem?_drop
def TN:=@List.getElem?_reverse
def TO:=@List.length_zipIdx
def TP:=@List.map_take
def TQ:=@List.mergeSort_perm
def TR:=@List.nodup_cons
def TS:=@List.replicate_zero
def TT:=@List.set_append_left
def TU:=@List.take_append_of_le_length
def TV:=@List.take_succ_cons
def TX:=@Nat.add_comm
def TY:=@Nat.eq_of_testBit_eq
def TZ:=@Nat.le_succ_of_le
def Ua:=@Nat.le_total
def Ub:=@Nat.log2_lt
def Uc:=@Nat.lt_trichotomy
def Ud:=@Nat.mul_le_mul_right
def Ue:=@Nat.pow_add
def Wg:=@Array.getElem?_modify
def Wv:=@Int.natCast_mul
def Wz:=@List.append_inj_left
def WA:=@List.drop_take
def WB:=@List.eraseIdx_eq_take_drop_succ
def WC:=@List.filter_eq_self
def WD:=@List.foldl_map
def WE:=@List.getElem?_set
def WF:=@List.getElem_append_left
def WG:=@List.length_flatten
def WH:=@List.map_pmap
def WI:=@List.mem_of_getElem?
def WJ:=@List.nodup_append
def WK:=@List.nodup_nil
def WL:=@List.pairwise_lt_range
def WM:=@List.range'_succ
def WN:=@List.take_take
def WO:=@List.zipIdx_cons
def WP:=@List.zip_cons_cons
def WR:=@Nat.div_div_eq_div_mul
def WS:=@Nat.lt_of_le_of_lt
def WT:=@Nat.mul_assoc
def dm:=@List.dropWhile_cons_of_neg
def dp:=@List.eq_of_mem_replicate
def dq:=@List.getLast?_eq_getElem?
def dr:=@List.pairwise_mergeSort
def dt:=@List.takeWhile_append_of_pos
def du:=@List.take_succ_eq_append_getElem
def X{p:Prop}(h:p:=by omega):p:=h
def Bc{p:Prop}(h:p:=by decide):p:=h
def Be{p:Prop}(h:p:=by kernel_rfl):p:=h
def Bx{p:Prop}(h:p:=by simp;omega):p:=h
def Bi{p:Prop}(h:p:=by simp):p:=h
def CA{p:Prop}(h:p:=by simp only[maxLen];omega):p:=h
def Ce{p:Prop}(h:p:=by assumption):p:=h
def Bg{p:Prop}(h:p:=by grind):p:=h
def Ozi{p:Prop}(h:p:=by intros;omega):p:=h
abbrev Bh:=Ae AH
abbrev Bm:=Ae Ah
abbrev Bj:=Ae Y
abbrev U(n:H):Ah:=.int .i64 n
section
abbrev BH:=Ae (Y×Ah)
def lk:BH->Y->Aw Ah
 |[],_=>Aa
 |(i,v)::r,t=>match Jw i t with|true=>J v|false=>lk r t
def ev(σ:BH):AF->Aw Ah
 |.tmp t=>lk σ t
 |.const v=>J v
 |.global g=>J (.pointer (J ⟨g,0,Aa⟩))
 |.func f=>J (.func (.func f) #[] #[])
def evs(σ:BH):Ae AF->Aw (Bm)
 |[]=>J []
 |x::r=>match ev σ x with
  |some v=>match evs σ r with
   |some vs=>J (v::vs)
   |none=>Aa
  |none=>Aa
structure Fr(n:Y)(σ:BH)(a:AE):Prop where
 size:a.tmps.size=n
 val:∀t v,lk σ t=J v->a.tmps[t]? =J v
 df:a.defers=[]
def Fr.ev{n:Y}{σ:BH}{a:AE}(h:Fr n σ a){x:AF}{v:Ah}(hx:ev σ x=J v):a.eval x=v:=by
 cases x with
 |tmp t=>
  have:=h.val t v hx;simp[Act.eval,this]
 |const u=>simpa[Go.Proofs.YtkmlafmjaeeanaaGreatDoor.ev,Act.eval]using hx
 |global g=>simpa[Go.Proofs.YtkmlafmjaeeanaaGreatDoor.ev,Act.eval]using hx
 |func f=>simpa[Go.Proofs.YtkmlafmjaeeanaaGreatDoor.ev,Act.eval]using hx
def Fr.evs{n:Y}{σ:BH}{a:AE}(h:Fr n σ a):∀{xs:Ae AF} {vs:Bm},evs σ xs=J vs->xs.map a.eval=vs
 |[],vs,hx=>by simpa[Go.Proofs.YtkmlafmjaeeanaaGreatDoor.evs]using hx
 |x::xs,vs,hx=>by
  unfold Go.Proofs.YtkmlafmjaeeanaaGreatDoor.evs at hx;split at hx
  .rename_i v hv;split at hx
   .rename_i us hus;injection hx with hx;subst hx;simp[h.ev hv,h.evs hus]
   .cases hx
  .cases hx
def Pd(σ:BH)(d:Y)(v:Ah):lk ((d,v)::σ) d=J v:=by simp[lk]
def Pc(σ:BH)(d t:Y)(v:Ah):lk ((d,v)::σ) t=if d=t then J v else lk σ t:=by
 by_cases h:d=t
 .subst h;simp[Pd]
 .have:Jw d t=Aj:=by
   cases hb:Jw d t with
   |false=>rfl
   |true=>simp_all
  simp[lk,this,h]
def Fr.put{n:Y}{σ:BH}{a:AE}(h:Fr n σ a){d:Y}(i:BL d n=Af)(v:Ah):Fr n ((d,v)::σ) (a.put (J d) v):=by
 have g:=by simpa[Nat.blt_eq]using i
 refine⟨by simpa[Act.put]using h.size,fun t u f=>?_,h.df⟩;rw[Pc]at f;by_cases e:d=t
 .subst e;simp at f;subst f;simp[Act.put,h.size,g]
 .simp[e]at f;simp[Act.put];rw[Array.getElem?_setIfInBounds_ne e];exact h.val t u f
def Ei:BH->BH->Prop
 |[],_=>True
 |(t,v)::r,σ=>lk σ t=J v/\Ei r σ
def Ei.lk{σ:BH}:∀{σ':BH},Ei σ' σ->∀{t:Y} {v:Ah},lk σ' t=J v->lk σ t=J v
 |[],_,_,_,h=>by simp[Go.Proofs.YtkmlafmjaeeanaaGreatDoor.lk]at h
 |(i,u)::r,hs,t,v,h=>by
  rw[Pc]at h;by_cases e:i=t
  .subst e;simp at h;subst h;exact hs.1
  .simp[e]at h;exact hs.2.lk h
def Fr.sub{n:Y}{σ σ':BH}{a:AE}(h:Fr n σ a)(hs:Ei σ' σ):Fr n σ' a:=⟨h.size,fun t v ht=>h.val t v (hs.lk ht),h.df⟩
inductive KI where
 |code (c:AM)
 |blk (id:Y)
 |asr (I:AE->Ad->Prop)
def DP(P:AD)(R:AE->Ad->Prop):Ae KI->AP->AE->Ad->Prop
 |[],.normal=>R
 |[],.ret=>R
 |[],_=>fun _ _=>False
 |.code c::k,e=>match e with|.normal=>fun a w=>c.wp P (DP P R k) a w|e=>DP P R k e
 |.blk id::k,e=>match e with|.exit i=>fun a w=>if i=id then DP P R k .normal a w else DP P R k (.exit i) a w|e=>DP P R k e
 |.asr I::k,e=>match e with|.normal=>I|e=>DP P R k e
def GP(id:Y):Ae KI->Aw (Ae KI)
 |[]=>Aa
 |.blk i::k=>match Jw id i with|true=>J k|false=>GP id k
 |.code _::k=>GP id k
 |.asr _::k=>GP id k
def KW(P:AD)(R:AE->Ad->Prop)(k:Ae KI)(n:Y)(σ:BH)(w:Ad):Prop:=∀a,Fr n σ a->DP P R k .normal a w
section
variable{P:AD}{R:AE->Ad->Prop}{k:Ae KI}{n:Y}{σ:BH}{w:Ad}
def zE(c:AM)(k:Ae KI):DP P R (.code c::k)=Exit.then (fun a w=>c.wp P (DP P R k) a w) (DP P R k):=by
 funext e a w;cases e<;>simp[DP,Exit.then]
def zD(id:Y)(k:Ae KI):DP P R (.blk id::k)=Exit.inBlock id (DP P R k):=by
 funext e a w;cases e<;>simp[DP,Exit.inBlock]
def Vt{id:Y}:∀{k k':Ae KI},GP id k=J k'->∀a w,DP P R k (.exit id) a w=DP P R k' .normal a w
 |[],_,h,_,_=>by simp[GP]at h
 |.code c::k,k',h,a,w=>by simp[GP]at h;exact Vt h a w
 |.asr I::k,k',h,a,w=>by simp[GP]at h;exact Vt h a w
 |.blk i::k,k',h,a,w=>by
  simp[GP]at h;simp only[DP];by_cases e:id=i
  .simp_all
  .have:Jw id i=Aj:=by
    cases hb:Jw _ i with
    |false=>rfl
    |true=>simp_all
   rw[this]at h;rw[Ag e];exact Vt h a w
def Vv:∀(k:Ae KI) (a:AE) (w:Ad),DP P R k .ret a w=R a w
 |[],_,_=>rfl
 |.code _::k,a,w=>Vv k a w
 |.blk _::k,a,w=>Vv k a w
 |.asr _::k,a,w=>Vv k a w
def Eo{x y:AM}(h:KW P R (.code x::.code y::k) n σ w):KW P R (.code (.seq x y)::k) n σ w:=fun a d=>by
 have:=h a d;refine wp_seq ?_;rwa[<-zE]
def KW.block{id:Y}{c:AM}(h:KW P R (.code c::.blk id::k) n σ w):KW P R (.code (.block id c)::k) n σ w:=fun a d=>by
 have:=h a d;refine wp_block ?_;rwa[<-zD]
def di{id:Y}(h:KW P R k n σ w):KW P R (.blk id::k) n σ w:=Ce
def KW.skip(h:KW P R k n σ w):KW P R (.code .skip::k) n σ w:=fun a d=>wp_skip (h a d)
def qd{l:Y}(h:KW P R k n σ w):KW P R (.code (.label l)::k) n σ w:=fun a d=>wp_label (h a d)
def qc{id:Y}{k':Ae KI}(hk:GP id k=J k')(h:KW P R k' n σ w):KW P R (.code (.exit id)::k) n σ w:=fun a d=>
 wp_exit (by rw[Vt hk];exact h a d)
def Gh(h:∀a,Fr n σ a->R a w):KW P R (.code .ret::k) n σ w:=fun a d=>wp_ret (by rw[Vv];grind)
def KW.done(h:∀a,Fr n σ a->R a w):KW P R [] n σ w:=h
def HD{c:AF}{x y:AM}{b:Ar}(f:ev σ c=J (.bool b))(ht:b=Af->KW P R (.code x::k) n σ w)(hf:b=Aj->KW P R (.code y::k) n σ w):
 KW P R (.code (.cond c x y)::k) n σ w:=fun a d=>
 wp_cond_split (d.ev f) (fun e=>ht e a d) (fun e=>hf e a d)
def TF{c:AF}{x y:AM}{p:Prop}[Decidable p](hc:ev σ c=J (.bool (decide p)))(ht:p->KW P R (.code x::k) n σ w)(hf:¬p->KW P R (.code y::k) n σ w):
 KW P R (.code (.cond c x y)::k) n σ w:=
 HD hc Bg Bg
def pZ{c:AF}{x y:AM}(hc:ev σ c=J (.bool Af))(h:KW P R (.code x::k) n σ w):KW P R (.code (.cond c x y)::k) n σ w:=
 HD hc (fun _=>h) Bi
def pY{c:AF}{x y:AM}(hc:ev σ c=J (.bool Aj))(h:KW P R (.code y::k) n σ w):KW P R (.code (.cond c x y)::k) n σ w:=
 HD hc Bi (fun _=>h)
def Met{ι:Type}(n:Y)(I:ι->Prop)(S:ι->BH)(W:ι->Ad)(a:AE)(w:Ad):Prop:=∃i,I i/\Fr n (S i) a/\w=W i
def KW.cut{ι:Type}(I:ι->Prop)(S:ι->BH)(W:ι->Ad){c:AM}(h:KW P R (.code c::.asr (Met n I S W)::k) n σ w)(m:∀i,I i->KW P R k n (S i) (W i)):
 KW P R (.code c::k) n σ w:=fun a j=>by
 have d:=h a j;simp[DP]at d ⊢;refine Code.wp_mono (fun e o w' q=>?_) d;cases e with
 |normal=>obtain⟨i,f,g,rfl⟩:=q;exact m i f _ g
 |_=>omega
def dj{ι:Type}{I:ι->Prop}{S:ι->BH}{W:ι->Ad}(i:ι)(hs:Ei (S i) σ)(hw:w=W i)(hi:I i):KW P R (.asr (Met n I S W)::k) n σ w:=
 fun _ ha=>⟨i,hi,ha.sub hs,hw⟩
def NY{ι:Type}(n:Y)(I:ι->Prop)(S:ι->BH)(W:ι->Ad)(μ:ι->Y)(i:ι)(a:AE)(w:Ad):Prop:=∃j,I j/\μ j<μ i/\Fr n (S j) a/\w=W j
def KW.back{ι:Type}{I:ι->Prop}{S:ι->BH}{W:ι->Ad}{μ:ι->Y}{i:ι}(j:ι)(d:Ei (S j) σ)(a:w=W j)(hi:I j)(hm:μ j<μ i):
 KW P R (.asr (NY n I S W μ i)::k) n σ w:=fun _ e=>⟨j,hi,hm,e.sub d,a⟩
def jM(M:Y->Prop):∀m,M m->∃m,M m/\∀m',M m'->m<=m':=by
 intro m
 induction m using RX with
 |_ m ih=>
  grind
def RL{ι:Type}(I:ι->Prop)(S:ι->BH)(W:ι->Ad)(μ:ι->Y){c:AM}(i:ι)(A:Ei (S i) σ)(y:w=W i)(hi:I i)
 (d:∀i,I i->KW P R (.code c::.asr (NY n I S W μ i)::k) n (S i) (W i)):KW P R (.code (.loop c)::k) n σ w:=fun a E=>by
 let M (a:AE) (w:Ad) (m:Y):=∃i,I i/\Fr n (S i) a/\w=W i/\μ i=m
 have o:∀a w,(∃m,M a w m)->∃m,M a w m/\∀m',M a w _->m<=m':=fun a w⟨m,g⟩=>jM _ m g
 let ν (a:AE) (w:Ad):=Classical.epsilon fun m=>M a w m/\∀m',M a w m'->m<=m'
 have v:∀a w,(∃m,M a w m)->M a w (ν a w)/\∀m',M a w _->ν a w<=m':=fun a w h=>Classical.epsilon_spec (o a w h);refine wp_loop (fun a w=>∃m,M a w m) ν ⟨_,i,hi,E.sub A,y,Z⟩ fun K w' g=>?_;obtain⟨⟨j,C,D,f,B⟩,_⟩:=v K w' g;have h:=d j C _ D;subst f;refine Code.wp_mono (fun e G x q=>?_) h;cases e with
 |normal=>
  obtain⟨L,t,T,r,p⟩:=q;refine⟨⟨_,_,t,r,p,Z⟩,?_⟩;have:=(v _ _ ⟨_,_,t,r,p,Z⟩).2 _ ⟨_,t,r,p,Z⟩;omega
 |_=>exact q
end
section
variable{P:AD}{R:AE->Ad->Prop}{k:Ae KI}{n:Y}{σ:BH}{w:Ad}
def bW{α:Type}(n:Y)(I:α->Prop)(S:α->BH)(W:α->Ad)(μ:α->Y)(x0:α):AE->Ad->Prop:=
 NY n (fun p:α=>I p) (fun p=>S p) (fun p=>W p) (fun p=>μ p) x0
def KW.loop1{α:Type}(I:α->Prop)(S:α->BH)(W:α->Ad)(μ:α->Y){c:AM}(x0:α)(hs:Ei (S x0) σ)(hw:w=W x0)(hi:I x0)
 (round:∀x0,I x0->KW P R (.code c::.asr (bW n I S W μ x0)::k) n (S x0) (W x0)):KW P R (.code (.loop c)::k) n σ w:=
 RL (fun p:α=>I p) (fun p=>S p) (fun p=>W p) (fun p=>μ p) x0 hs hw hi fun p hp=>round p hp
def KW.back1{α:Type}{I:α->Prop}{S:α->BH}{W:α->Ad}{μ:α->Y}{d:α}(a:α)(f:Ei (S a) σ)(e:w=W a)(hi:I a)(hm:μ a<μ d):
 KW P R (.asr (bW n I S W μ d)::k) n σ w:=
 KW.back (I:=fun p:α=>I p) (S:=fun p=>S p) (W:=fun p=>W p) (μ:=fun p=>μ p) a f e hi hm
def bX{α β:Type}(n:Y)(I:α->β->Prop)(S:α->β->BH)(W:α->β->Ad)(μ:α->β->Y)(x0:α)(x1:β):AE->Ad->Prop:=
 NY n (fun p:α×β=>I p.1 p.2) (fun p=>S p.1 p.2) (fun p=>W p.1 p.2) (fun p=>μ p.1 p.2) (x0,x1)
def Met2{α β:Type}(n:Y)(I:α->β->Prop)(S:α->β->BH)(W:α->β->Ad):AE->Ad->Prop:=
 Met n (fun p:α×β=>I p.1 p.2) (fun p=>S p.1 p.2) (fun p=>W p.1 p.2)
def qe{α β:Type}(I:α->β->Prop)(S:α->β->BH)(W:α->β->Ad)(μ:α->β->Y){c:AM}(x0:α)(x1:β)(hs:Ei (S x0 x1) σ)(hw:w=W x0 x1)(hi:I x0 x1)
 (round:∀x0 x1,I x0 x1->KW P R (.code c::.asr (bX n I S W μ x0 x1)::k) n (S x0 x1) (W x0 x1)):KW P R (.code (.loop c)::k) n σ w:=
 RL (fun p:α×β=>I p.1 p.2) (fun p=>S p.1 p.2) (fun p=>W p.1 p.2) (fun p=>μ p.1 p.2) (x0,x1) hs hw hi fun p hp=>round p.1 p.2 hp
def pX{α β:Type}{I:α->β->Prop}{S:α->β->BH}{W:α->β->Ad}{μ:α->β->Y}{f:α}{e:β}(d:α)(a:β)(h:Ei (S d a) σ)(g:w=W d a)(hi:I d a)(hm:μ d a<μ f e):
 KW P R (.asr (bX n I S W μ f e)::k) n σ w:=
 KW.back (I:=fun p:α×β=>I p.1 p.2) (S:=fun p=>S p.1 p.2) (W:=fun p=>W p.1 p.2) (μ:=fun p=>μ p.1 p.2) (d,a) h g hi hm
def KW.cut2{α β:Type}(I:α->β->Prop)(S:α->β->BH)(W:α->β->Ad){c:AM}(h:KW P R (.code c::.asr (Met2 n I S W)::k) n σ w)
 (h2:∀x0 x1,I x0 x1->KW P R k n (S x0 x1) (W x0 x1)):KW P R (.code c::k) n σ w:=
 KW.cut (fun p:α×β=>I p.1 p.2) (fun p=>S p.1 p.2) (fun p=>W p.1 p.2) h Bg
def KW.meet2{α β:Type}{I:α->β->Prop}{S:α->β->BH}{W:α->β->Ad}(d:α)(a:β)(f:Ei (S d a) σ)(e:w=W d a)(hi:I d a):
 KW P R (.asr (Met2 n I S W)::k) n σ w:=
 dj (I:=fun p:α×β=>I p.1 p.2) (S:=fun p=>S p.1 p.2) (W:=fun p=>W p.1 p.2) (d,a) f e hi
def bY{α β γ:Type}(n:Y)(I:α->β->γ->Prop)(S:α->β->γ->BH)(W:α->β->γ->Ad)(μ:α->β->γ->Y)(x0:α)(x1:β)(x2:γ):AE->Ad->Prop:=
 NY n (fun p:α×β×γ=>I p.1 p.2.1 p.2.2) (fun p=>S p.1 p.2.1 p.2.2) (fun p=>W p.1 p.2.1 p.2.2) (fun p=>μ p.1 p.2.1 p.2.2) (x0,x1,x2)
def KW.loop3{α β γ:Type}(I:α->β->γ->Prop)(S:α->β->γ->BH)(W:α->β->γ->Ad)(μ:α->β->γ->Y){c:AM}(x0:α)(x1:β)(x2:γ)(hs:Ei (S x0 x1 x2) σ)(hw:w=W x0 x1 x2)(hi:I x0 x1 x2)
 (round:∀x0 x1 x2,I x0 x1 x2->KW P R (.code c::.asr (bY n I S W μ x0 x1 x2)::k) n (S x0 x1 x2) (W x0 x1 x2)):KW P R (.code (.loop c)::k) n σ w:=
 RL (fun p:α×β×γ=>I p.1 p.2.1 p.2.2) (fun p=>S p.1 p.2.1 p.2.2) (fun p=>W p.1 p.2.1 p.2.2) (fun p=>μ p.1 p.2.1 p.2.2) (x0,x1,x2) hs hw hi fun p hp=>round p.1 p.2.1 p.2.2 hp
def KW.back3{α β γ:Type}{I:α->β->γ->Prop}{S:α->β->γ->BH}{W:α->β->γ->Ad}{μ:α->β->γ->Y}{h:α}{g:β}{f:γ}(e:α)(d:β)(a:γ)(j:Ei (S e d a) σ)(i:w=W e d a)(hi:I e d a)(hm:μ e d a<μ h g f):
 KW P R (.asr (bY n I S W μ h g f)::k) n σ w:=
 KW.back (I:=fun p:α×β×γ=>I p.1 p.2.1 p.2.2) (S:=fun p=>S p.1 p.2.1 p.2.2) (W:=fun p=>W p.1 p.2.1 p.2.2) (μ:=fun p=>μ p.1 p.2.1 p.2.2) (e,d,a) j i hi hm
def bZ{α β γ δ:Type}(n:Y)(I:α->β->γ->δ->Prop)(S:α->β->γ->δ->BH)(W:α->β->γ->δ->Ad)(μ:α->β->γ->δ->Y)(x0:α)(x1:β)(x2:γ)(x3:δ):AE->Ad->Prop:=
 NY n (fun p:α×β×γ×δ=>I p.1 p.2.1 p.2.2.1 p.2.2.2) (fun p=>S p.1 p.2.1 p.2.2.1 p.2.2.2) (fun p=>W p.1 p.2.1 p.2.2.1 p.2.2.2) (fun p=>μ p.1 p.2.1 p.2.2.1 p.2.2.2) (x0,x1,x2,x3)
def KW.loop4{α β γ δ:Type}(I:α->β->γ->δ->Prop)(S:α->β->γ->δ->BH)(W:α->β->γ->δ->Ad)(μ:α->β->γ->δ->Y){c:AM}(x0:α)(x1:β)(x2:γ)(x3:δ)(hs:Ei (S x0 x1 x2 x3) σ)(hw:w=W x0 x1 x2 x3)(hi:I x0 x1 x2 x3)
 (round:∀x0 x1 x2 x3,I x0 x1 x2 x3->KW P R (.code c::.asr (bZ n I S W μ x0 x1 x2 x3)::k) n (S x0 x1 x2 x3) (W x0 x1 x2 x3)):KW P R (.code (.loop c)::k) n σ w:=
 RL (fun p:α×β×γ×δ=>I p.1 p.2.1 p.2.2.1 p.2.2.2) (fun p=>S p.1 p.2.1 p.2.2.1 p.2.2.2) (fun p=>W p.1 p.2.1 p.2.2.1 p.2.2.2) (fun p=>μ p.1 p.2.1 p.2.2.1 p.2.2.2) (x0,x1,x2,x3) hs hw hi fun p hp=>round p.1 p.2.1 p.2.2.1 p.2.2.2 hp
def KW.back4{α β γ δ:Type}{I:α->β->γ->δ->Prop}{S:α->β->γ->δ->BH}{W:α->β->γ->δ->Ad}{μ:α->β->γ->δ->Y}{j:α}{i:β}{h:γ}{g:δ}(f:α)(e:β)(d:γ)(a:δ)(o:Ei (S f e d a) σ)(m:w=W f e d a)(hi:I f e d a)(hm:μ f e d a<μ j i h g):
 KW P R (.asr (bZ n I S W μ j i h g)::k) n σ w:=
 KW.back (I:=fun p:α×β×γ×δ=>I p.1 p.2.1 p.2.2.1 p.2.2.2) (S:=fun p=>S p.1 p.2.1 p.2.2.1 p.2.2.2) (W:=fun p=>W p.1 p.2.1 p.2.2.1 p.2.2.2) (μ:=fun p=>μ p.1 p.2.1 p.2.2.1 p.2.2.2) (f,e,d,a) o m hi hm
end
def OW(P:AD)(R:AE->Ad->Prop)(ops:Ap AG)(l:Ae AG)(k:Ae KI)(n:Y)(σ:BH)(w:Ad):Prop:=∀a,Fr n σ a->wpList P ops (DP P R k) l a w
def BK(ops:Ap AG)(σ:BH):Aw (Y×Ar)->Aw Ar
 |none=>J Af
 |some (j,want)=>match (ops[j]?).bind (·.dst)with
  |some t=>match lk σ t with
   |some (.bool b)=>J (b==want)
   |some (.tuple _)=>J Aj
   |_=>Aa
  |none=>Aa
def IF{ops:Ap AG}{σ:BH}{n:Y}{a:AE}(f:Fr n σ a){o:AG}{b:Ar}(h:BK ops σ o.guard=J b):Region.wanted o (yielded ops a.tmps)=b:=by
 unfold Region.wanted;cases hg:o.guard with
 |none=>rw[hg]at h;simpa[BK]using h
 |some jw=>
  rw[hg]at h;simp[BK]at h;split at h
  .rename_i t e;split at h
   .rename_i u d;injection h with h;subst h;have:=f.val t _ d;simp only[yielded,e,Option.bind_some,this];rfl
   .rename_i u d;injection h with h;subst h;have:=f.val t _ d;simp only[yielded,e,Option.bind_some,this];rfl
   .cases h
  .cases h
section
variable{P:AD}{R:AE->Ad->Prop}{ops:Ap AG}{l rest:Ae AG}{k:Ae KI}{n:Y}{σ:BH}{w w':Ad}
def KW.region{id:Y}(h:OW P R l.toArray l k n σ w):KW P R (.code (.region id l.toArray Aj)::k) n σ w:=fun a d=>wp_region_lit (h a d)
def OW.nil(h:KW P R k n σ w):OW P R ops [] k n σ w:=h
def OW.as(t:Y)(g:Ah){v:Ah}(ht:lk σ t=J v)(e:v=g)(h:OW P R ops l k n ((t,g)::σ) w):OW P R ops l k n σ w:=fun a f=>
 h a ⟨f.size,fun i u d=>by
  rw[Pc]at d;by_cases j:t=i
  .subst j;simp at d;subst d;rw[<-e];exact f.val t _ ht
  .simp[j]at d;exact f.val i u d,f.df⟩
def KW.as(t:Y)(d:Ah){v:Ah}(ht:lk σ t=J v)(e:v=d)(h:KW P R k n ((t,d)::σ) w):KW P R k n σ w:=fun a f=>
 OW.as (P:=P) (R:=R) (ops:=#[]) (l:=[]) t d ht e h a f
def OW.split(t:Y){b:Ar}(ht:lk σ t=J (.bool b))(h1:b=Af->OW P R ops l k n ((t,.bool Af)::σ) w)(a:b=Aj->OW P R ops l k n ((t,.bool Aj)::σ) w):OW P R ops l k n σ w:=by
 cases b with
 |true=>exact OW.as t _ ht Z (h1 Z)
 |false=>exact OW.as t _ ht Z (a Z)
def qz(t:Y){p:Prop}[Decidable p](ht:lk σ t=J (.bool (decide p)))(h1:p->OW P R ops l k n ((t,.bool Af)::σ) w)(h2:¬p->OW P R ops l k n ((t,.bool Aj)::σ) w):OW P R ops l k n σ w:=
 OW.split t ht Bg Bg
def EX(P:AD)(n:Y)(σ:BH)(op:Op)(ty:Ay)(w:Ad)(v:Ah)(w':Ad):Prop:=
 ∀(a:AE),Fr n σ a->∀(dst:Aw Tmp) (pos:AJ) (after:Ap Edge) (g:Aw (Y×Ar)),(execOp a.eval ⟨dst,op,ty,pos,after,g⟩).run P w=.ok (.value v) w'
def EU(P:AD)(n:Y)(σ:BH)(op:Op)(ty:Ay)(w w':Ad):Prop:=
 ∀(a:AE),Fr n σ a->∀(dst:Aw Tmp) (pos:AJ) (after:Ap Edge) (g:Aw (Y×Ar)),(execOp a.eval ⟨dst,op,ty,pos,after,g⟩).run P w=.ok .skip w'
def EC(P:AD)(n:Y)(σ:BH)(op:Op)(ty:Ay)(w:Ad)(f:FuncId)(args:Ap Ah):Prop:=
 ∀(a:AE),Fr n σ a->∀(dst:Aw Tmp) (pos:AJ) (after:Ap Edge) (g:Aw (Y×Ar)),(execOp a.eval ⟨dst,op,ty,pos,after,g⟩).run P w=.ok (.enter f args) w
def OW.val{d:Y}{op:Op}{ty:Ay}{e:AJ}{after:Ap Edge}{g:Aw (Y×Ar)}{v:Ah}(i:BK ops σ g=J Af)(j:BL d n=Af)(he:EX P n σ op ty w v w')
 (h:OW P R ops rest k n ((d,v)::σ) w'):OW P R ops (⟨J d,op,ty,e,after,g⟩::rest) k n σ w:=fun a f=>by
 have m:=he a f (J d) e after g;unfold wpList;rw[Ai (IF f i)];refine .inl ?_;unfold Oper.wp;rw[m];exact h _ (f.put j v)
def RY{op:Op}{ty:Ay}{d:AJ}{after:Ap Edge}{g:Aw (Y×Ar)}(f:BK ops σ g=J Af)(he:EU P n σ op ty w w')
 (h:OW P R ops rest k n σ w'):OW P R ops (⟨Aa,op,ty,d,after,g⟩::rest) k n σ w:=fun a e=>by
 have i:=he a e Aa d after g;unfold wpList;rw[Ai (IF e f)];refine .inl ?_;unfold Oper.wp;rw[i];exact h _ e
def HM{d:Y}{op:Op}{ty:Ay}{e:AJ}{after:Ap Edge}{g:Aw (Y×Ar)}(i:BK ops σ g=J Aj)(j:BL d n=Af)
 (h:OW P R ops rest k n ((d,undef)::σ) w):OW P R ops (⟨J d,op,ty,e,after,g⟩::rest) k n σ w:=fun a f=>by
 unfold wpList;rw[Ag (by rw[IF f i];simp)];exact h _ (f.put j _)
def Bn(P:AD)(f:FuncId)(args:Bm)(w:Ad)(Q:Ah->Ad->Prop):Prop:=
 (∃fn,P.funcs[f]? =J fn/\(!(fn.name== "runtime.NumGoroutine") && fn.body.isSome)=Af)/\Calls P f args.toArray w fun e w'=>∃v,e=.returned v/\Q v w'
def Bn.mono{f:FuncId}{args:Bm}{Q Q':Ah->Ad->Prop}(h:Bn P f args w Q)(hq:∀v w',Q v w'->Q' v w'):Bn P f args w Q':=
 ⟨h.1,h.2.mono Bg⟩
def Rh {f:FuncId} {fn:Func} (hf:P.funcs[f]? =J fn) (a:(!(fn.name== "runtime.NumGoroutine") && fn.body.isSome)=Af) (args:Ap Ah):
 (callFunc f args).run P w=.ok (.enter f args) w:=by
 simp only[Bool.and_eq_true,Bool.not_eq_true',beq_eq_false_iff_ne]at a;have d:fn.body≠Aa:=by intro e;rw[e]at a;grind
 unfold callFunc;simp[Sem.run,hf,a.1,d]
def dB{d:Y}{op:Op}{ty:Ay}{i:AJ}{after:Ap Edge}{g:Aw (Y×Ar)}{f:FuncId}{args:Bm}{Q:Ah->Ad->Prop}(o:BK ops σ g=J Af)(p:BL d n=Af)
 (he:EC P n σ op ty w f args.toArray) (r:Bn P f args w Q) (h:∀v w',Q v w'->OW P R ops rest k n ((d,v)::σ) w'):OW P R ops (⟨J d,op,ty,i,after,g⟩::rest) k n σ w:=fun a j=>by
 have t:=he a j (J d) i after g;unfold wpList;rw[Ai (IF j o)];refine .inl ?_;unfold Oper.wp;rw[t];refine r.2.mono fun e m⟨v,he,q⟩=>?_;subst he;exact h v _ q _ (j.put p v)
def RD {f:FuncId} {xs:Ae AF} {vs:Bm} {d:Ap Ay} {ty:Ay} {fn:Func} (hf:P.funcs[f]? =J fn) (h:(!(fn.name== "runtime.NumGoroutine") && fn.body.isSome)=Af) (hx:evs σ xs=J vs):
 EC P n σ (.call { callee:=.value (.func f),args:=xs.toArray,argTypes:=d }) ty w f vs.toArray:=fun a i j e after g=>by
 rw[execOp_call_go];have:#[]++xs.toArray.map a.eval++#[]=vs.toArray:=by simp[i.evs hx]
 rw[this];exact Rh hf h _
def OW.call{d:Y}{f:FuncId}{xs:Ae AF}{e:Ap Ay}{ty:Ay}{a:AJ}{after:Ap Edge}{g:Aw (Y×Ar)}{vs:Bm}{Q:Ah->Ad->Prop}
 (j:BK ops σ g=J Af) (m:BL d n=Af) (hx:evs σ xs=J vs) (i:Bn P f vs w Q) (h:∀v w',Q v w'->OW P R ops rest k n ((d,v)::σ) w'):
 OW P R ops (⟨J d,.call { callee:=.value (.func f),args:=xs.toArray,argTypes:=e },ty,a,after,g⟩::rest) k n σ w:=by
 obtain⟨⟨fn,p,o⟩,_⟩:=id i;exact dB j m (RD p o hx) i h
end
def QW(P:AD)(R:AE->Ad->Prop)(ops:Ap AG)(l:Ae AG)(k:Ae KI)(n:Y)(σ:BH)(w:Ad):Prop:=∀a,Fr n σ a->
 wpQuiet P ops (fun w'=>∃m,w'=w.drewN m) (fun a'=>∀w',(∃m,w'=w.drewN m)->DP P R k .normal a' w') l a
section
variable{P:AD}{R:AE->Ad->Prop}{ops:Ap AG}{l rest:Ae AG}{k:Ae KI}{n:Y}{σ:BH}{w:Ad}
def Wy{id:Y}(hm:P.follows .mixedOrders=Af)(e:Region.lexB .any l.toArray=Af)(h:QW P R l.toArray l k n σ w):KW P R (.code (.region id l.toArray Af)::k) n σ w:=fun a d=>
 wp_region_quiet_lit hm e (h a d)
def QW.nil(h:∀m,KW P R k n σ (w.drewN m)):QW P R ops [] k n σ w:=fun a d=>wpQuiet_nil (by rintro w'⟨m,rfl⟩;exact h m a d)
def QW.val{d:Y}{op:Op}{ty:Ay}{e:AJ}{after:Ap Edge}{g:Aw (Y×Ar)}{v:Ah}(i:BK ops σ g=J Af)(j:BL d n=Af)(he:∀m,EX P n σ op ty (w.drewN m) v (w.drewN m))
 (h:QW P R ops rest k n ((d,v)::σ) w):QW P R ops (⟨J d,op,ty,e,after,g⟩::rest) k n σ w:=fun a f=>by
 unfold wpQuiet;rw[Ai (IF f i)];refine⟨v,?_,h _ (f.put j v)⟩;rintro w'⟨m,rfl⟩;unfold Oper.quietAt;rw[he m a f _ _ _ g];exact⟨Z,Z⟩
def qC{d:Y}{op:Op}{ty:Ay}{e:AJ}{after:Ap Edge}{g:Aw (Y×Ar)}(i:BK ops σ g=J Aj)(j:BL d n=Af)
 (h:QW P R ops rest k n ((d,undef)::σ) w):QW P R ops (⟨J d,op,ty,e,after,g⟩::rest) k n σ w:=fun a f=>by
 unfold wpQuiet;rw[Ag (by rw[IF f i];simp)];exact h _ (f.put j _)
def QW.as(t:Y)(g:Ah){v:Ah}(ht:lk σ t=J v)(e:v=g)(h:QW P R ops l k n ((t,g)::σ) w):QW P R ops l k n σ w:=fun a f=>
 h a ⟨f.size,fun i u d=>by
  rw[Pc]at d;by_cases j:t=i
  .subst j;simp at d;subst d;rw[<-e];exact f.val t _ ht
  .simp[j]at d;exact f.val i u d,f.df⟩
def qD(t:Y){p:Prop}[Decidable p](ht:lk σ t=J (.bool (decide p)))(h1:p->QW P R ops l k n ((t,.bool Af)::σ) w)(d:¬p->QW P R ops l k n ((t,.bool Aj)::σ) w):QW P R ops l k n σ w:=by
 by_cases a:p
 .exact QW.as t _ ht Bg (h1 a)
 .exact QW.as t _ ht Bg (d a)
def Xb(P:AD)(f:FuncId)(args:Bm)(w:Ad)(v:Ah):Prop:=Bn P f args w fun v' w'=>v'=v/\∃m,w'=w.drewN m
def QW.call{d:Y}{f:FuncId}{xs:Ae AF}{p:Ap Ay}{ty:Ay}{i:AJ}{after:Ap Edge}{g:Aw (Y×Ar)}{vs:Bm}{v:Ah}
 (t:BK ops σ g=J Af) (x:BL d n=Af) (hx:evs σ xs=J vs) (y:∀m,Xb P f vs (w.drewN m) v) (h:QW P R ops rest k n ((d,v)::σ) w):
 QW P R ops (⟨J d,.call { callee:=.value (.func f),args:=xs.toArray,argTypes:=p },ty,i,after,g⟩::rest) k n σ w:=fun a o=>by
 unfold wpQuiet;rw[Ai (IF o t)];refine⟨v,?_,h _ (o.put x v)⟩;rintro w'⟨m,rfl⟩;unfold Oper.quietAt;obtain⟨⟨fn,B,A⟩,j⟩:=y m;rw[RD B A hx a o _ _ _ g];refine⟨Z,j.mono ?_⟩;rintro e q⟨C,rfl,rfl,r,rfl⟩;exact⟨Z,m+r,Bi⟩
end
def HW(P:AD)(R:AE->Ad->Prop)(ops:Ap AG)(l:Ae AG)(N:Y)(k:Ae KI)(n:Y)(σ:BH)(w:Ad):Prop:=∀a,Fr n σ a->
 wpStill P ops w (fun a'=>wpList P ops (DP P R k) (l.drop N) a' w) (l.take N) a
section
variable{P:AD}{R:AE->Ad->Prop}{ops:Ap AG}{l rest:Ae AG}{N:Y}{k:Ae KI}{n:Y}{σ:BH}{w:Ad}
def Kg{id:Y}(N:Y)(hm:P.follows .mixedOrders=Af)(e:Region.lexTailB .any l.toArray N=Af)(h:HW P R l.toArray l N k n σ w.drew):KW P R (.code (.region id l.toArray Af)::k) n σ w:=fun a d=>
 wp_region_still_tail N hm e (h a d)
def HW.tail(h:OW P R ops l k n σ w):HW P R ops l 0 k n σ w:=Ce
def HW.val{d:Y}{op:Op}{ty:Ay}{e:AJ}{after:Ap Edge}{g:Aw (Y×Ar)}{v:Ah}(i:BK ops σ g=J Af)(j:BL d n=Af)(he:EX P n σ op ty w v w)
 (h:HW P R ops rest N k n ((d,v)::σ) w):HW P R ops (⟨J d,op,ty,e,after,g⟩::rest) (N+1) k n σ w:=fun a f=>by
 show wpStill P _ w _ (_::rest.take N) a;unfold wpStill;rw[Ai (IF f i)];unfold Oper.still;rw[he a f _ _ _ g];exact⟨Z,h _ (f.put j v)⟩
end
def Ln:Y->Bm->BH
 |_,[]=>[]
 |i,v::r=>(i,v)::Ln (i+1) r
def dQ:∀(l:Bm) (i t:Y) (v:Ah),lk (Ln i l) t=J v->i<=t/\l[t-i]? =J v
 |[],_,_,_,h=>by simp[Ln,lk]at h
 |u::r,i,t,v,h=>by
  simp[Ln]at h;rw[Pc]at h;by_cases e:i=t
  .grind
  .simp[e]at h;obtain⟨h1,h2⟩:=dQ r (i+1) t v h;grind
def Fr.start(args:Bm)(m:Y):Fr (Ajb args+m) (Ln 0 args) { tmps:=args.toArray++JX m undef,defers:=[] }:=
 ⟨Bi,fun t v h=>by
  obtain⟨_,h2⟩:=dQ args 0 t v h;grind,Z⟩
def Bw{P:AD}{f:FuncId}{fn:Func}{c:AM}{args:Bm}{w:Ad}{Q:Ah->Ad->Prop}{n:Y}(hf:P.funcs[f]? =J fn)(i:fn.body=J c)(d:fn.ntmps=n)
 (m:(!(fn.name== "runtime.NumGoroutine") && fn.body.isSome)=Af) (hl:Ajb args+(n-Ajb args)=n)
 (h:KW P (fun a w'=>bodyPost P fn (fun e w'=>∃v,e=.returned v/\Q v w') .ret a w') [.code c] n (Ln 0 args) w):Bn P f args w Q:=by
 refine⟨Bg,calls_of_wp hf i ?_⟩
 have g:Fr n (Ln 0 args) { tmps:=args.toArray++JX (fn.ntmps-args.toArray.size) undef,defers:=[] }:=by
  have:=Fr.start args (n-Ajb args);rw[hl]at this;simpa[d]using this
 have j:=h _ g;refine Code.wp_mono (fun e o w' q=>?_) j;cases e with
 |normal=>exact q
 |ret=>exact q
 |_=>exact q.elim
section
variable{P:AD}{fn:Func}{Q:Ah->Ad->Prop}{n:Y}{σ:BH}{w:Ad}{k:Ae KI}
def ME{v:Ah}(hr:∀a,Fr n σ a->(results fn a.tmps).run P w=.ok v w)(hq:Q v w):∀a,Fr n σ a->bodyPost P fn (fun e w'=>∃v,e=.returned v/\Q v w') .ret a w:=
 fun a ha=>⟨ha.df,v,hr a ha,v,Z,hq⟩
def ret1{t:Y}{v:Ah}(hs:fn.results=#[.tmp t])(hv:lk σ t=J v)(hq:Q v w):∀a,Fr n σ a->bodyPost P fn (fun e w'=>∃v,e=.returned v/\Q v w') .ret a w:=
 ME (fun a ha=>by rw[results_tmp hs];simp[ha.val t v hv]) hq
def HX(hs:fn.results=#[])(hq:Q (.tuple #[]) w):∀a,Fr n σ a->bodyPost P fn (fun e w'=>∃v,e=.returned v/\Q v w') .ret a w:=
 ME (fun _ _=>results_none hs _ _ _) hq
def ret2{t u:Y}{v x:Ah}(hs:fn.results=#[.tmp t,.tmp u])(hv:lk σ t=J v)(hx:lk σ u=J x)(hq:Q (.tuple #[v,x]) w):∀a,Fr n σ a->bodyPost P fn (fun e w'=>∃v,e=.returned v/\Q v w') .ret a w:=
 ME (fun a ha=>by rw[results_tmp2 hs];simp[ha.val t v hv,ha.val u x hx]) hq
def ret3{t u s:Y}{v x y:Ah}(hs:fn.results=#[.tmp t,.tmp u,.tmp s])(hv:lk σ t=J v)(hx:lk σ u=J x)(hy:lk σ s=J y)(hq:Q (.tuple #[v,x,y]) w):
 ∀a,Fr n σ a->bodyPost P fn (fun e w'=>∃v,e=.returned v/\Q v w') .ret a w:=
 ME (fun a ha=>by rw[results_tmp3 hs];simp[ha.val t v hv,ha.val u x hx,ha.val s y hy]) hq
end
end
section
def maxN:AK->Y
 |.i8=>127|.i16=>32767|.i32=>2147483647|.i64=>9223372036854775807
 |.u8=>255|.u16=>65535|.u32=>4294967295|.u64=>18446744073709551615
def QO:AK->Y
 |.u8=>256|.u16=>65536|.u32=>4294967296|.u64=>18446744073709551616|_=>0
def LO{k:AK}{m a:Y}(hm:maxN k=m)(h:a<=m):k.wrap (a:H)=a:=by
 subst hm
 cases k<;>simp[maxN]at h<;>first
  |exact IntWalk.i8_in _ X|exact IntWalk.i16_in _ X|exact IntWalk.i32_in _ X|exact IntWalk.i64_in _ X
  |exact IntWalk.u8_in _ X|exact IntWalk.u16_in _ X|exact IntWalk.u32_in _ X|exact IntWalk.u64_in _ X
def oQ{k:AK}{m a:Y}(hm:QO k=m)(e:0<m):k.wrap (a:H)=((a%m:Y):H):=by
 subst hm;cases k<;>simp[QO]at e<;>simp[QO,IntKind.wrap,IntKind.bits,IntKind.signed]
def bM{k:AK}{m:Y}{a:H}(e:k.signed=Af)(hm:maxN k=m)(h:-((m:H)+1)<=a/\a<=m):k.wrap a=a:=by
 subst hm
 cases k<;>simp[IntKind.signed]at e<;>simp only[maxN]at h<;>first
  |exact IntWalk.i8_in _ X|exact IntWalk.i16_in _ X|exact IntWalk.i32_in _ X|exact IntWalk.i64_in _ X
def kf(k:AK):maxN k<2 ^ k.bits:=by cases k<;>decide
abbrev Bl(l:Bh):Ah:=.string ⟨⟨l⟩⟩
section
variable{P:AD}{n:Y}{σ:BH}{w:Ad}{t t':Ay}{ty:Ay}{x y:AF}{k:AK}{a b m:Y}{c d:H}
def EX.move{v:Ah}(hx:ev σ x=J v):EX P n σ (.move x) ty w v w:=fun a f h e after g=>by
 simp only[execOp,f.ev hx];rfl
def CI{v:Ah}(hx:ev σ x=J v):EX P n σ (.assign x) ty w v w:=fun a f h e after g=>by
 simp only[execOp,f.ev hx];rfl
def Oi{z:AF}{v:Ah}(hx:ev σ x=J (.bool Af))(h:ev σ y=J v):EX P n σ (.pick x y z) ty w v w:=fun a e l f after g=>by
 simp only[execOp,e.ev hx,e.ev h];rfl
def Jq{z:AF}{v:Ah}(hx:ev σ x=J (.bool Aj))(h:ev σ z=J v):EX P n σ (.pick x y z) ty w v w:=fun a e l f after g=>by
 simp only[execOp,e.ev hx,e.ev h];rfl
def FY{op:BinOp}{u v r:Ah}(hx:ev σ x=J u)(h:ev σ y=J v)(o:(eqGuard op t x y u v).run P w=.ok () w)(l:(binOp op t u v).run P w=.ok r w):EX P n σ (.binOp op t x y t') ty w r w:=fun a e p f after g=>by
 simp only[execOp,e.ev hx,e.ev h,Sem.run_bind,o,l,Result.andThen_ok];rfl
def uX(op:BinOp)(i j:H):(eqGuard op t x y (.int k i) (.int k j)).run P w=.ok () w:=by
 unfold eqGuard;simp
def uW(op:BinOp)(i j:Ar):(eqGuard op t x y (.bool i) (.bool j)).run P w=.ok () w:=by
 unfold eqGuard;simp
def YO(op:BinOp)(i j:ByteArray):(eqGuard op t x y (.string i) (.string j)).run P w=.ok () w:=by
 unfold eqGuard;simp
def EV{op:BinOp}{i j:H}{r:Ah}(hx:ev σ x=J (.int k i))(hy:ev σ y=J (.int k j))(hr:(binOp op t (.int k i) (.int k j)).run P w=.ok r w):EX P n σ (.binOp op t x y t') ty w r w:=
 FY hx hy (uX op i j) hr
def JY(hx:ev σ x=J (.int k (a:H)))(hy:ev σ y=J (.int k (b:H)))(hm:maxN k=m)(h:a+b<=m):EX P n σ (.binOp .add t x y t') ty w (.int k ((a+b:Y):H)) w:=
 EV hx hy (by
  have:=LO hm h;simp at this ⊢;simp[binOp,Op.intArith,this])
def Kc(hx:ev σ x=J (.int k (a:H)))(hy:ev σ y=J (.int k (b:H)))(hm:maxN k=m)(h:b<=a/\a<=m):EX P n σ (.binOp .sub t x y t') ty w (.int k ((a-b:Y):H)) w:=
 EV hx hy (by
  have:=LO hm (show a-b<=m by omega);rw[Int.natCast_sub h.1]at this ⊢;simp[binOp,Op.intArith,this])
def Wl(hx:ev σ x=J (.int k (a:H)))(hy:ev σ y=J (.int k (b:H)))(hm:maxN k=m)(h:a*b<=m):EX P n σ (.binOp .mul t x y t') ty w (.int k ((a*b:Y):H)) w:=
 EV hx hy (by
  have:=LO hm h;simp at this ⊢;simp[binOp,Op.intArith,this])
def cP(hx:ev σ x=J (.int k (a:H)))(hy:ev σ y=J (.int k (b:H)))(hm:maxN k=m)(h:0<b/\a<=m):EX P n σ (.binOp .quo t x y t') ty w (.int k ((a/b:Y):H)) w:=
 EV hx hy (by
  have hle:a/b<=a:=Ox _ _;have:=LO hm (show a/b<=m by omega);have hb:¬(b:H)=0:=X;have hq:(a:H).tdiv b=((a/b:Y)):=rfl;unfold binOp;simp only[ne_eq,not_true_eq_false,if_false,Op.intDiv,Ag hb,hq,this];rfl)
def cQ(hx:ev σ x=J (.int k (a:H)))(hy:ev σ y=J (.int k (b:H)))(h:0<b):EX P n σ (.binOp .rem t x y t') ty w (.int k ((a%b:Y):H)) w:=
 EV hx hy (by
  have hb:¬(b:H)=0:=X;have hq:(a:H).tmod b=((a%b:Y)):=rfl;unfold binOp;simp only[ne_eq,not_true_eq_false,if_false,Op.intDiv,Ag hb,hq];rfl)
def kV{k:AK}{a:Y}(h:a<=maxN k):(BitVec.ofInt k.bits (a:H)).toNat=a:=by
 rw[BitVec.ofInt_natCast,BitVec.toNat_ofNat];exact Jz (WS h (kf k))
def QP{k:AK}{a:Y}(h:a<=maxN k):a%2 ^ k.bits=a:=Jz (WS h (kf k))
def dZ(k:AK):∃j,maxN k+1=2 ^ j:=by cases k<;>first|exact⟨7,Z⟩|exact⟨15,Z⟩|exact⟨31,Z⟩|exact⟨63,Z⟩|exact⟨8,Z⟩|exact⟨16,Z⟩|exact⟨32,Z⟩|exact⟨64,Z⟩
def Wj(hx:ev σ x=J (.int k (a:H)))(hy:ev σ y=J (.int k (b:H)))(hm:maxN k=m)(h:a<=m/\b<=m):EX P n σ (.binOp .and t x y t') ty w (.int k ((a &&& b:Y):H)) w:=
 EV hx hy (by
  subst hm;have hle:a &&& b<=a:=Nat.and_le_left;have:=LO Z (show a &&& b<=maxN k by omega);simp[binOp,Op.intBits,QP h.1,QP h.2,this])
def Oh(hx:ev σ x=J (.int k (a:H)))(hy:ev σ y=J (.int k (b:H)))(hm:maxN k=m)(h:a<=m/\b<=m):EX P n σ (.binOp .or t x y t') ty w (.int k ((a|||b:Y):H)) w:=
 EV hx hy (by
  subst hm;obtain⟨j,hj⟩:=dZ k;have hlt:a|||b<2 ^ j:=LZ X X
  have:=LO Z (show a|||b<=maxN k by omega);simp[binOp,Op.intBits,QP h.1,QP h.2,this])
def Jr(hx:ev σ x=J (.int k (a:H)))(hy:ev σ y=J (.int k (b:H)))(hm:maxN k=m)(h:a<=m/\b<=m):EX P n σ (.binOp .xor t x y t') ty w (.int k ((a ^^^ b:Y):H)) w:=
 EV hx hy (by
  subst hm;obtain⟨j,hj⟩:=dZ k;have hlt:a ^^^ b<2 ^ j:=OA X X;have:=LO Z (show a ^^^ b<=maxN k by omega);simp[binOp,Op.intBits,QP h.1,QP h.2,this])
def MU{j p:Y}(hx:ev σ x=J (.int k (a:H)))(e:ev σ y=J (.int k (b:H)))(f:2 ^ j=p)(g:b+1=p)(hm:maxN k=m)(h:a<=m/\b<=m):EX P n σ (.binOp .and t x y t') ty w (.int k ((a%p:Y):H)) w:=by
 have l:=Wj (P:=P) (n:=n) (w:=w) (t:=t) (t':=t') (ty:=ty) hx e hm h
 have:a &&& b=a%p:=by
  rw[show b=p-1 by omega,<-f];simp
 grind
def Ho{s p:Y}{k':AK}(hx:ev σ x=J (.int k (a:H)))(hy:ev σ y=J (.int k' (s:H)))(hp:2 ^ s=p)(hs:s<=k.bits)(hm:maxN k=m)(h:a*p<=m):
 EX P n σ (.binOp .shl t x y t') ty w (.int k ((a*p:Y):H)) w:=
 FY hx hy (by rfl) (by
  subst hp;have:=LO hm h;have hn:¬(s:H)<0:=X;simp at this ⊢;simp[binOp,Op.shift,hn,Hb hs,this])
def IH{s p:Y}{k':AK}(hx:ev σ x=J (.int k (a:H)))(hy:ev σ y=J (.int k' (s:H)))(hp:2 ^ s=p)(hs:s<=k.bits)(hm:QO k=m)(h:0<m):
 EX P n σ (.binOp .shl t x y t') ty w (.int k (((a*p)%m:Y):H)) w:=
 FY hx hy (by rfl) (by
  subst hp;have:=oQ (a:=a*2 ^ s) hm h;have hn:¬(s:H)<0:=X;rw[<-this];simp[binOp,Op.shift,hn,Hb hs])
def II{s p:Y}{k':AK}(hx:ev σ x=J (.int k (a:H)))(e:ev σ y=J (.int k' (s:H)))(g:2 ^ s=p)(f:s<=k.bits):
 EX P n σ (.binOp .shr t x y t') ty w (.int k ((a/p:Y):H)) w:=
 FY hx e (by rfl) (by
  subst g;have hn:¬(s:H)<0:=X
  have hf:(a:H).fdiv (2 ^ s)=((a/2 ^ s:Y)):=by
   rw[Int.fdiv_eq_ediv_of_nonneg _ Bg];simp
  simp[binOp,Op.shift,hn,Hb f,hf])
def JT{op:BinOp}{i j:H}{q:Ar}(h:(Op.intCmp op i j).run P w=.ok (.bool q) w)(e:(match op with|.eql|.neq|.lss|.leq|.gtr|.geq=>Af|_=>Aj)=Af):(binOp op t (.int k i) (.int k j)).run P w=.ok (.bool q) w:=by
 cases op<;>simp at e<;>simpa[binOp]using h
def Of(hx:ev σ x=J (.int k (a:H)))(hy:ev σ y=J (.int k (b:H))):EX P n σ (.binOp .lss t x y t') ty w (.bool (decide (a<b))) w:=
 EV hx hy (JT (by simp[Op.intCmp]) Z)
def cF(hx:ev σ x=J (.int k (a:H)))(hy:ev σ y=J (.int k (b:H))):EX P n σ (.binOp .leq t x y t') ty w (.bool (decide (a<=b))) w:=
 EV hx hy (JT (by simp[Op.intCmp]) Z)
def Od(hx:ev σ x=J (.int k (a:H)))(hy:ev σ y=J (.int k (b:H))):EX P n σ (.binOp .gtr t x y t') ty w (.bool (decide (b<a))) w:=
 EV hx hy (JT (by simp[Op.intCmp]) Z)
def pd(hx:ev σ x=J (.int k (a:H)))(hy:ev σ y=J (.int k (b:H))):EX P n σ (.binOp .geq t x y t') ty w (.bool (decide (b<=a))) w:=
 EV hx hy (JT (by simp[Op.intCmp]) Z)
def Ob(hx:ev σ x=J (.int k (a:H)))(e:ev σ y=J (.int k (b:H))):EX P n σ (.binOp .eql t x y t') ty w (.bool (decide (a=b))) w:=
 EV hx e (JT (by
  have:(a==(b:H))=decide (a=b):=by rw[RA];simp;omega
  simp only[Op.intCmp,this];rfl) Z)
def cL(hx:ev σ x=J (.int k (a:H)))(e:ev σ y=J (.int k (b:H))):EX P n σ (.binOp .neq t x y t') ty w (.bool (decide (a≠b))) w:=
 EV hx e (JT (by
  have:(a !=(b:H))=decide (a≠b):=by rw[RA];simp;omega
  simp only[Op.intCmp,this];rfl) Z)
def Og(hx:ev σ x=J (.int k c))(hy:ev σ y=J (.int k d)):EX P n σ (.binOp .lss t x y t') ty w (.bool (decide (c<d))) w:=
 EV hx hy (JT (by rfl) Z)
def cG(hx:ev σ x=J (.int k c))(hy:ev σ y=J (.int k d)):EX P n σ (.binOp .leq t x y t') ty w (.bool (decide (c<=d))) w:=
 EV hx hy (JT (by rfl) Z)
def Oe(hx:ev σ x=J (.int k c))(hy:ev σ y=J (.int k d)):EX P n σ (.binOp .gtr t x y t') ty w (.bool (decide (d<c))) w:=
 EV hx hy (JT (by rfl) Z)
def pf(hx:ev σ x=J (.int k c))(hy:ev σ y=J (.int k d)):EX P n σ (.binOp .geq t x y t') ty w (.bool (decide (d<=c))) w:=
 EV hx hy (JT (by rfl) Z)
def Oc(hx:ev σ x=J (.int k c))(hy:ev σ y=J (.int k d)):EX P n σ (.binOp .eql t x y t') ty w (.bool (decide (c=d))) w:=
 EV hx hy (JT (by rfl) Z)
def cM(hx:ev σ x=J (.int k c))(hy:ev σ y=J (.int k d)):EX P n σ (.binOp .neq t x y t') ty w (.bool (decide (c≠d))) w:=
 EV hx hy (JT (by simp[Op.intCmp,bne,BEq.beq]) Z)
def Ka(hx:ev σ x=J (.int k c))(hy:ev σ y=J (.int k d))(hs:k.signed=Af)(hm:maxN k=m)(h:-((m:H)+1)<=c+d/\c+d<=m):EX P n σ (.binOp .add t x y t') ty w (.int k (c+d)) w:=
 EV hx hy (by simp[binOp,Op.intArith,bM hs hm h])
def RG(hx:ev σ x=J (.int k c))(hy:ev σ y=J (.int k d))(hs:k.signed=Af)(hm:maxN k=m)(h:-((m:H)+1)<=c-d/\c-d<=m):EX P n σ (.binOp .sub t x y t') ty w (.int k (c-d)) w:=
 EV hx hy (by simp[binOp,Op.intArith,bM hs hm h])
def cN(hx:ev σ x=J (.int k (a:H)))(f:k.signed=Aj)(hm:maxN k=m)(h:a<=m):EX P n σ (.unOp .xor t x) ty w (.int k ((m-a:Y):H)) w:=fun A o q l after g=>by
 subst hm
 have p:(BitVec.ofInt _ k.max ^^^ BitVec.ofInt k.bits a).toNat=maxN k-a:=by
  have e:BitVec.ofInt k.bits k.max=BitVec.allOnes _:=by cases k<;>first|rfl|simp[IntKind.signed]at f
  rw[e,BitVec.allOnes_xor,BitVec.toNat_not,kV h];have:maxN k+1=2 ^ k.bits:=by cases k<;>first|rfl|simp[IntKind.signed]at f
  omega
 have:=LO Z (show maxN k-a<=maxN k by omega);simp only[execOp,o.ev hx];simp only[Op.unary,Op.intBits,f,Wi,if_false,p,this];rfl
def LP{s e:Ay}{k':AK}{dd:TypeDesc}(l:P.underlying s=J dd)(hv:P.underlying e=J (.int k))(hx:ev σ x=J (.int k' (a:H)))(hm:maxN k=m)(h:a<=m):EX P n σ (.convert s e x) ty w (.int k (a:H)) w:=fun A o p f after g=>by
 have:=LO hm h;simp only[execOp,o.ev hx];simp[convert,run_underlying l,run_underlying hv,Sem.run_bind,Conv.intToInt,this]
def MR{s e:Ay}{k':AK}{dd:TypeDesc}(l:P.underlying s=J dd)(hv:P.underlying e=J (.int k))(hx:ev σ x=J (.int k' (a:H)))(hm:QO k=m)(h:0<m):EX P n σ (.convert s e x) ty w (.int k ((a%m:Y):H)) w:=fun A o p f after g=>by
 have:=oQ (a:=a) hm h;simp only[execOp,o.ev hx];simp[convert,run_underlying l,run_underlying hv,Sem.run_bind,Conv.intToInt,this]
def EX.extract{i:Y}{vs:Ap Ah}{v:Ah}(hx:ev σ x=J (.tuple vs))(hi:vs[i]? =J v):EX P n σ (.extract x i) ty w v w:=fun A f h e after g=>by
 simp only[execOp,f.ev hx];simp[Instr.extract,hi]
def Tz{p:Ar}(hx:ev σ x=J (.bool p)):EX P n σ (.unOp .not t x) ty w (.bool !p) w:=fun A f h e after g=>by
 simp only[execOp,f.ev hx];rfl
end
section
variable{P:AD}{n:Y}{σ:BH}{w:Ad}{t t':Ay}{ty:Ay}{x y:AF}{s r:Bh}
def MT(ht:P.underlying t=J .string)(hx:ev σ x=J (Bl s)):EX P n σ (.call { callee:=.builtin .len,args:=#[x],argTypes:=#[t] }) ty w (.int .i64 (Ajb s:H)) w:=fun A f h e after g=>by
 simp[execOp,resolve,invoke,builtin,Sem.run_bind,Sem.run_pure,Result.andThen_ok,GC,Co,Ep,f.ev hx];simp[Builtin.len_,run_underlying ht,goInt];rfl
def PS{e:Ay}{A:Aw AC}{l c:Y}(ht:P.underlying t=J (.slice e))(hx:ev σ x=J (.slice A l c)):EX P n σ (.call { callee:=.builtin .len,args:=#[x],argTypes:=#[t] }) ty w (.int .i64 (l:H)) w:=fun A h o f after g=>by
 simp[execOp,resolve,invoke,builtin,Sem.run_bind,Sem.run_pure,Result.andThen_ok,GC,Co,Ep,h.ev hx];simp[Builtin.len_,run_underlying ht,goInt]
def EW{i:Y}{k:AK}{c:AH}(ht:P.underlying t=J .string)(hx:ev σ x=J (Bl s))(o:ev σ y=J (.int k (i:H)))(hi:s[i]? =J c):EX P n σ (.index t x y) ty w (.int .u8 (c.toNat:H)) w:=fun A h B l after g=>by
 obtain⟨f,p⟩:=Ki.1 hi
 have v:(⟨⟨s⟩⟩:ByteArray)[i]? =J c:=by
  have e:=f;have q:(⟨_⟩:ByteArray)[i]=c:=p;rw[getElem?_pos _ i e,q]
 simp only[execOp,h.ev hx,h.ev o];simp[Instr.index,asIntOf,run_underlying ht,v]
def HC(hx:ev σ x=J (Bl s))(e:ev σ y=J (Bl r)):EX P n σ (.binOp .eql t x y t') ty w (.bool (decide (s=r))) w:=
 FY hx e (YO _ _ _) (by
  have:(RC ⟨⟨s⟩⟩==RC ⟨⟨r⟩⟩)=decide (s=r):=by
   rw[RA];simp
  simp only[binOp,Op.stringOp,this];rfl)
def MV(hx:ev σ x=J (Bl s))(e:ev σ y=J (Bl r)):EX P n σ (.binOp .neq t x y t') ty w (.bool (decide (s≠r))) w:=
 FY hx e (YO _ _ _) (by
  have:(!(RC ⟨⟨s⟩⟩==RC ⟨⟨r⟩⟩))=decide (s≠r):=by
   rw[RA];simp
  simp only[binOp,Op.stringOp,this];rfl)
def JZ(hx:ev σ x=J (Bl s))(e:ev σ y=J (Bl r))(h:Ajb s+Ajb r<=9223372036854775807):EX P n σ (.binOp .add t x y t') ty w (Bl (s++r)) w:=
 FY hx e (YO _ _ _) (by
  have h0:¬(((PO ⟨⟨s⟩⟩+PO ⟨⟨r⟩⟩:Y))>IntKind.i64.max):=by
   show ¬(((Ajb s+Ajb r):H)>9223372036854775807);omega
  have f:((⟨⟨s⟩⟩:ByteArray)++⟨⟨r⟩⟩)=⟨⟨s++r⟩⟩:=by
   apply ByteArray.ext;simp
  unfold binOp;simp only[Op.stringOp,Ag h0,f];rfl)
def Abq{p q:Ar}(e:P.underlying t=J .bool):(Op.equal t (.bool p) (.bool q)).run P w=.ok (p==q) w:=by
 have h:∀d:Y,(Op.equalIn (d+1) t (.bool p) (.bool q)).run P w=.ok (p==q) w:=fun d=>by
  simp[Op.equalIn,run_underlying e,Sem.run_bind]
 exact h 9999
def pt{p q:Ar}(hu:P.underlying t=J .bool)(hx:ev σ x=J (.bool p))(hy:ev σ y=J (.bool q)):EX P n σ (.binOp .neq t x y t') ty w (.bool !(p==q)) w:=
 FY hx hy (uW _ _ _) (by
  unfold binOp;simp only[Sem.run_bind,Abq hu,Result.andThen_ok];rfl)
def TA{p:Prop}[Decidable p](hx:ev σ x=J (.bool (decide p))):EX P n σ (.unOp .not t x) ty w (.bool (decide (¬p))) w:=fun A f h e after g=>by
 simp only[execOp,f.ev hx,decide_not];rfl
def Yh(s:Bh)(i j:Y):(⟨⟨s⟩⟩:ByteArray).extract i j=⟨⟨(s.drop i).take (j-i)⟩⟩:=by
 apply ByteArray.ext;simp
def Td{k:AK}{i:Y}(y:Y)(c:BoundsCode)(h:i<=y):(Instr.sliceBound (.int k (i:H)) y c).run P w=.ok i w:=by
 simp[Instr.sliceBound,asIntOf,h]
section
variable{k k':AK}{i j:Y}{lo hi:AF}
def Ol(ht:P.underlying t=J .string)(hx:ev σ x=J (Bl s))(hl:ev σ lo=J (.int k (i:H)))(o:ev σ hi=J (.int k' (j:H)))(h:i<=j/\j<=Ajb s):
 EX P n σ (.slice t x (J lo) (J hi) Aa) ty w (Bl ((s.drop i).take (j-i))) w:=fun A e p f after g=>by
 have l:j<=PO ⟨_⟩:=h.2;simp only[execOp,e.ev hx,e.ev hl,e.ev o,FP,Nj];simp[Instr.sliceAt,run_underlying ht,Instr.slice,Instr.sliceBounds,Sem.run_bind,Td _ _ l,Td _ _ h.1,Yh]
def MW(ht:P.underlying t=J .string)(hx:ev σ x=J (Bl s))(hl:ev σ lo=J (.int k (i:H)))(h:i<=Ajb s):
 EX P n σ (.slice t x (J lo) Aa Aa) ty w (Bl (s.drop i)) w:=fun A f p l after g=>by
 have o:i<=PO ⟨_⟩:=h;have e:(s.drop i).take (PO ⟨⟨s⟩⟩-i)=s.drop i:=Dq (by rw[CM];exact Bv _);simp only[execOp,f.ev hx,f.ev hl,FP,Nj];simp[Instr.sliceAt,run_underlying ht,Instr.slice,Instr.sliceBounds,Sem.run_bind,Td _ _ o,Yh,e]
def Kb(ht:P.underlying t=J .string)(hx:ev σ x=J (Bl s))(o:ev σ hi=J (.int k' (j:H)))(h:j<=Ajb s):
 EX P n σ (.slice t x Aa (J hi) Aa) ty w (Bl (s.take j)) w:=fun A e p f after g=>by
 have l:j<=PO ⟨_⟩:=h;simp only[execOp,e.ev hx,e.ev o,FP,Nj];simp[Instr.sliceAt,run_underlying ht,Instr.slice,Instr.sliceBounds,Sem.run_bind,Td _ _ l,Yh]
end
def pm{k:AK}{a b:Y}{e:Ap Ay}(hx:ev σ x=J (.int k (a:H)))(l:ev σ y=J (.int k (b:H))):EX P n σ (.call { callee:=.builtin .min,args:=#[x,y],argTypes:=e }) ty w (.int k ((min a b:Y):H)) w:=fun A f o h after g=>by
 simp[execOp,resolve,invoke,builtin,Sem.run_bind,Sem.run_pure,Result.andThen_ok,GC,Co,Ep,f.ev hx,f.ev l];have:(if(b:H)<a then(b:H)else a)=((min a b:Y)):=by split<;>omega
 simp only[Builtin.min_,Builtin.min2,List.foldlM,Sem.run_bind,Sem.run_pure,Result.andThen_ok,this]
end
def Bk(w:Ad)(b:Y)(T:Ay)(l:Bm):Prop:=∃fr:Y×Y,w.heap[b]? =J (.cells l.toArray T fr)/\(Ajb l<=fr.1∨fr.2<=fr.1)
abbrev Bf(w w':Ad):Prop:=Below w.heap.size w w'
section
variable{w w':Ad}{b:Y}{T:Ay}{l:Bm}
def Bk.lt(h:Bk w b T l):b<w.heap.size:=by
 obtain⟨a,h,_⟩:=h;grind
def Bk.cell(h:Bk w b T l)(i:Y):w.cell? ⟨b,i,Aa⟩=l[i]?:=by
 obtain⟨a,h,_⟩:=h;simp[World.cell?,h]
def Bk.cell_of(h:Bk w b T l){i:Y}{v:Ah}(hi:l[i]? =J v):w.cell? ⟨b,i,Aa⟩=J v:=(h.cell i).trans hi
def Bk.free(h:Bk w b T l)(i:Y)(hi:i<Ajb l):w.frozen? ⟨b,i,Aa⟩=Aj:=by
 obtain⟨⟨d,a⟩,h,f⟩:=h;simp only[World.frozen?,h];grind
def Bk.of_block(h:Bk w b T l)(d:w'.heap[b]? =w.heap[b]?):Bk w' b T l:=by
 obtain⟨f,h,a⟩:=h;exact⟨_,Bg,a⟩
def Bk.new(w:Ad)(T:Ay)(l:Bm):Bk (w.alloc (.cells l.toArray T)) w.heap.size T l:=⟨(0,0),heap_alloc_new w _,X⟩
def Bk.alloc(h:Bk w b T l)(o:Obj):Bk (w.alloc o) b T l:=h.of_block (Below.heap_alloc w o b h.lt)
def Bk.drew(h:Bk w b T l):Bk w.drew b T l:=h
def Bk.drewN(h:Bk w b T l)(m:Y):Bk (w.drewN m) b T l:=h
def Bk.below{B:Y}(h:Bk w b T l)(hb:Below B w w')(hlt:b<B):Bk w' b T l:=h.of_block (hb.block b hlt)
def Bk.ext(h:Bk w b T l)(hb:Bf w w'):Bk w' b T l:=h.below hb h.lt
def Bk.far(h:Bk w b T l){p:AC}(hp:b≠p.block)(u:Ah):Bk (w.setCell p u) b T l:=h.of_block (Below.heap_setCell w p u b hp)
def Bk.grown{row:Aw Y}(h:Bk w b T l)(hg:w.grownBy w' row)(hne:J b≠row):Bk w' b T l:=h.of_block (hg.block b h.lt hne)
def Bk.set(h:Bk w b T l)(i:Y)(u:Ah):Bk (w.setCell ⟨b,i,Aa⟩ u) b T (l.set i u):=by
 have a:=h.lt;obtain⟨d,h,f⟩:=h;refine⟨d,?_,Bg⟩;simp only[World.setCell,Wg,if_true,h,FP];simp
def Bk.ne{d:Y}{f:Ay}{g:Bm}(h:Bk w b T l)(a:Bk w d f g)(i:T≠f):b≠d:=by
 rintro rfl;obtain⟨k,h,_⟩:=h;obtain⟨j,a,_⟩:=a;grind
def Bk.det{a:Bm}{f:Ay}(h:Bk w b T l)(d:Bk w b f a):T=f/\l=a:=by
 obtain⟨i,h,_⟩:=h;obtain⟨g,d,_⟩:=d;grind
def Bf.refl(w:Ad):Bf w w:=Below.refl _ _
def Bf.trans{a b c:Ad}(h:Bf a b)(k:Bf b c):Bf a c:=Below.trans h (k.mono h.size)
def Bf.alloc(w:Ad)(o:Obj):Bf w (w.alloc o):=(Below.refl _ _).alloc X o
def Bf.drew(w:Ad):Bf w w.drew:=(Below.refl _ _).drew
def Uo{B:Y}{a w:Ad}(h:Below B a w)(m:Y):Below B a (w.drewN m):=⟨h.os,h.tape,h.output,h.size,h.block⟩
def Bf.drewN(w:Ad)(m:Y):Bf w (w.drewN m):=Uo (Below.refl _ _) m
def Ri(P:AD)(w:Ad)(b o:Y)(T:Ay):∀(vs:Bm) (i:Y) (l:Bm) (w:Ad),Bk w b T l->o+i+Ajb vs<=Ajb l->(∀v∈vs,v.oneCell'=Af)->
 ∃w',(storeCells ⟨b,o,Aa⟩ vs i).run P w=.ok () w'/\Bk w' b T (l.take (o+i)++vs++l.drop (o+i+Ajb vs))/\w.grownBy w' (J b)
 |[],i,l,w,h,_,_=>⟨w,Z,by simpa using h,⟨Z,Z,Z,X,Bi⟩⟩
 |v::vs,i,l,w,h,hl,h1=>by
  simp at hl;have hlt:o+i<Ajb l:=X;have hc:w.cell? ⟨b,o+i,_⟩=J l[o+i]:=h.cell_of Bi;have hf:=h.free _ hlt;have hadd:(⟨b,o,Aa⟩:AC).add i=⟨b,o+i,Aa⟩:=by unfold Addr.add;split<;>simp_all
  obtain⟨w',j,p,a⟩:=Ri P w b o T vs (i+1) (l.set (o+i) v) (w.setCell ⟨b,o+i,Aa⟩ v) (h.set (o+i) v) Bg Bg;have d:=h1 v Bi
  have f:(store ⟨b,o+i,Aa⟩ v).run P w=.ok () (w.setCell ⟨b,o+i,Aa⟩ v):=by
   cases v<;>simp[Value.oneCell']at d<;>simp[store,Sem.run,hc,hf]
  refine⟨_,?_,?_,⟨a.os,a.tape,a.output,by have:=a.size;simp_all,fun k m g=>?_⟩⟩
  .simp[storeCells,Sem.run_bind,hadd,f,Result.andThen_ok];omega
  .have r:(l.set (o+i) v).take (o+(i+1))=l.take (o+i)++[v]:=by
    rw[show o+(i+1)=(o+i)+1 by omega,LY];rw[List.take_set_of_le X];simp[hlt]
   have q:(l.set (o+i) v).drop (o+(i+1)+Ajb vs)=l.drop (o+i+(Ajb vs+1)):=by
    rw[List.drop_set_of_lt X];congr 1;omega
   simp_all
  .rw[a.block k (by simp_all) g];exact Below.heap_setCell w _ v k Bg
end
def TI(P:AD)(T:Ay)(z:Ah)(s b:Y):Prop:=(P.info? T).map (fun i=>(i.zero,i.size,i.bytes))=J (J z,s,b)
def TI.at{P:AD}{T:Ay}{z:Ah}{s b:Y}(h:TI P T z s b):∃i,P.info? T=J i/\i.zero=J z/\i.size=s/\i.bytes=b:=by
 unfold TI at h;simp_all
def flat:TypeDesc->Ar
 |.struct _|.array _ _=>Aj
 |_=>Af
section
variable{P:AD}{n:Y}{σ:BH}{w w':Ad}{t t' e:Ay}{ty:Ay}{x y:AF}{b o:Y}{l:Bm}{T:Ay}{z v:Ah}{s bs:Y}
def MG{d:TypeDesc}(a:P.underlying t=J d):(isAgg t).run P w=.ok (!flat d) w:=by
 unfold isAgg;rw[Sem.run_bind,run_underlying a w];cases d<;>rfl
def Fz(h:TI P t z s bs):(sizeOf t).run P w=.ok s w:=by
 obtain⟨i,a,_,rfl,_⟩:=h.at;simp[sizeOf,typeInfo,a]
def NN(h:TI P t z s bs):(zeroValue t).run P w=.ok z w:=by
 obtain⟨i,d,a,_⟩:=h.at;simp[zeroValue,typeInfo,d,a]
def EX.alloc(h:TI P t z s bs)(hl:z.cells.toList=l):EX P n σ (.alloc t) ty w (.pointer (J ⟨w.heap.size,0,Aa⟩)) (w.alloc (.cells l.toArray t)):=fun A f d a after g=>by
 subst hl;simp only[execOp,Instr.alloc,Sem.run_bind,NN h,Result.andThen_ok];rfl
def EX.box(hx:ev σ x=J v)(hl:v.cells.toList=l):EX P n σ (.box t x) ty w (.pointer (J ⟨w.heap.size,0,Aa⟩)) (w.alloc (.cells l.toArray t)):=fun A d f a after g=>by
 subst hl;simp only[execOp,Instr.box,d.ev hx,Sem.run_bind];rfl
def Ci{d:TypeDesc}{a:AC}(h:P.underlying t=J d)(i:flat d=Af)(hx:ev σ x=J (.pointer (J a)))(m:w.cell? a=J v):EX P n σ (.load t x) ty w v w:=fun A j k f after g=>by
 simp only[execOp,Instr.loadAt,Instr.sureAddr,j.ev hx,Sem.run_bind,Sem.run_pure,Result.andThen_ok,loadVar,MG h,i];simp_all
def KY{d:TypeDesc}(k:P.underlying t=J d)(p:flat d=Aj)(h:TI P t z s bs)(hx:ev σ x=J (.pointer (J ⟨b,o,Aa⟩)))(m:Ajb l=s)
 (C:∀j u,l[j]? =J u->w.cell? ⟨b,o+j,Aa⟩=J u):EX P n σ (.load t x) ty w (.agg l.toArray) w:=fun A q r i after g=>by
 have a:=run_loadCells_list (P:=P) w ⟨b,o,Aa⟩ l (fun j u B=>by
  have f:(⟨b,o,Aa⟩:AC).add j=⟨b,o+j,Aa⟩:=by unfold Addr.add;split<;>simp_all
  grind)
 simp only[execOp,Instr.loadAt,Instr.sureAddr,q.ev hx,Sem.run_bind,Sem.run_pure,Result.andThen_ok,loadVar,MG k,p];rw[m]at a;simp[Fz h,a]
def Jp{d:TypeDesc}(hu:P.underlying t=J d)(hd:flat d=Aj)(h:TI P t z s bs)(hx:ev σ x=J (.pointer (J ⟨b,0,Aa⟩)))(hb:Bk w b T l)(hs:Ajb l=s):EX P n σ (.load t x) ty w (.agg l.toArray) w:=
 KY hu hd h hx hs fun j u hj=>by rw[Fb];exact hb.cell_of hj
def EU.store{a:AC}{u:Ah}(h:TI P t z 1 bs)(hx:ev σ x=J (.pointer (J a)))(m:ev σ y=J v)(h1:v.oneCell'=Af)(p:w.cell? a=J u)(hf:w.frozen? a=Aj):EU P n σ (.store t x y) ty w (w.setCell a v):=fun A j q k after g=>by
 have f:(Go.store a v).run P w=.ok () (w.setCell a v):=by
  cases v<;>simp[Value.oneCell']at h1<;>simp[Go.store,Sem.run,p,hf]
 have i:v.cells=#[v]:=by cases v<;>simp[Value.oneCell']at h1<;>rfl
 have d:a.add 0=a:=by unfold Addr.add;simp
 simp only[execOp,Instr.storeAt,Instr.sureAddr,j.ev hx,j.ev m,Sem.run_bind,Sem.run_pure,Result.andThen_ok,storeVar,Fz h,i];simp[storeCells,d,f]
def RF{i:Y}(h:TI P t z 1 bs)(hx:ev σ x=J (.pointer (J ⟨b,i,Aa⟩)))(hy:ev σ y=J v)(h1:v.oneCell'=Af)(hb:Bk w b T l)(hi:i<Ajb l):EU P n σ (.store t x y) ty w (w.setCell ⟨b,i,Aa⟩ v):=
 EU.store h hx hy h1 (hb.cell_of (BR hi)) (hb.free i hi)
def LF{v:Ah}(h:v.oneCell'=Af):v.cells=#[v]:=by cases v<;>simp[Value.oneCell']at h<;>rfl
def Tv{vs:Bm}(h:TI P t z s bs)(hx:ev σ x=J (.pointer (J ⟨b,o,Aa⟩)))(f:ev σ y=J (.agg vs.toArray))(p:Ajb vs=s)(h1:vs.all (·.oneCell')=Af)(k:Bk w b T l)(hl:o+Ajb vs<=Ajb l):
 ∃w',EU P n σ (.store t x y) ty w w'/\Bk w' b T (l.take o++vs++l.drop (o+Ajb vs))/\w.grownBy w' (J b):=by
 obtain⟨w',q,j,i⟩:=Ri P w b o T vs 0 l w k X Bg;refine⟨_,fun A a m d after g=>?_,X,i⟩;simp only[execOp,Instr.storeAt,Instr.sureAddr,a.ev hx,a.ev f,Sem.run_bind,Sem.run_pure,Result.andThen_ok,storeVar,Fz h,Value.cells];simp_all
def PR{m:Y}{k:AK}{i:Y}(p:P.underlying t=J (.array m e))(h:TI P e z s bs)(hx:ev σ x=J (.pointer (J ⟨b,o,Aa⟩)))(j:ev σ y=J (.int k (i:H)))(hi:i<m):
 EX P n σ (.indexAddr t x y) ty w (.pointer (J ⟨b,o+i*s,Aa⟩)) w:=fun A d q f after g=>by
 have a:(⟨b,o,Aa⟩:AC).add (i*s)=⟨b,o+i*s,Aa⟩:=by unfold Addr.add;split<;>simp_all
 simp only[execOp,d.ev hx,d.ev j];simp[Instr.indexAt,asIntOf,run_underlying p,Sem.run_bind,Instr.sureAddr,hi,Fz h,a]
def MS{k:AK}{i len cap:Y}(m:P.underlying t=J (.slice e))(h:TI P e z s bs)(hx:ev σ x=J (.slice (J ⟨b,o,Aa⟩) len cap))(j:ev σ y=J (.int k (i:H)))(hi:i<len):
 EX P n σ (.indexAddr t x y) ty w (.pointer (J ⟨b,o+i*s,Aa⟩)) w:=fun A d p f after g=>by
 have a:(⟨b,o,Aa⟩:AC).add (i*s)=⟨b,o+i*s,Aa⟩:=by unfold Addr.add;split<;>simp_all
 simp only[execOp,d.ev hx,d.ev j];simp[Instr.indexAt,asIntOf,run_underlying m,Sem.run_bind,Instr.sureAddr,hi,Fz h,a]
def LR{m:Y}{k:AK}{i:Y}(d:P.underlying t=J (.array m e))(h:TI P e z 1 bs)(hx:ev σ x=J (.pointer (J ⟨b,o,Aa⟩)))(a:ev σ y=J (.int k (i:H)))(hi:i<m):
 EX P n σ (.indexAddr t x y) ty w (.pointer (J ⟨b,o+i,Aa⟩)) w:=by simpa using PR d h hx a hi
def KX{k:AK}{i len cap:Y}(d:P.underlying t=J (.slice e))(h:TI P e z 1 bs)(hx:ev σ x=J (.slice (J ⟨b,o,Aa⟩) len cap))(a:ev σ y=J (.int k (i:H)))(hi:i<len):
 EX P n σ (.indexAddr t x y) ty w (.pointer (J ⟨b,o+i,Aa⟩)) w:=by simpa using MS d h hx a hi
def LQ{m:Y}{k:AK}{i:Y}(d:P.underlying t=J (.array m e))(h:TI P e z 1 bs)(hx:ev σ x=J (.pointer (J ⟨b,0,Aa⟩)))(a:ev σ y=J (.int k (i:H)))(hi:i<m):
 EX P n σ (.indexAddr t x y) ty w (.pointer (J ⟨b,i,Aa⟩)) w:=by simpa using PR d h hx a hi
def KV{k:AK}{i len cap:Y}(d:P.underlying t=J (.slice e))(h:TI P e z 1 bs)(hx:ev σ x=J (.slice (J ⟨b,0,Aa⟩) len cap))(a:ev σ y=J (.int k (i:H)))(hi:i<len):
 EX P n σ (.indexAddr t x y) ty w (.pointer (J ⟨b,i,Aa⟩)) w:=by simpa using MS d h hx a hi
def DS{a:AC}(hx:ev σ x=J (.pointer (J a))):EX P n σ (.nilCheck x) ty w (.pointer (J a)) w:=fun A f h d after g=>by
 simp only[execOp,f.ev hx];rfl
end
def Sl(w:Ad)(B:Y)(A:Aw AC)(xs:Bm):Prop:=
 xs=[]∨∃b o,A=J ⟨b,o,Aa⟩/\b<B/\∀j u,xs[j]? =J u->w.cell? ⟨b,o+j,Aa⟩=J u
def BD(k:AK)(l:Bj):Bm:=l.map fun(x:Y)=>Value.int k (x:H)
def BI(l:Bh):Bm:=l.map fun c=>Value.int .u8 (c.toNat:H)
def Bo(w:Ad)(B:Y)(T:Ay)(s:Y)(v:Ah)(n:Y)(xs:Bm):Prop:=
 Ajb xs=n*s/\((v=.slice Aa 0 0/\n=0)∨
  ∃g cap rest,v=.slice (J ⟨g,0,Aa⟩) n cap/\B<=g/\Bk w g T (xs++rest)/\Ajb xs+Ajb rest=cap*s/\n<=cap/\cap<=maxLen)
section
variable{w w':Ad}{B B':Y}{A:Aw AC}{xs:Bm}{T:Ay}{s n:Y}{v:Ah}
def Sl.at_(h:Sl w B A xs)(hx:0<Ajb xs):∃b o,A=J ⟨b,o,Aa⟩/\b<B/\∀j u,xs[j]? =J u->w.cell? ⟨b,o+j,Aa⟩=J u:=by
 rcases h with h|h
 .grind
 .omega
def Sl.keep(h:Sl w B A xs)(hk:∀p:AC,p.block<B->w'.cell? p=w.cell? p):Sl w' B A xs:=by
 rcases h with h|⟨b,o,i,a,g⟩
 .exact .inl h
 .exact .inr ⟨b,o,i,a,fun j u f=>(hk _ a).trans (g j u f)⟩
def Sl.more(h:Sl w B A xs)(g:B<=B'):Sl w B' A xs:=by
 rcases h with h|⟨b,o,f,i,a⟩
 .exact .inl h
 .exact .inr ⟨b,o,f,X,a⟩
def Sl.below(h:Sl w B A xs)(hb:Below B w w'):Sl w' B A xs:=h.keep fun _ hp=>hb.cell hp
def Sl.ext(h:Sl w B A xs)(g:Bf w w'):Sl w' B A xs:=by
 rcases h with h|⟨b,o,l,i,f⟩
 .exact .inl h
 .exact .inr ⟨b,o,l,i,fun j u a=>(g.cell (block_lt_of_cell (f j u a))).trans (f j u a)⟩
def Sl.pre(h:Sl w B A xs)(m:Y):Sl w B A (xs.take m):=by
 rcases h with h|⟨b,o,g,f,a⟩
 .subst h;left;simp
 .exact .inr ⟨b,o,g,f,fun j u i=>a j u (by
   grind)⟩
def Sl.Agl{b:Y}{l:Bm}(h:Bk w b T l)(hB:b<B):Sl w B (J ⟨b,0,Aa⟩) l:=.inr ⟨b,0,Z,hB,fun j u hu=>by rw[Fb];exact h.cell_of hu⟩
def Bk.sl{b:Y}{l:Bm}(h:Bk w b T l):Sl w w.heap.size (J ⟨b,0,Aa⟩) l:=Sl.Agl h h.lt
def Bo.nil(w:Ad)(B:Y)(T:Ay)(s:Y):Bo w B T s (.slice Aa 0 0) 0 []:=⟨Bi,Bi⟩
def Bo.lt(h:Bo w B T s v n xs):∀k,v.ownBlock=J k->B<=k/\k<w.heap.size:=by
 intro k a;rcases h.2 with⟨rfl,_⟩|⟨g,j,rest,rfl,i,f,_⟩
 .simp[Value.ownBlock]at a
 .simp[Value.ownBlock]at a;subst a;exact⟨i,f.lt⟩
def Bo.Agx(h:Bo w B T s v n xs)(hk:∀k,v.ownBlock=J k->w'.heap[k]? =w.heap[k]?):Bo w' B T s v n xs:=by
 refine⟨h.1,?_⟩;rcases h.2 with j|⟨g,i,rest,rfl,f,a,r⟩
 .grind
 .exact .inr ⟨g,_,_,Z,f,a.of_block (hk g Z),r⟩
def Bo.ext(h:Bo w B T s v n xs)(hx:Bf w w'):Bo w' B T s v n xs:=h.Agx fun k hk=>hx.block k (h.lt k hk).2
def Bo.grown{row:Aw Y}(h:Bo w B T s v n xs)(hg:w.grownBy w' row)(hne:v.ownBlock=Aa∨v.ownBlock≠row):Bo w' B T s v n xs:=
 h.Agx fun k hk=>hg.block k (h.lt k hk).2 Bg
def Bo.alloc(h:Bo w B T s v n xs)(o:Obj):Bo (w.alloc o) B T s v n xs:=h.ext (Bf.alloc w o)
def Bo.drewN(h:Bo w B T s v n xs)(m:Y):Bo (w.drewN m) B T s v n xs:=Ce
def Bo.more(h:Bo w B T s v n xs)(j:B'<=B):Bo w B' T s v n xs:=by
 refine⟨h.1,?_⟩;rcases h.2 with f|⟨g,a,rest,rfl,i,r⟩
 .grind
 .exact .inr ⟨g,_,_,Z,X,r⟩
def Bo.slice(h:Bo w B T s v n xs):∃A c,v=.slice A n c/\n<=c/\Sl w w.heap.size A xs:=by
 rcases h.2 with⟨rfl,rfl⟩|⟨g,i,rest,rfl,o,a,m,f,_⟩
 .exact⟨_,0,Z,X,.inl (Ih (by simpa using h.1))⟩
 .refine⟨_,_,Z,f,.inr ⟨g,0,Z,a.lt,fun j u l=>?_⟩⟩;refine a.cell_of ?_;grind
def Bo.blk(h:Bo w B T s v n xs)(hx:0<Ajb xs):∃g cap rest,v=.slice (J ⟨g,0,Aa⟩) n cap/\B<=g/\Bk w g T (xs++rest)/\Ajb xs+Ajb rest=cap*s/\n<=cap/\cap<=maxLen:=by
 rcases h.2 with⟨rfl,rfl⟩|a
 .have:=h.1;omega
 .omega
def Bo.Agl{g cap:Y}{l:Bm}(hg:Bk w g T l)(hB:B<=g)(hl:Ajb l=cap*s)(hm:cap<=maxLen):Bo w B T s (.slice (J ⟨g,0,Aa⟩) cap cap) cap l:=
 ⟨hl,.inr ⟨g,cap,[],Z,hB,Bg,X,X,hm⟩⟩
end
section
variable{P:AD}{w:Ad}
def Acl(z:Ap Ah)(n:Y):(Builtin.zeroCells z n).size=n*z.size:=by simp[Builtin.zeroCells]
def VD(B:Y)(t I ty e:Ay){z:Ah}{s bs:Y}(ht:P.underlying t=J (.slice e))(hi:TI P e z s bs)(K:z.cells.size=s)(af:0<s)
 {v:Ah} {n:Y} {xs:Bm} (l:Bo w B e s v n xs) {x:Ah} {m:Y} {a:Bm} (h:Src P s I x m a w)
 (G:n+m<=maxLen) (q:(n+m)*bs<=140737488355328) (hB:B<=w.heap.size):
 ∃v' w',(Builtin.append_ #[t,I] ty #[v,x]).run P w=.ok v' w'/\Bo w' B e s v' (n+m) (xs++a)/\w.grownBy w' v.ownBlock/\(v'.ownBlock=v.ownBlock∨v'.ownBlock=J w.heap.size):=by
 obtain⟨i,N,hz,rfl,rfl⟩:=hi.at;have p:Ajb (xs++a)=(n+m)*i.size:=by rw[BA,l.1,h.newsLen,RV]
 have grow:∀(A:Aw _) (f:Y),v=.slice A n f->f<n+m->(Builtin.firstCells i.size n (.slice A n f)).run P w.drew=.ok xs.toArray w.drew->
  ∃v' w',(Builtin.append_ #[t,I] ty #[v,x]).run P w=.ok v' w'/\Bo w' B e i.size v' (n+m) (xs++a)/\w.grownBy w' v.ownBlock/\(v'.ownBlock=v.ownBlock∨v'.ownBlock=J w.heap.size):=by
  intro A f hv S D;subst hv;have hr:=run_append_grow_src w t _ ty e i z ht N hz A n _ _ D x m _ h S (by simp[maxLen]at G;omega) (growslice_fits X q);have Q:=grownCap_ge w (n+m) f e;have C:=grownCap_le_maxLen w _ f e G;refine⟨_,_,hr,⟨p,.inr ⟨_,_,(Builtin.zeroCells z.cells (grownCap w (n+m) f e-(n+m))).toList,Z,hB,?_,?_,Q,C⟩⟩,⟨Z,Z,Z,Bi,fun k r _=>Below.heap_alloc _ _ k r⟩,.inr Z⟩
  .have:=Bk.new w.drew e ((xs++a)++(Builtin.zeroCells z.cells (grownCap w (n+m) f e-(n+m))).toList);rw[show((xs++a)++(Builtin.zeroCells z.cells (grownCap w (n+m) f e-(n+m))).toList).toArray=(xs++a).toArray++Builtin.zeroCells z.cells (grownCap w (n+m) f e-(n+m)) by simp]at this;simp_all
  .rw[p,Array.length_toList,Acl,K,<-RV];grind
 rcases l.2 with⟨rfl,rfl⟩|⟨g,f,rest,rfl,hb,hg,W,V,C⟩
 .have hx:xs=[]:=Ih (by simpa using l.1);subst hx;by_cases hm:m=0
  .subst hm;have V:a=[]:=Ih Bg;subst V;refine⟨.slice Aa 0 0,w,?_,Bo.nil _ _ _ _,⟨Z,Z,Z,Bv _,fun _ _ _=>rfl⟩,.inl Z⟩;have S:=h.cells;rcases h.kind with⟨e',r⟩|r<;>simp[Builtin.append_,run_underlying ht,run_underlying r,sizeOf,typeInfo,N,h.len,S]
  .exact grow Aa 0 Z X (by rfl)
 .by_cases o:n+m<=f
  .have ab:n*i.size+Ajb a<=Ajb (xs++rest):=by
    rw[BA,W,h.newsLen,<-RV];exact Ud _ o
   obtain⟨w',L,aj,ai⟩:=Ri P w g (n*i.size) e a 0 (xs++rest) w hg X h.one;refine⟨.slice (J ⟨g,0,Aa⟩) (n+m) f,w',?_,⟨p,.inr ⟨g,f,rest.drop (Ajb a),Z,hb,?_,?_,o,C⟩⟩,Ce,.inl Z⟩
   .rcases h.kind with⟨e',r⟩|r<;>simp[Builtin.append_,run_underlying ht,run_underlying r,sizeOf,typeInfo,N,h.len,o,h.cells,Addr.add_lit,L]
   .have e1:(xs++rest).take (n*i.size)=xs:=by rw[<-l.1];exact List.take_left
    have e2:(xs++rest).drop (n*i.size+Ajb a)=rest.drop (Ajb a):=by
     rw[<-l.1,<-Gj,List.drop_left]
    grind
   .rw[CM,p];have h1:(Ajb xs+Ajb rest)=f*i.size:=W;rw[l.1]at h1;grind
  .refine grow _ f Z X ?_
   have:(loadCells ⟨g,0,Aa⟩ (n*i.size)).run P w.drew=.ok xs.toArray w.drew:=by
    have:=run_loadCells_list (P:=P) w.drew ⟨g,0,Aa⟩ xs (fun j u hj=>by
     have E:(⟨g,0,Aa⟩:AC).add j=⟨g,j,Aa⟩:=by unfold Addr.add;split<;>simp_all
     rw[E];refine(hg.drew).cell_of ?_;grind)
    rwa[l.1]at this
   assumption
def Src.Agn{i C:Ay}{s:Y}(hk:P.underlying i=J (.slice C)){B:Y}{A:Aw AC}{m c:Y}{f:Bm}(h:Sl w B A f)(hl:Ajb f=m*s)(h1:∀u∈f,u.oneCell'=Af)(q:0<s):Src P s i (.slice A m c) m f w:=by
 have cells:∀g:Ad,(∀a,g.cell? a=w.cell? a)->(Builtin.firstCells s m (.slice A m c)).run P g=.ok f.toArray g:=by
  intro g p;rcases h with h|⟨b,o,rfl,_,E⟩
  .subst h;have r:m*s=0:=by simpa using hl.symm
   cases A with
   |none=>rfl
   |some a=>simp[Builtin.firstCells,r,loadCells,loadCellsFrom]
  .have:=run_loadCells_list (P:=P) g ⟨b,o,Aa⟩ f (fun j u D=>by
    have l:(⟨b,o,Aa⟩:AC).add j=⟨b,o+j,Aa⟩:=by unfold Addr.add;split<;>simp_all
    grind)
   rw[hl]at this;assumption
 exact⟨Bg,fun _=>rfl,Bg,cells _ fun _=>rfl,hl,h1⟩
def Src.Agy{tx:Ay}(hk:P.underlying tx=J .string)(l:Bh):Src P 1 tx (Bl l) (Ajb l) (BI l) w:=Src.ofString w hk ⟨⟨l⟩⟩
def Lz{k:AK}{l:Bj}:∀u∈BD k l,u.oneCell'=Af:=by
 intro u a;obtain⟨_,_,rfl⟩:=Cr.1 a;rfl
def Ut{l:Bh}:∀u∈BI l,u.oneCell'=Af:=by
 intro u a;obtain⟨_,_,rfl⟩:=Cr.1 a;rfl
def EQ(l:Bh):Ajb (BI l)=Ajb l:=by simp[BI]
def DO(k:AK)(l:Bj):Ajb (BD k l)=Ajb l:=by simp[BD]
def US(k:AK)(l m:Bj):BD k (l++m)=BD k l++BD k m:=by simp[BD]
def Xq(l m:Bh):BI (l++m)=BI l++BI m:=by simp[BI]
end
section
variable{P:AD}{R:AE->Ad->Prop}{ops:Ap AG}{rest:Ae AG}{k:Ae KI}{n:Y}{σ:BH}{w:Ad}{x y:AF}{t t' e ty:Ay}{pos:AJ}{after:Ap Edge}{gd:Aw (Y×Ar)}{d:Y}
def OW.append(B:Y){z:Ah}{s bs:Y}(G:BK ops σ gd=J Af)(I:BL d n=Af)(ht:P.underlying t=J (.slice e))(hi:TI P e z s bs)(o:z.cells.size=s)(p:0<s)
 {v r:Ah} {m l:Y} {xs f:Bm} (hx:ev σ x=J v) (D:ev σ y=J r) (j:Bo w B e s v l xs) (i:Src P s t' r m f w)
 (q:l+m<=maxLen) (a:(l+m)*bs<=140737488355328) (K:B<=w.heap.size)
 (h:∀v' w',Bo w' B e s v' (l+m) (xs++f)->w.grownBy w' v.ownBlock->(v'.ownBlock=v.ownBlock∨v'.ownBlock=J w.heap.size)->OW P R ops rest k n ((d,v')::σ) w'):
 OW P R ops (⟨J d,.call { callee:=.builtin .append,args:=#[x,y],argTypes:=#[t,t'] },ty,pos,after,gd⟩::rest) k n σ w:=by
 obtain⟨v',w',E,S,Q,N⟩:=VD (P:=P) B t t' ty e ht hi o p j i q a K;refine OW.val G I (v:=v') (w':=w') ?_ Bg;intro A C L pos after g;simp[execOp,resolve,invoke,builtin,Sem.run_bind,Sem.run_pure,Result.andThen_ok,GC,Co,Ep,C.ev hx,C.ev D,E]
def gC:∀(vs:Bm) (i:Y) (pre post:Bm),Ajb pre=i->(∀v∈vs,v.oneCell'=Af)->Ajb post=Ajb vs->
 Instr.fill (fun i=>J (i*1,1)) (pre++post).toArray ((vs.zipIdx i).map fun(v,j)=>(j,v))=J (pre++vs).toArray
 |[],i,pre,post,hp,_,hl=>by
  have:post=[]:=Bg;subst this;rfl
 |v::vs,i,pre,post,hp,h1,hl=>by
  cases post with
  |nil=>grind
  |cons p post=>
   have hc:=LF (h1 v Bi);have ih:=gC vs (i+1) (pre++[v]) _ (by simp[hp]) Bg (by simpa using hl);simp only[WO,Co,Instr.fill,hc,List.size_toArray,Cz,EZ,IP];grind
def Abk{z:Ah}{bs:Y}{pv:Ap (Y×Ah)}{vs:Bm}(len:Y)(ht:P.underlying t=J (.slice e))(hi:TI P e z 1 bs)(g:z.oneCell'=Af)
 (h:pv.toList=vs.zipIdx.map fun(v,j)=>(j,v)) (hl:Ajb vs=len) (h1:∀v∈vs,v.oneCell'=Af) (l:len<=16777216):
 (Instr.buildSlice t len pv).run P w=.ok (.slice (J ⟨w.heap.size,0,Aa⟩) len len) (w.alloc (.cells vs.toArray e)):=by
 have m:=gC _ 0 [] (BJ len z) Z h1 Bg;simp only[EP]at m;have f:=LF g
 have a:((Array.range (len*1)).map fun j=>#[z][j%(#[z]).size]!)=(BJ len z).toArray:=by
  apply Array.ext';apply GZ;intro j;by_cases q:j<len
  .grind
  .grind
 have o:¬(len*1>2 ^ 24):=X;simp only[Instr.buildSlice,Sem.run_bind,run_underlying ht,Fz hi,Result.andThen_ok,Ag o,h];by_cases p:len*1=0
 .have i:len=0:=X;subst i;have:vs=[]:=Bg;subst this;simp[Instr.fill,newRow,Sem.run,Array.range_zero']
 .rw[Ag p];simp only[Sem.run_bind,NN hi,Result.andThen_ok,Sem.run_pure,f,a,m];rfl
def EX.buildSlice{z:Ah}{bs:Y}{BO:Ap (Y×AF)}{vs:Bm}(len:Y)(ht:P.underlying t=J (.slice e))(hi:TI P e z 1 bs)(f:z.oneCell'=Af)
 (hv:evs σ (BO.toList.map (·.2))=J vs) (i:BO.toList.map (·.1)=Ha 0 (Ajb BO.toList)) (hl:Ajb vs=len) (h1:vs.all (·.oneCell')=Af) (a:len<=16777216):
 EX P n σ (.buildSlice t len BO) ty w (.slice (J ⟨w.heap.size,0,Aa⟩) len len) (w.alloc (.cells vs.toArray e)):=fun A l o pos after g=>by
 have h:(BO.map fun(p:Y×AF)=>(p.1,A.eval p.2)).toList=vs.zipIdx.map fun(v,j)=>(j,v):=by
  have m:=l.evs hv;apply GZ;intro j;have r:=Av (·[j]?) m;have q:=Av (·[j]?) i;cases hq:BO.toList[j]? with
  |none=>grind
  |some p=>
   grind
 have:=Abk (w:=w) _ ht hi f h hl Bg a;simp only[execOp,Sem.run_bind];simp_all
def cI{z:Ah}{bs len:Y}{l m:AK}(ht:P.underlying t=J (.slice e))(hi:TI P e z 1 bs)(a:z.oneCell'=Af)(hx:ev σ x=J (.int l (len:H)))(q:ev σ y=J (.int m (len:H)))
 (I:bs*len<=281474976710656) (E:len<=9223372036854775807):
 EX P n σ (.makeSlice t x y) ty w (.slice (J ⟨w.heap.size,0,Aa⟩) len len) (w.alloc (.cells (BJ len z).toArray e)):=fun A o G pos after g=>by
 obtain⟨i,C,p,r,rfl⟩:=hi.at
 have j:=by
  have h:((i.bytes*len:Y):H)<=281474976710656:=X;rwa[Wv]at h
 have f:=run_make w t e i z ht C p l m len _ X X j X;simp[TD,r,IP,LF a]at f
 have D:madeCells #[z] len=(BJ len z).toArray:=by
  apply Array.ext';rw[toList_madeCells_one]
 rw[D]at f;simp only[execOp,o.ev hx,o.ev q,Sem.run_bind,f];rfl
def EX.bytesOf{s:Bh}(ht:P.underlying t=J .string)(j:P.underlying t'=J (.slice e))(he:P.underlying e=J (.int .u8))(hx:ev σ x=J (Bl s))(L:Ajb s<=9223372036854775807):
 ∃v w',EX P n σ (.convert t t' x) ty w v w'/\Bo w' w.heap.size e 1 v (Ajb s) (BI s)/\v.ownBlock=J w.heap.size/\Bf w w':=by
 let cap:=Question.cut (.appendCap (Ajb s) 0 e) (w.tape w.drawn (.appendCap (Ajb s) 0 e))
 have r:Ajb s<=cap:=by simp[cap,Question.cut]
 have q:cap<=maxLen:=by
  have E:=Ng (w.tape w.drawn (.appendCap (Ajb s) 0 e)) (show 0<2 ^ 63-Ajb s by omega);simp only[cap,Question.cut,maxLen];omega
 let l:=BI s++BJ (cap-Ajb s) (Value.int .u8 0)
 have p:Ajb l=cap:=by simp[l,BI];omega
 let w1:=w.drew.alloc (.cells l.toArray e)
 let w2:=w1.freeze ⟨w.heap.size,cap,Aa⟩ 1
 have h:(s.toArray.map fun b=>Value.int .u8 b.toNat)++JX (cap-Ajb s) (Value.int .u8 0)=l.toArray:=by
  apply Array.ext';simp[l,BI]
 have i:w1.heap[w.heap.size]? =J _:=heap_alloc_new _ _;have o:w1.shape? w.heap.size=J (e,cap):=by simp[World.shape?,i,p]
 have C:w2.heap[w.heap.size]? =J (.cells l.toArray e (cap,cap+1)):=by
  simp[w2,World.freeze];simp[Wg,i]
 have f:(Conv.stringToBytes e ⟨⟨s⟩⟩).run P w=.ok (.slice (J ⟨w.heap.size,0,Aa⟩) (Ajb s) cap) w2:=by
  have m:PO ⟨_⟩=Ajb s:=rfl;have G:Question.forced (.appendCap (Ajb s) 0 e)=Aj:=rfl;simp only[Conv.stringToBytes,m,Sem.run_bind,choose,Sem.run,G,Wi,if_false,Result.andThen_ok,newRow,newObj,Sem.run_pure];rw[show((⟨_⟩:ByteArray).data.map _)=s.toArray.map _ from Z,h];have a:World.shape? { w with drawn:=w.drawn+1,heap:=w.heap.push _ } _=J _:=o;simp only[markStringish,shape,Sem.run_bind,Sem.run,a,freeze];rfl
 refine⟨_,_,fun A I K pos after g=>?_,⟨Bg,.inr ⟨_,_,_,Z,X,⟨_,C,Bg⟩,Bg,r,q⟩⟩,Z,⟨Z,Z,Z,?_,fun k D=>?_⟩⟩
 .simp only[execOp,I.ev hx,convert,run_underlying ht,run_underlying j,run_underlying he,Sem.run_bind,Result.andThen_ok,f];rfl
 .grind
 .have:w2.heap[k]? =w1.heap[k]?:=by
   simp[w2,World.freeze];simp[Wg,Nat.ne_of_gt D]
  rw[this];exact Below.heap_alloc _ _ k D
def Adi(s:Bh):strOfNums (s.map fun c=>(c.toNat:H))=⟨⟨s⟩⟩:=by
 have h:s.map ((fun n:H=>BU n.toNat)∘fun c=>c.toNat)=s:=by
  have a:∀c∈s,((fun n:H=>BU n.toNat)∘fun c=>c.toNat) c=id c:=Bi;rw[Kj a,List.map_id]
 simp[strOfNums,h]
def cT{B:Y}{A:Aw AC}{len cap:Y}{s:Bh}(ht:P.underlying t=J (.slice e))(he:P.underlying e=J (.int .u8))(f:P.underlying t'=J .string)(hx:ev σ x=J (.slice A len cap))(h:Sl w B A (BI s))(hl:Ajb s=len):
 EX P n σ (.convert t t' x) ty w (Bl s) w:=fun Ac q r pos after g=>by
 have m:(convert t t' (.slice A len cap)).run P w=.ok (Bl s) w:=by
  rcases h with h|⟨b,o,rfl,_,p⟩
  .have j:s=[]:=by
    have:=Av DZ h;simp[BI]at this;exact this
   subst j;simp at hl;subst hl;cases A with
   |none=>exact run_convert_bytes_nil w t e ht he 0 _ _ f
   |some a=>
    rw[run_convert_bytes_string w t _ e _ 0 _ ht he f,run_bytesToString w _ 0 _ [] (by rfl)];rfl
  .have:=run_convert_bytes_arg w t e ht he b o len cap (s.map fun c=>c.toNat) Bg (fun i C=>by
    have l:i<Ajb s:=X;have:=p i (.int .u8 (s[i].toNat)) (by simp[BI,l]);grind) _ f
   rwa[Adi]at this
 simp only[execOp,q.ev hx,Sem.run_bind,m];rfl
end
section
variable{P:AD}{R:AE->Ad->Prop}{ops:Ap AG}{rest:Ae AG}{k:Ae KI}{n:Y}{σ:BH}{w w0:Ad}{x y:AF}{t t' e ty ty1:Ay}{pos pos1:AJ}{after after1:Ap Edge}{gd gd1:Aw (Y×Ar)}{d d1:Y}
def Bf.grown{row:Aw Y}{w':Ad}(h:Bf w0 w)(hg:w.grownBy w' row)(hr:∀g,row=J g->w0.heap.size<=g):Bf w0 w':=Below.grown h hg h.size hr
def HL{z:Ah}{s bs:Y}(hg:BK ops σ gd=J Af)(hd:BL d n=Af)(ht:P.underlying t=J (.slice e))(hi:TI P e z s bs)(hzs:z.cells.size=s)(hs0:0<s)
 {v xv:Ah} {m l:Y} {xs news:Bm} (hx:ev σ x=J v) (hy:ev σ y=J xv) (hext:Bf w0 w) (hown:Bo w w0.heap.size e s v l xs) (hsrc:Src P s t' xv m news w)
 (h63:l+m<=maxLen) (hbytes:(l+m)*bs<=140737488355328)
 (h:∀v' w',Bo w' w0.heap.size e s v' (l+m) (xs++news)->Bf w0 w'->w.grownBy w' v.ownBlock->(v'.ownBlock=v.ownBlock∨v'.ownBlock=J w.heap.size)->OW P R ops rest k n ((d,v')::σ) w'):
 OW P R ops (⟨J d,.call { callee:=.builtin .append,args:=#[x,y],argTypes:=#[t,t'] },ty,pos,after,gd⟩::rest) k n σ w:=
 OW.append w0.heap.size hg hd ht hi hzs hs0 hx hy hown hsrc h63 hbytes hext.size fun v' w' h1 h2 h3=>h v' w' h1 (hext.grown h2 fun g hg=>(hown.lt g hg).1) h2 h3
def OW.push{z:Ah}{bs:Y}(A:BK ops σ gd1=J Af)(B:BL d1 n=Af)(K:∀u,BK ops ((d1,u)::σ) gd=J Af)(L:BL d n=Af)(ht:P.underlying t=J (.slice e))(hi:TI P e z 1 bs)(f:z.oneCell'=Af)
 {v u:Ah} {l:Y} {xs:Bm} (G:ev σ y=J u) (hx:∀q,ev ((d1,q)::σ) x=J v) (S:u.oneCell'=Af) (m:Bf w0 w) (i:Bo w w0.heap.size e 1 v l xs)
 (C:l+1<=maxLen) (a:(l+1)*bs<=140737488355328)
 (h:∀q v' w',Bo w' w0.heap.size e 1 v' (l+1) (xs++[u])->Bf w0 w'->w.grownBy w' v.ownBlock->(v'.ownBlock=v.ownBlock∨∃g,v'.ownBlock=J g/\w.heap.size<=g)->OW P R ops rest k n ((d,v')::(d1,q)::σ) w'):
 OW P R ops (⟨J d1,.buildSlice t 1 #[(0,y)],ty1,pos1,after1,gd1⟩::⟨J d,.call { callee:=.builtin .append,args:=#[x,.tmp d1],argTypes:=#[t,t] },ty,pos,after,gd⟩::rest) k n σ w:=by
 refine OW.val A B (EX.buildSlice (vs:=[u]) 1 ht hi f (by simp[evs,G]) Z Z Bg Bc) ?_;have p:Bf _ (w.alloc (.cells [u].toArray e)):=m.trans (Bf.alloc w _);have E:=Bk.new w e [u];refine HL (K _) L ht hi (LF f▸Z) Bc (hx _) (Pd _ _ _) p (i.alloc _) (Src.Agn ht (Sl.Agl E E.lt) Z Bg Bc) C a ?_;intro v' w' Q N o D;refine h _ _ _ Q N ⟨o.os,o.tape,o.output,by have:=o.size;simp_all;omega,fun j I r=>?_⟩ ?_
 .rw[o.block j Bx r];exact Below.heap_alloc w _ j I
 .rcases D with D|D
  .grind
  .simp_all
def Agf{z:Ah}(a:z.oneCell'=Af)(m:Y):(Builtin.zeroCells z.cells m).toList=BJ m z:=by
 rw[LF a];apply GZ;intro j;by_cases f:j<m
 .simp[Builtin.zeroCells,f,Nat.mod_one]
 .simp[Builtin.zeroCells,f]
def mH(B:Y)(N:Ay){kx:AK}(hk:P.underlying N=J (.int kx)){z:Ah}{bs:Y}(ht:P.underlying t=J (.slice e))(hi:TI P e z 1 bs)(S:z.oneCell'=Af)
 {v:Ah} {l:Y} {xs:Bm} (h:Bo w B e 1 v l xs) {m:Y} {ki:AK} (q:l+m<=maxLen) (p:(l+m)*bs<=140737488355328) (hB:B<=w.heap.size) (hm:0<m):
 ∃v' w',(Builtin.append_ #[t,N] ty #[v,.int ki (m:H)]).run P w=.ok v' w'/\Bo w' B e 1 v' (l+m) (xs++BJ m z)/\w.grownBy w' v.ownBlock/\(v'.ownBlock=v.ownBlock∨v'.ownBlock=J w.heap.size):=by
 obtain⟨i,hq,hz,hs,rfl⟩:=hi.at;have Q:=Agf S;have hw:IntKind.i64.wrap m=m:=by rw[IntKind.wrap_i64];simp[maxLen]at q;omega
 have W:¬((m:H)<0):=X
 have aj:¬((m:H)*i.bytes>2 ^ 48):=by
  have h1:m*i.bytes<=(l+m)*i.bytes:=Bg;have h2:((m*i.bytes:Y):H)<=140737488355328:=X;rw[Wv]at h2;omega
 have ao:¬(m*1=0):=X;have C:Ajb (xs++BJ m z)=(l+m)*1:=by rw[BA,h.1,Cq,RV,IP m]
 have grow:∀(A:Aw AC) (f:Y),v=.slice A l f->f<l+m->(∀r:Ad,(∀a,r.cell? a=w.cell? a)->(Builtin.firstCells 1 l (.slice A l f)).run P r=.ok xs.toArray r)->
  ∃v' w',(Builtin.append_ #[t,N] ty #[v,.int ki (m:H)]).run P w=.ok v' w'/\Bo w' B e 1 v' (l+m) (xs++BJ m z)/\w.grownBy w' v.ownBlock/\(v'.ownBlock=v.ownBlock∨v'.ownBlock=J w.heap.size):=by
  intro A f hv hc K;subst hv;have ab:=grownCap_ge w (l+m) f e;have E:=grownCap_le_maxLen w _ f e q;have D:=growslice_fits X p;have al:m*i.bytes<=(l+m)*i.bytes:=Bg;have hr:=Lib.run_append_grow_zeros w t _ ty e i z ki _ ht hk hq hz A l _ _ (hs▸K w.drew fun _=>rfl) m hm X hc (by simp[maxLen]at q;omega) X D;refine⟨_,_,hr,⟨C,.inr ⟨_,_,(Builtin.zeroCells z.cells (grownCap w (l+m) f e-(l+m))).toList,Z,hB,?_,?_,ab,E⟩⟩,⟨Z,Z,Z,Bi,fun k hk _=>Below.heap_alloc _ _ k hk⟩,.inr Z⟩
  .have:=Bk.new w.drew e ((xs++BJ m z)++(Builtin.zeroCells z.cells (grownCap w (l+m) f e-(l+m))).toList)
   rw[show((xs++BJ m z)++(Builtin.zeroCells _ _).toList).toArray=xs.toArray++Builtin.zeroCells z.cells m++Builtin.zeroCells z.cells (grownCap w (l+m) f e-(l+m)) by
    simp_all]at this
   simp_all
  .grind
 rcases h.2 with⟨rfl,rfl⟩|⟨g,f,rest,rfl,hb,hg,hl,hn,E⟩
 .have hx:xs=[]:=Ih Bg;subst hx;exact grow Aa 0 Z X (fun r _=>by rfl)
 .by_cases o:l+m<=f
  .have af:l+Ajb (BJ m z)<=Ajb (xs++rest):=by
    rw[BA,hl,Cq];omega
   obtain⟨w',I,a1,a0⟩:=Ri P w g l e (BJ m z) 0 (xs++rest) w hg X Bg;refine⟨_,_,?_,⟨C,.inr ⟨g,_,rest.drop m,Z,hb,?_,?_,o,E⟩⟩,Ce,.inl Z⟩
   .rw[<-Q]at I;have ai:(m:H)<=9223372036854775807:=by simp[maxLen]at q;omega
    have V:m≠0:=X;simp[Builtin.append_,run_underlying ht,run_underlying hk,sizeOf,typeInfo,zeroValue,hq,hz,hs,asInt,asIntOf,hw,W,V,o,Addr.add_lit,I,show ¬(281474976710656<(m:H)*(i.bytes:H)) by omega]
   .have G:Ajb xs=l:=by have:=h.1;omega
    have e1:(xs++rest).take (l+0)=xs:=by rw[Jv,<-G];exact List.take_left
    have e2:(xs++rest).drop (l+0+Ajb (BJ m z))=rest.drop m:=by
     rw[Jv,Cq,<-G,<-Gj,List.drop_left]
    grind
   .grind
  .refine grow _ _ Z X (fun r T=>?_)
   have:(loadCells ⟨g,0,Aa⟩ (l*1)).run P r=.ok xs.toArray r:=by
    have:=run_loadCells_list (P:=P) r ⟨g,0,Aa⟩ xs (fun j u hj=>by
     have L:(⟨g,0,Aa⟩:AC).add j=⟨g,j,Aa⟩:=by unfold Addr.add;split<;>simp_all
     rw[L,T];refine hg.cell_of ?_;grind)
    rwa[h.1]at this
   assumption
def qm{z:Ah}{bs:Y}{B ki:AK}(o:BK ops σ gd=J Af)(E:BL d n=Af)(ht:P.underlying t=J (.slice e))(hk:P.underlying t'=J (.int B))(hi:TI P e z 1 bs)(j:z.oneCell'=Af)
 {v:Ah} {m l:Y} {xs:Bm} (hx:ev σ x=J v) (C:ev σ y=J (.int ki (m:H))) (i:Bf w0 w) (f:Bo w w0.heap.size e 1 v l xs) (hm:0<m)
 (p:l+m<=maxLen) (a:(l+m)*bs<=140737488355328)
 (h:∀v' w',Bo w' w0.heap.size e 1 v' (l+m) (xs++BJ m z)->Bf w0 w'->w.grownBy w' v.ownBlock->(v'.ownBlock=v.ownBlock∨v'.ownBlock=J w.heap.size)->OW P R ops rest k n ((d,v')::σ) w'):
 OW P R ops (⟨J d,.call { callee:=.builtin .append,args:=#[x,y],argTypes:=#[t,t'] },ty,pos,after,gd⟩::rest) k n σ w:=by
 obtain⟨v',w',D,I,r,G⟩:=mH (P:=P) (ty:=ty) w0.heap.size t' hk ht hi j f (ki:=ki) p a i.size hm;refine OW.val o E ?_ (h _ _ I (i.grown r fun g o=>(f.lt g o).1) r G);intro A q K pos after g;simp[execOp,resolve,invoke,builtin,Sem.run_bind,Sem.run_pure,Result.andThen_ok,GC,Co,Ep,q.ev hx,q.ev C,D]
def qA{z:Ah}{s bs b o:Y}{vs l:Bm}{T:Ay}(i:BK ops σ gd=J Af)(h:TI P t z s bs)(hx:ev σ x=J (.pointer (J ⟨b,o,Aa⟩)))(a:ev σ y=J (.agg vs.toArray))(f:Ajb vs=s)(h1:vs.all (·.oneCell')=Af)(m:Bk w b T l)(hl:o+Ajb vs<=Ajb l)
 (g:∀w',Bk w' b T (l.take o++vs++l.drop (o+Ajb vs))->w.grownBy w' (J b)->OW P R ops rest k n σ w'):OW P R ops (⟨Aa,.store t x y,ty,pos,after,gd⟩::rest) k n σ w:=by
 obtain⟨w',j,q,p⟩:=Tv (P:=P) (n:=n) (ty:=ty) h hx a f h1 m hl;exact RY i j (g _ q p)
def WZ{z:Ah}{s bs b:Y}{vs l:Bm}{T:Ay}(hg:BK ops σ gd=J Af)(h:TI P t z s bs)(hx:ev σ x=J (.pointer (J ⟨b,0,Aa⟩)))(hy:ev σ y=J (.agg vs.toArray))(hs:Ajb vs=s)(h1:vs.all (·.oneCell')=Af)(hb:Bk w b T l)(hl:Ajb l=s)
 (hn:∀w',Bk w' b T vs->w.grownBy w' (J b)->OW P R ops rest k n σ w'):OW P R ops (⟨Aa,.store t x y,ty,pos,after,gd⟩::rest) k n σ w:=
 qA hg h hx hy hs h1 hb X Bg
def retA{fn:Func}{Q:Ah->Ad->Prop}{p:Y}{z:Ah}{s bs g:Y}{l:Bm}{T:Ay}{dd:TypeDesc}(i:fn.results=#[.cell p t])(o:lk σ p=J (.pointer (J ⟨g,0,Aa⟩)))(f:P.underlying t=J dd)(q:flat dd=Aj)(h:TI P t z s bs)(r:Bk w g T l)(hl:Ajb l=s)(m:Q (.agg l.toArray) w):
 ∀a,Fr n σ a->bodyPost P fn (fun e w'=>∃v,e=.returned v/\Q v w') .ret a w:=
 ME (fun a ha=>by
  have hp':=ha.val p _ o
  have hld:=run_loadCells_list (P:=P) w _ l (fun j u hj=>by
   have hadd:(⟨g,0,Aa⟩:AC).add j=⟨g,j,Aa⟩:=by unfold Addr.add;split<;>simp_all
   rw[hadd];exact r.cell_of hj)
  rw[hl]at hld;simp[results,i,hp',asAddr,loadVar,MG f,q,Fz h,hld]) m
def NM{kk:AK}{i:Y}(y:Y)(c:BoundsCode)(h:i<=y):(Instr.sliceBound (.int kk (i:H)) y c).run P w=.ok i w:=Td y c h
def Sl.cut{B:Y}{A:Aw AC}{xs:Bm}(h:Sl w B A xs){i c:Y}(m:Ajb xs<=c):Sl w B (if c=i then A else A.map (·.add (i*1))) (xs.drop i):=by
 rcases h with h|⟨b,o,rfl,f,a⟩
 .subst h;left;simp
 .by_cases l:Ajb xs<=i
  .left;simp_all
  .rw[Ag X];refine .inr ⟨b,o+i,by simp[Addr.add_lit],f,fun j u g=>?_⟩;grind
def OW.bytesOf{s:Bh}(m:BK ops σ gd=J Af)(o:BL d n=Af)(ht:P.underlying t=J .string)(a:P.underlying t'=J (.slice e))(he:P.underlying e=J (.int .u8))(hx:ev σ x=J (Bl s))(h:Ajb s<=9223372036854775807)
 (i:∀cap rs w',Bk w' w.heap.size e (BI s++rs)->Ajb s<=cap->cap<=maxLen->Ajb s+Ajb rs=cap->Bf w w'->OW P R ops rest k n ((d,.slice (J ⟨w.heap.size,0,Aa⟩) (Ajb s) cap)::σ) w'):
 OW P R ops (⟨J d,.convert t t' x,ty,pos,after,gd⟩::rest) k n σ w:=by
 obtain⟨v,w',B,A,f,r⟩:=EX.bytesOf (P:=P) (n:=n) (ty:=ty) (w:=w) ht a he hx h;rcases A.2 with⟨rfl,_⟩|⟨g,cap,rs,rfl,_,q,l,p,j⟩
 .simp[Value.ownBlock]at f
 .simp[Value.ownBlock]at f;subst f;exact OW.val m o B (i _ _ _ q p j (by rw[EQ]at l;omega) r)
end
structure Mo(w w':Ad)(S:Bj):Prop where
 os:w'.os=w.os
 tape:w'.tape=w.tape
 output:w'.output=w.output
 size:w.heap.size<=w'.heap.size
 block:∀k,k<w.heap.size->k∉S->w'.heap[k]? =w.heap[k]?
section
variable{w w' w'':Ad}{S S':Bj}{b B:Y}{T:Ay}{l:Bm}
def Mo.refl(w:Ad)(S:Bj):Mo w w S:=⟨Z,Z,Z,X,Bi⟩
def Mo.trans(h:Mo w w' S)(k:Mo w' w'' S):Mo w w'' S:=
 ⟨k.os.trans h.os,k.tape.trans h.tape,k.output.trans h.output,BC h.size k.size,fun i hi hS=>(k.block i (Ks hi h.size) hS).trans (h.block i hi hS)⟩
def Mo.mono(h:Mo w w' S)(hs:∀k∈S,k∈S'):Mo w w' S':=⟨h.os,h.tape,h.output,h.size,fun i hi hS=>h.block i hi Bg⟩
def Mo.fresh(h:Mo w w' S)(hs:∀k∈S,k<w.heap.size->k∈S'):Mo w w' S':=⟨h.os,h.tape,h.output,h.size,fun i hi hS=>h.block i hi Bg⟩
def Mo.Agk(h:Bf w w')(S:Bj):Mo w w' S:=⟨h.os,h.tape,h.output,h.size,fun i hi _=>h.block i hi⟩
def Mo.ext(h:Mo w w' []):Bf w w':=⟨h.os,h.tape,h.output,h.size,fun i hi=>h.block i hi Bi⟩
def Mo.set(w:Ad)(b i:Y)(u:Ah):Mo w (w.setCell ⟨b,i,Aa⟩ u) [b]:=⟨Z,Z,Z,Bi,fun k _ hk=>Below.heap_setCell w _ u k Bg⟩
def Mo.grown{row:Aw Y}(h:w.grownBy w' row)(hr:∀k,row=J k->k∈S):Mo w w' S:=⟨h.os,h.tape,h.output,h.size,fun i hi hS=>h.block i hi Bg⟩
def Bu{a:Ad}(h:Below B a w)(hm:Mo w w' S)(hB:B<=w.heap.size)(hs:∀k∈S,B<=k):Below B a w':=
 ⟨hm.os.trans h.os,hm.tape.trans h.tape,hm.output.trans h.output,BC h.size hm.size,fun i hi=>(hm.block i X Bg).trans (h.block i hi)⟩
def Bk.mo(h:Bk w b T l)(hm:Mo w w' S)(hb:b∉S):Bk w' b T l:=h.of_block (hm.block b h.lt hb)
def Bo.mo{s n:Y}{v:Ah}{xs:Bm}(h:Bo w B T s v n xs)(hm:Mo w w' S)(hb:∀k,v.ownBlock=J k->k∉S):Bo w' B T s v n xs:=
 h.Agx fun k hk=>hm.block k (h.lt k hk).2 (hb k hk)
end
section
variable{P:AD}{R:AE->Ad->Prop}{k:Ae KI}{n:Y}{σ:BH}{w:Ad}{c c':AM}
def qa{ι:Type}(I:ι->Prop)(S:ι->BH)(W:ι->Ad)(h:KW P R (.code c::.code c'::.asr (Met n I S W)::k) n σ w)(o:∀i,I i->KW P R k n (S i) (W i)):
 KW P R (.code c::.code c'::k) n σ w:=fun a m=>by
 have f:=h a m;simp[DP]at f ⊢;refine Code.wp_mono (fun e p w' q=>?_) f;cases e with
 |normal=>
  refine Code.wp_mono (fun e p w' q=>?_) q;cases e with
  |normal=>obtain⟨i,g,j,rfl⟩:=q;exact o i g _ j
  |_=>exact q
 |_=>exact q
end
section
variable{P:AD}{R:AE->Ad->Prop}{ops:Ap AG}{rest:Ae AG}{k:Ae KI}{n:Y}{σ:BH}{w:Ad}{x y t:AF}{T T' e ty:Ay}{pos:AJ}{after:Ap Edge}{gd:Aw (Y×Ar)}{d:Y}{v z:Ah}{s bs:Y}{l:Bm}
def cB(hx:ev σ x=J v)(h1:v.oneCell'=Af):EX P n σ (.box T x) ty w (.pointer (J ⟨w.heap.size,0,Aa⟩)) (w.alloc (.cells [v].toArray T)):=
 EX.box hx (by rw[LF h1])
def Ma(hg:BK ops σ gd=J Af)(hd:BL d n=Af)(hx:ev σ x=J v)(h1:v.oneCell'=Af)
 (h:∀b w',w.heap.size<=b->Bk w' b T [v]->Bf w w'->OW P R ops rest k n ((d,.pointer (J ⟨b,0,Aa⟩))::σ) w'):
 OW P R ops (⟨J d,.box T x,ty,pos,after,gd⟩::rest) k n σ w:=
 OW.val hg hd (cB hx h1) (h _ _ X (Bk.new w T [v]) (Bf.alloc w _))
def dA(hg:BK ops σ gd=J Af)(hd:BL d n=Af)(hi:TI P T z s bs)(hl:z.cells.toList=l)
 (h:∀b w',w.heap.size<=b->Bk w' b T l->Bf w w'->OW P R ops rest k n ((d,.pointer (J ⟨b,0,Aa⟩))::σ) w'):
 OW P R ops (⟨J d,.alloc T,ty,pos,after,gd⟩::rest) k n σ w:=
 OW.val hg hd (EX.alloc hi hl) (h _ _ X (Bk.new w T l) (Bf.alloc w _))
def Uf{b i:Y}(hg:BK ops σ gd=J Af)(hi:TI P T z 1 bs)(hx:ev σ x=J (.pointer (J ⟨b,i,Aa⟩)))(hy:ev σ y=J v)(h1:v.oneCell'=Af)(hb:Bk w b T' l)(hlt:i<Ajb l)
 (h:∀w',Bk w' b T' (l.set i v)->Mo w w' [b]->OW P R ops rest k n σ w'):
 OW P R ops (⟨Aa,.store T x y,ty,pos,after,gd⟩::rest) k n σ w:=
 RY hg (RF hi hx hy h1 hb hlt) (h _ (hb.set i v) (Mo.set w b i v))
def dC{len:Y}{kl kc:AK}(hg:BK ops σ gd=J Af)(hd:BL d n=Af)(ht:P.underlying T=J (.slice e))(hi:TI P e z 1 bs)(hz1:z.oneCell'=Af)(hx:ev σ x=J (.int kl (len:H)))(hy:ev σ y=J (.int kc (len:H)))
 (hb:bs*len<=281474976710656) (h63:len<=9223372036854775807)
 (h:∀b w',w.heap.size<=b->Bk w' b e (BJ len z)->Bf w w'->OW P R ops rest k n ((d,.slice (J ⟨b,0,Aa⟩) len len)::σ) w'):
 OW P R ops (⟨J d,.makeSlice T x y,ty,pos,after,gd⟩::rest) k n σ w:=
 OW.val hg hd (cI ht hi hz1 hx hy hb h63) (h _ _ X (Bk.new w e _) (Bf.alloc w _))
def Ku{BO:Ap (Y×AF)}{vs:Bm}(len:Y)(hg:BK ops σ gd=J Af)(hd:BL d n=Af)(ht:P.underlying T=J (.slice e))(hi:TI P e z 1 bs)(hz1:z.oneCell'=Af)
 (hv:evs σ (BO.toList.map (·.2))=J vs) (hp:BO.toList.map (·.1)=Ha 0 (Ajb BO.toList)) (hl:Ajb vs=len) (h1:vs.all (·.oneCell')=Af) (hlen:len<=16777216)
 (h:∀b w',w.heap.size<=b->Bk w' b e vs->Bf w w'->OW P R ops rest k n ((d,.slice (J ⟨b,0,Aa⟩) len len)::σ) w'):
 OW P R ops (⟨J d,.buildSlice T len BO,ty,pos,after,gd⟩::rest) k n σ w:=
 OW.val hg hd (EX.buildSlice len ht hi hz1 hv hp hl h1 hlen) (h _ _ X (Bk.new w e vs) (Bf.alloc w _))
def Gf{f:FuncId}{fs i:Ae AF}{a h:Bm}(hf:evs σ fs=J a)(m:evs σ i=J h):
 EX P n σ (.makeFunc (.func f) fs.toArray i.toArray) ty w (.func (.func f) a.toArray h.toArray) w:=fun A j q pos after g=>by
 have p:fs.toArray.map A.eval=a.toArray:=by simp[j.evs hf]
 have o:i.toArray.map A.eval=h.toArray:=by simp[j.evs m]
 simp only[execOp,p,o];rfl
def EC.val {f:FuncId} {xs:Ae AF} {vs a h args:Bm} {i:Ap Ay} {fn:Func} (hf:P.funcs[f]? =J fn) (m:(!(fn.name== "runtime.NumGoroutine") && fn.body.isSome)=Af)
 (ht:ev σ t=J (.func (.func f) a.toArray h.toArray)) (hx:evs σ xs=J vs) (he:a++vs++h=args):
 EC P n σ (.call { callee:=.value t,args:=xs.toArray,argTypes:=i }) ty w f args.toArray:=fun A j p pos after g=>by
 have o:xs.toArray.map A.eval=vs.toArray:=by simp[j.evs hx]
 simp only[execOp,resolve,Deferred.ofValue,j.ev ht,Sem.run_bind,Sem.run_pure,Result.andThen_ok,invoke,o];have:=Rh (w:=w) hf m (a++vs++h).toArray;grind
def qp{f:FuncId}{xs:Ae AF}{a:Ap Ay}{vs i j args:Bm}{Q:Ah->Ad->Prop}
 (m:BK ops σ gd=J Af) (o:BL d n=Af) (ht:ev σ t=J (.func (.func f) i.toArray j.toArray)) (hx:evs σ xs=J vs) (he:i++vs++j=args) (g:Bn P f args w Q)
 (h:∀v w',Q v w'->OW P R ops rest k n ((d,v)::σ) w'):
 OW P R ops (⟨J d,.call { callee:=.value t,args:=xs.toArray,argTypes:=a },ty,pos,after,gd⟩::rest) k n σ w:=by
 obtain⟨⟨r,q,p⟩,_⟩:=id g;exact dB m o (EC.val q p ht hx he) g h
end
def Hc {P:AD} {f:FuncId} {fn:Func} {args:Bm} {w:Ad} {v:Ah} {W:Ad->Prop} (hf:P.funcs[f]? =J fn) (hn:(!(fn.name== "runtime.NumGoroutine") && fn.body.isSome)=Af)
 (h:Calls P f args.toArray w fun e w'=>e=.returned v/\W w'):Bn P f args w fun v' w'=>v'=v/\W w':=
 ⟨⟨fn,hf,hn⟩,Bg⟩
section
variable{P:AD}{n:Y}{σ:BH}{w:Ad}{x y:AF}{t e ty T T':Ay}{b o:Y}{z v:Ah}{s bs:Y}{l:Bm}
def places(P:AD)(fs:Ae Field):Aw (Ae (Y×Y)):=
 match fs with
 |[]=>J []
 |f::r=>match P.info? f.type,places P r with
  |some i,J l=>J ((f.offset,i.size)::l)
  |_,_=>Aa
def aD:∀(fs:Ae Field) (l:Ae (Y×Y)),places P fs=J l->(fs.mapM fun f=>(do pure (f.offset,<-sizeOf f.type):Sem (Y×Y))).run P w=.ok l w
 |[],l,h=>by
  simp only[places,RZ.injEq]at h;simp_all
 |f::r,l,h=>by
  simp[places]at h;split at h
  .rename_i i l' hi hl;injection h with h;have ih:=aD r _ hl;have hs:(sizeOf f.type).run P w=.ok i.size w:=by simp[sizeOf,typeInfo,hi]
   simp_all
  .grind
def KN:Bm->Bj->Bm->Bm
 |cs,i::is,v::vs=>KN (cs.set i v) is vs
 |cs,_,_=>cs
def gD(pl:Ae (Y×Y)):∀(pv:Ae (Y×Ah)) (is:Bj) (cs:Bm),Ajb pv=Ajb is->(∀(j:Y) (p:Y×Ah) (i:Y),pv[j]? =J p->is[j]? =J i->pl[p.1]? =J (i,1)/\i<Ajb cs/\p.2.oneCell'=Af)->
 Instr.fill (pl.toArray[·]?) cs.toArray pv=J (KN cs is (pv.map (·.2))).toArray
 |[],is,cs,hl,_=>by
  cases is with
  |nil=>rfl
  |cons _ _=>simp at hl
 |(k,v)::pv,is,cs,hl,h=>by
  cases is with
  |nil=>simp at hl
  |cons i is=>
   obtain⟨h1,h2,h3⟩:=h 0 (k,v) i Z Z;have hc:=LF h3
   have ih:=gD pl pv is (cs.set i v) Bg (fun j p i' hp hi'=>by
    have:=h (j+1) p i' Bg Bg;grind)
   simp only[Co,KN];simp only[Instr.fill];grind
def Ps(pl:Ae (Y×Y))(m:Y):Bj->Bj->Ar
 |k::ks,i::is=>(match pl[k]? with|some (i',1)=>Jw i' i|_=>Aj) && BL i m && Ps pl m ks is
 |[],[]=>Af
 |_,_=>Aj
def lE{pl:Ae (Y×Y)}{m:Y}:∀{ks is:Bj},Ps pl m ks is=Af->Ajb ks=Ajb is/\∀(j k i:Y),ks[j]? =J k->is[j]? =J i->pl[k]? =J (i,1)/\i<m
 |[],[],_=>⟨Z,Bi⟩
 |[],i::is,h=>by simp[Ps]at h
 |k::ks,[],h=>by simp[Ps]at h
 |k::ks,i::is,h=>by
  simp only[Ps,Bool.and_eq_true]at h;obtain⟨⟨h1,h2⟩,h3⟩:=h;obtain⟨e,f⟩:=lE h3;refine⟨Bg,fun j k' i' hk hi=>?_⟩;cases j with
  |zero=>
   simp at hk hi;split at h1
   .simp_all
   .grind
  |succ j=>grind
def PP{fs:Ap Field}{BO:Ap (Y×AF)}{pl:Ae (Y×Y)}{ks is:Bj}{vs zs:Bm}(r:P.underlying t=J (.struct fs))(hi:TI P t (.agg zs.toArray) s bs)(C:places P fs.toList=J pl)
 (hk:BO.toList.map (·.1)=ks) (hv:evs σ (BO.toList.map (·.2))=J vs) (G:Ps pl (Ajb zs) ks is=Af) (h1:vs.all (·.oneCell')=Af) (hl:KN zs is vs=l):
 EX P n σ (.build t BO) ty w (.agg l.toArray) w:=fun A I K pos after g=>by
 subst hl;have h:=I.evs hv
 have i:(BO.map fun p=>(p.1,A.eval p.2)).toList=ks.zip vs:=by
  rw[<-hk,<-h];simp only[Array.toList_map,EO,List.zip_map'];rfl
 obtain⟨Q,N⟩:=lE G;have m:Ajb ks=Ajb vs:=by rw[<-hk,<-h];simp
 have q:=gD pl (ks.zip vs) is zs Bg (fun j p L B E=>by
  grind)
 have a:(ks.zip vs).map (·.2)=vs:=by
  rw[<-List.unzip_snd,List.unzip_zip_right];omega
 rw[a]at q
 have D:(fs.mapM fun f=>(do pure (f.offset,<-sizeOf f.type):Sem (Y×Y))).run P w=.ok pl.toArray w:=by
  have:=aD (w:=w) _ _ C;rw[List.mapM_toArray,map_eq_pure_bind,Sem.run_bind,this];rfl
 simp only[execOp,Instr.build,Sem.run_bind,NN hi,Result.andThen_ok,run_underlying r,D];rw[show(BO.map _).toList=ks.zip _ from i];rw[show((Value.agg _).cells)=zs.toArray from Z,q];rfl
def Do{fs:Ap Field}{h:Field}{f off:Y}(j:P.underlying t=J (.struct fs))(hf:fs[f]? =J h)(r:h.offset=off)(hi:TI P h.type z s bs)(m:BL 0 s=Af)(hx:ev σ x=J (.pointer (J ⟨b,o,Aa⟩))):
 EX P n σ (.fieldAddr t x f) ty w (.pointer (J ⟨b,o+off,Aa⟩)) w:=fun A p q pos after g=>by
 have i:s≠0:=by have:=Nat.le_of_ble_eq_true m;omega
 have a:(⟨b,o,Aa⟩:AC).add h.offset=⟨b,o+h.offset,Aa⟩:=by unfold Addr.add;split<;>simp_all
 simp only[execOp,p.ev hx];simp[Instr.fieldAt,run_underlying j,hf,Instr.sureAddr,fieldPlace,Fz hi,i,a]
def Tc{u v:Ah}{q:Ar}(e:binOp .eql t u v=(do pure (.bool (<-Op.equal t u v))))(h:∀d,(Op.equalIn (d+1) t u v).run P w=.ok q w):(binOp .eql t u v).run P w=.ok (.bool q) w:=by
 have a:(Op.equal t u v).run P w=.ok q w:=h 9999;simp_all
def aC{u v:Ah}{q:Ar}(e:binOp .neq t u v=(do pure (.bool !(<-Op.equal t u v))))(h:∀d,(Op.equalIn (d+1) t u v).run P w=.ok (!q) w):(binOp .neq t u v).run P w=.ok (.bool q) w:=by
 have a:(Op.equal t u v).run P w=.ok _ w:=h 9999;simp_all
def YN(op:BinOp)(i j:Aw AC):(eqGuard op t x y (.pointer i) (.pointer j)).run P w=.ok () w:=by
 unfold eqGuard;simp
def cD(hu:P.underlying t=J (.pointer e))(hx:ev σ x=J (.pointer Aa))(hy:ev σ y=J (.pointer Aa)):EX P n σ (.binOp .eql t x y T) ty w (.bool Af) w:=
 FY hx hy (YN _ _ _) (Tc Z (fun d=>by simp[Op.equalIn,run_underlying hu,Sem.run_bind]))
def cE{a:AC}(hu:P.underlying t=J (.pointer e))(hx:ev σ x=J (.pointer (J a)))(hy:ev σ y=J (.pointer Aa)):EX P n σ (.binOp .eql t x y T) ty w (.bool Aj) w:=
 FY hx hy (YN _ _ _) (Tc Z (fun d=>by simp[Op.equalIn,run_underlying hu,Sem.run_bind]))
def pu{p q:Ap Ay}{vd:Ar}(hu:P.underlying t=J (.func p q vd))(hx:ev σ x=J .nilFunc)(hy:ev σ y=J .nilFunc):EX P n σ (.binOp .neq t x y T) ty w (.bool Aj) w:=
 FY hx hy (by rfl) (aC Z (fun d=>by simp[Op.equalIn,run_underlying hu,Sem.run_bind]))
def px{p q:Ap Ay}{vd:Ar}{f:Fn}{fi ca:Ap Ah}(hu:P.underlying t=J (.func p q vd))(hx:ev σ x=J (.func f fi ca))(hy:ev σ y=J .nilFunc):EX P n σ (.binOp .neq t x y T) ty w (.bool Af) w:=
 FY hx hy (by rfl) (aC Z (fun d=>by simp[Op.equalIn,run_underlying hu,Sem.run_bind]))
def cK{p q:Ap Ay}{h r:Ar}(g:P.underlying t=J (.func p q h))(hx:ev σ x=J v)(a:ev σ y=J .nilFunc)(i:v=.nilFunc/\r=Aj∨∃f fi ca,v=.func f fi ca/\r=Af):EX P n σ (.binOp .neq t x y T) ty w (.bool r) w:=by
 rcases i with⟨rfl,rfl⟩|⟨f,fi,ca,rfl,rfl⟩
 .exact pu g hx a
 .exact px g hx a
end
section
variable{P:AD}{R:AE->Ad->Prop}{ops:Ap AG}{rest:Ae AG}{k:Ae KI}{n:Y}{σ:BH}{w:Ad}{x y:AF}{T T' e ty:Ay}{pos:AJ}{after:Ap Edge}{gd:Aw (Y×Ar)}{d:Y}{v z:Ah}{s bs:Y}{l:Bm}
def Dz(hg:BK ops σ gd=J Af)(hd:BL d n=Af)(hx:ev σ x=J (.agg l.toArray))
 (h:∀b w',w.heap.size<=b->Bk w' b T l->Bf w w'->OW P R ops rest k n ((d,.pointer (J ⟨b,0,Aa⟩))::σ) w'):
 OW P R ops (⟨J d,.box T x,ty,pos,after,gd⟩::rest) k n σ w:=
 OW.val hg hd (EX.box (l:=l) hx (by rfl)) (h _ _ X (Bk.new w T l) (Bf.alloc w _))
def Ug{b o:Y}{vs:Bm}(j:BK ops σ gd=J Af)(hi:TI P T z s bs)(hx:ev σ x=J (.pointer (J ⟨b,o,Aa⟩)))(g:ev σ y=J (.agg vs.toArray))(i:Ajb vs=s)(h1:vs.all (·.oneCell')=Af)(p:Bk w b T' l)(hlt:o+Ajb vs<=Ajb l)
 (h:∀w',Bk w' b T' (l.take o++vs++l.drop (o+Ajb vs))->Mo w w' [b]->OW P R ops rest k n σ w'):
 OW P R ops (⟨Aa,.store T x y,ty,pos,after,gd⟩::rest) k n σ w:=by
 obtain⟨w',m,f,a⟩:=Tv (P:=P) (n:=n) (ty:=ty) hi hx g i h1 p hlt;exact RY j m (h _ f (Mo.grown a Bi))
end
section
variable{P:AD}{n:Y}{σ:BH}{w:Ad}{x y lo hi':AF}{t t' e ty T:Ay}{B len cap i j g:Y}{kk:AK}{z v:Ah}{bs:Y}{xs:Bm}
def sb0(y:Y)(c:BoundsCode):(Instr.sliceBound (.int kk 0) y c).run P w=.ok 0 w:=NM (kk:=kk) (i:=0) y c X
def pB(ht:P.underlying t=J (.slice e))(hi:TI P e z 1 bs)(hx:ev σ x=J v)(hl:ev σ hi'=J (.int kk (j:H)))(a:Bo w B e 1 v len xs)(h:j<=len):
 ∃v',EX P n σ (.slice t x Aa (J hi') Aa) ty w v' w/\Bo w B e 1 v' j (xs.take j)/\v'.ownBlock=v.ownBlock:=by
 have A:=a.1;rcases a.2 with⟨rfl,rfl⟩|⟨g,cap,rest,rfl,I,K,L,E,G⟩
 .obtain rfl:j=0:=X;have D:xs=[]:=Bg;refine⟨.slice Aa 0 0,fun Ac o r pos after g=>?_,Bo.nil _ _ _ _,Z⟩;simp only[execOp,o.ev hx,o.ev hl,FP,Nj];simp[Instr.sliceAt,run_underlying ht,Instr.slice,Instr.sliceBounds,Sem.run_bind,sb0,Fz hi]
 .refine⟨_,fun Ac o r pos after gd=>?_,⟨Bg,.inr ⟨g,_,xs.drop j++rest,Z,I,?_,?_,X,G⟩⟩,Z⟩
  .simp only[execOp,o.ev hx,o.ev hl,FP,Nj];have m:(⟨g,0,Aa⟩:AC).add (0*1)=⟨g,0,Aa⟩:=by unfold Addr.add;simp
   by_cases f:cap=0
   .subst f;obtain rfl:j=0:=X;simp[Instr.sliceAt,run_underlying ht,Instr.slice,Instr.sliceBounds,Sem.run_bind,sb0,Fz hi]
   .simp[Instr.sliceAt,run_underlying ht,Instr.slice,Instr.sliceBounds,Sem.run_bind,NM cap _ (BC h E),Fz hi,f,m]
  .rw[<-Cx,HJ];omega
  .grind
def Wn(ht:P.underlying t=J (.slice e))(hi:TI P e z 1 bs)(hx:ev σ x=J (.slice (J ⟨g,0,Aa⟩) len cap))(hl:ev σ lo=J (.int kk (i:H)))(h:i<=len/\len<=cap/\i<cap):
 EX P n σ (.slice t x (J lo) Aa Aa) ty w (.slice (J ⟨g,i,Aa⟩) (len-i) (cap-i)) w:=fun Ac m o pos after gd=>by
 simp only[execOp,m.ev hx,m.ev hl,FP,Nj];have a:(⟨g,0,Aa⟩:AC).add i=⟨g,i,Aa⟩:=by unfold Addr.add;split<;>simp_all
 have f:¬cap=i:=X;simp[Instr.sliceAt,run_underlying ht,Instr.slice,Instr.sliceBounds,Sem.run_bind,NM _ _ h.1,Fz hi,f,a]
def pD{A:Aw AC}{k2:AK}(ht:P.underlying t=J (.slice e))(hi:TI P e z 1 bs)(hx:ev σ x=J (.slice A len cap))(hl:ev σ lo=J (.int kk (i:H)))(hh:ev σ hi'=J (.int k2 (j:H)))(h:i<=j/\j<=len/\len<=cap)(hs:Sl w B A xs)(hln:Ajb xs=len):
 ∃A',EX P n σ (.slice t x (J lo) (J hi') Aa) ty w (.slice A' (j-i) (cap-i)) w/\Sl w B A' ((xs.drop i).take (j-i)):=
 ⟨if cap=i then A else A.map (·.add (i*1)),fun Ac ha dst pos after gd=>by
  simp only[execOp,ha.ev hx,ha.ev hl,ha.ev hh,FP,Nj];simp[Instr.sliceAt,run_underlying ht,Instr.slice,Instr.sliceBounds,Sem.run_bind,NM j _ h.1,NM cap _ (BC h.2.1 h.2.2),Fz hi],(hs.cut X).pre _⟩
def oY{l c:Y}(hu:P.underlying t=J (.slice e))(hx:ev σ x=J (.slice Aa l c))(hy:ev σ y=J (.slice Aa 0 0)):EX P n σ (.binOp .eql t x y T) ty w (.bool Af) w:=
 FY hx hy (by rfl) (Tc Z (fun d=>by simp[Op.equalIn,run_underlying hu,Sem.run_bind]))
def oZ{a:AC}{l c:Y}(hu:P.underlying t=J (.slice e))(hx:ev σ x=J (.slice (J a) l c))(hy:ev σ y=J (.slice Aa 0 0)):EX P n σ (.binOp .eql t x y T) ty w (.bool Aj) w:=
 FY hx hy (by rfl) (Tc Z (fun d=>by simp[Op.equalIn,run_underlying hu,Sem.run_bind]))
end
def Bo.ne{w:Ad}{B T m s n b:Y}{v:Ah}{xs l:Bm}(h:Bo w B T s v n xs)(r:Bk w b m l)(a:T≠m):∀k,v.ownBlock=J k->b≠k:=by
 intro k f;rcases h.2 with⟨rfl,_⟩|⟨g,cap,rest,rfl,_,o,_⟩
 .simp[Value.ownBlock]at f
 .simp[Value.ownBlock]at f;subst f;exact r.ne o (Ne.symm a)
def Bo.one{w:Ad}{B T s n:Y}{v:Ah}{xs:Bm}(h:Bo w B T s v n xs):v.oneCell'=Af:=by
 rcases h.2 with⟨rfl,_⟩|⟨g,cap,rest,rfl,_⟩<;>rfl
def Bo.blkT{w:Ad}{B T s n:Y}{v:Ah}{xs:Bm}(h:Bo w B T s v n xs):∀k,v.ownBlock=J k->B<=k/\∃l,Bk w k T l:=by
 intro k a;rcases h.2 with⟨rfl,_⟩|⟨g,cap,rest,rfl,m,f,_⟩
 .simp[Value.ownBlock]at a
 .simp[Value.ownBlock]at a;grind
section
variable{P:AD}{R:AE->Ad->Prop}{ops:Ap AG}{rest:Ae AG}{k:Ae KI}{n:Y}{σ:BH}{w:Ad}{x y lo hi':AF}{t t' e ty T:Ay}{pos:AJ}{after:Ap Edge}{gd:Aw (Y×Ar)}{d:Y}{v z:Ah}{bs B len cap i j g:Y}{l xs:Bm}{kk k2:AK}{s:Bh}
def qu(m:BK ops σ gd=J Af)(o:BL d n=Af)(ht:P.underlying t=J (.slice e))(hi:TI P e z 1 bs)(hx:ev σ x=J v)(hl:ev σ hi'=J (.int kk (j:H)))(a:Bo w B e 1 v len xs)(h:j<=len)
 (f:∀v',Bo w B e 1 v' j (xs.take j)->v'.ownBlock=v.ownBlock->OW P R ops rest k n ((d,v')::σ) w):OW P R ops (⟨J d,.slice t x Aa (J hi') Aa,ty,pos,after,gd⟩::rest) k n σ w:=by
 obtain⟨v',D,A,r⟩:=pB (P:=P) (n:=n) (ty:=ty) ht hi hx hl a h;exact OW.val m o D (f _ A r)
def WY{A:Aw AC}(r:BK ops σ gd=J Af)(D:BL d n=Af)(ht:P.underlying t=J (.slice e))(hi:TI P e z 1 bs)(hx:ev σ x=J (.slice A len cap))(hl:ev σ lo=J (.int kk (i:H)))(o:ev σ hi'=J (.int k2 (j:H)))(h:i<=j/\j<=len/\len<=cap)(f:Sl w B A xs)(a:Ajb xs=len)
 (m:∀A',Sl w B A' ((xs.drop i).take (j-i))->OW P R ops rest k n ((d,.slice A' (j-i) (cap-i))::σ) w):OW P R ops (⟨J d,.slice t x (J lo) (J hi') Aa,ty,pos,after,gd⟩::rest) k n σ w:=by
 obtain⟨A',G,E⟩:=pD (P:=P) (n:=n) (ty:=ty) ht hi hx hl o h f a;exact OW.val r D G (m _ E)
def qn{G ki:AK}{m o:Y}(L:BK ops σ gd=J Af)(N:BL d n=Af)(ht:P.underlying t=J (.slice e))(hk:P.underlying t'=J (.int G))(hi:TI P e z 1 bs)(r:z.oneCell'=Af)
 (hx:ev σ x=J v) (I:ev σ y=J (.int ki (m:H))) (f:Bo w 0 e 1 v o xs) (hm:0<m)
 (D:o+m<=maxLen) (a:(o+m)*bs<=140737488355328)
 (h:∀v' w',Bo w' 0 e 1 v' (o+m) (xs++BJ m z)->w.grownBy w' v.ownBlock->(v'.ownBlock=v.ownBlock∨v'.ownBlock=J w.heap.size)->OW P R ops rest k n ((d,v')::σ) w'):
 OW P R ops (⟨J d,.call { callee:=.builtin .append,args:=#[x,y],argTypes:=#[t,t'] },ty,pos,after,gd⟩::rest) k n σ w:=by
 obtain⟨v',w',K,W,V,S⟩:=mH (P:=P) (w:=w) (ty:=ty) (ki:=ki) 0 t' hk ht hi r f D a X hm;refine OW.val L N (v:=v') (w':=w') ?_ Bg;intro A E Q pos after gd;simp[execOp,resolve,invoke,builtin,Sem.run_bind,Sem.run_pure,Result.andThen_ok,GC,Co,Ep,E.ev hx,E.ev I,K]
def qq(N:BK ops σ gd=J Af)(Q:BL d n=Af)(ht:P.underlying t=J (.slice e))(a:P.underlying t'=J .string)(hi:TI P e z 1 bs)(hx:ev σ x=J (.slice (J ⟨g,i,Aa⟩) len cap))(G:ev σ y=J (Bl s))(I:Ajb s<=len)(S:Bk w g T l)(hl:i+Ajb s<=Ajb l)
 (L:∀w',Bk w' g T (l.take i++BI s++l.drop (i+Ajb s))->Mo w w' [g]->OW P R ops rest k n ((d,.int .i64 (Ajb s:H))::σ) w'):
 OW P R ops (⟨J d,.call { callee:=.builtin .copy,args:=#[x,y],argTypes:=#[t,t'] },ty,pos,after,gd⟩::rest) k n σ w:=by
 obtain⟨w',K,D,r⟩:=Ri P w g i T (BI s) 0 l w S (by simpa[BI]using hl) Ut;have f:=(Src.Agy (w:=w) a s).cells;have m:=(Src.Agy (w:=w) a s).len;refine OW.val N Q ?_ (L _ (by simpa[BI]using D) (Mo.grown r Bi));intro A E V pos after gd;have h:Nat.min (Ajb s) len=Ajb s:=Hb I;have o:=Fz (w:=w) hi;simp[execOp,resolve,invoke,builtin,Sem.run_bind,Sem.run_pure,Result.andThen_ok,GC,Co,Ep,E.ev hx,E.ev G];simp[Builtin.copy_,run_underlying ht,m,o,h,f,K,goInt]
end
def Tm(w w':Ad)(B:Y)(p:Ay->Ar):Prop:=∃S,Mo w w' S/\∀k∈S,B<=k/\∃T l,Bk w k T l/\p T=Af
section
variable{w w' w'':Ad}{B C:Y}{p q:Ay->Ar}{b:Y}{T:Ay}{l:Bm}
def Tm.refl(w:Ad)(B:Y)(p:Ay->Ar):Tm w w B p:=⟨[],Mo.refl _ _,Bi⟩
def Tm.Agk(h:Bf w w')(B:Y)(p:Ay->Ar):Tm w w' B p:=⟨[],Mo.Agk h _,Bi⟩
def Tm.mono(h:Tm w w' B p)(a:∀T,p T=Af->q T=Af):Tm w w' B q:=by
 obtain⟨S,f,o⟩:=h;exact⟨S,f,fun k m=>let ⟨h1,T,l,h2,h3⟩:=o k m;⟨h1,T,l,h2,a T h3⟩⟩
def Tm.size(h:Tm w w' B p):w.heap.size<=w'.heap.size:=by obtain⟨_,a,_⟩:=h;exact a.size
def Tm.trans(h:Tm w w' B p)(k:Tm w' w'' B p):Tm w w'' B p:=by
 obtain⟨S,r,I⟩:=h;obtain⟨S',f,o⟩:=k;refine⟨S++S'.filter (fun k=>decide (k<w.heap.size)),?_,fun k a=>?_⟩
 .refine((r.mono (S':=S++S') Bg).trans (f.mono Bg)).fresh fun k a m=>?_;grind
 .by_cases G:k∈S
  .grind
  .rcases Dx.1 a with a|a
   .grind
   .obtain⟨a,m⟩:=Kk.1 a;obtain⟨E,T,l,D,A⟩:=o k a;exact⟨E,T,l,D.of_block (r.block k Bg G).symm,A⟩
def Tm.bk(h:Tm w w' B p)(a:Bk w b T l)(D:p T=Aj):Bk w' b T l:=by
 obtain⟨S,f,o⟩:=h;refine a.mo f fun m=>?_;obtain⟨_,T',A,r,E⟩:=o b m;obtain⟨rfl,_⟩:=a.det r;grind
def Tm.own{s n:Y}{v:Ah}{xs:Bm}(h:Tm w w' B p)(f:Bo w C T s v n xs)(I:p T=Aj):Bo w' C T s v n xs:=by
 obtain⟨S,m,r⟩:=h;refine f.mo m fun k o a=>?_;obtain⟨_,T',G,D,K⟩:=r k a;obtain⟨_,E,A⟩:=f.blkT k o;obtain⟨rfl,_⟩:=A.det D;grind
def Tm.below{a:Ad}(m:Below C a w)(h:Tm w w' B p)(o:C<=w.heap.size)(A:C<=B):Below C a w':=by
 obtain⟨S,f,r⟩:=h;exact Bu m f o Bg
def Tm.set(hb:Bk w b T l)(hm:Mo w w' [b])(hB:B<=b):Tm w w' B (fun j8=>j8==T):=⟨[b],hm,Bg⟩
def Tm.grown{s n:Y}{v:Ah}{xs:Bm}(ho:Bo w B T s v n xs)(hg:w.grownBy w' v.ownBlock):Tm w w' B (fun j8=>j8==T):=⟨v.ownBlock.toList,Mo.grown hg Bi,fun k hk=>by
 obtain⟨h1,l,h2⟩:=ho.blkT k Bg;grind⟩
def Tm.Agt{s n:Y}{v:Ah}{xs:Bm}(ho:Bo w B T s v n xs)(hm:Mo w w' v.ownBlock.toList):Tm w w' B (fun j8=>j8==T):=⟨v.ownBlock.toList,hm,fun k hk=>by
 obtain⟨h1,l,h2⟩:=ho.blkT k Bg;grind⟩
def Bo.base{s n:Y}{v:Ah}{xs:Bm}(h:Bo w C T s v n xs)(a:∀k,v.ownBlock=J k->B<=k):Bo w B T s v n xs:=by
 refine⟨h.1,?_⟩;rcases h.2 with f|⟨g,cap,rest,rfl,_,r⟩
 .grind
 .exact .inr ⟨g,_,_,Z,a g Z,r⟩
end
def GW(P:AD)(R:AE->Ad->Prop)(ops:Ap AG)(S:Ad->Prop)(fuel:Y)(listed:Ap Ar)(k:Ae KI)(n:Y)(σ:BH)(w:Ad):Prop:=
 ∀a,Fr n σ a->wpAnyH P .any ops (DP P R k) S fuel listed a w
section
variable{P:AD}{R:AE->Ad->Prop}{ops:Ap AG}{S:Ad->Prop}{fuel:Y}{listed:Ap Ar}{k:Ae KI}{n:Y}{σ:BH}{w w':Ad}
def SR{c:Ae PanicEntry}:∀(k:Ae KI) (a:AE) (w:Ad),DP P R k (.panic c) a w->False
 |[],_,_,h=>h
 |.code _::k,a,w,h=>SR k a w h
 |.blk _::k,a,w,h=>SR k a w h
 |.asr _::k,a,w,h=>SR k a w h
def PY{id N:Y}{l:Ae AG}(S:Ad->Prop)(hm:P.follows .mixedOrders=Af)(e:l.toArray.size=N)(h:GW P R l.toArray S N (JX N Aj) k n σ w.drew):KW P R (.code (.region id l.toArray Af)::k) n σ w:=fun a d=>by
 subst e;exact wp_region_held hm (h a d)
def GW.val(i:Y){d:Y}{op:Op}{ty:Ay}{e:AJ}{after:Ap Edge}{g:Aw (Y×Ar)}{v:Ah}(hi:ops[i]? =J ⟨J d,op,ty,e,after,g⟩)(l:Region.noSelect ops=Af)(hf:Region.free .any ops listed i=Af)(m:(Region.ready .any ops listed).contains i=Af)
 (p:BK ops σ g=J Af) (r:BL d n=Af) (t:S w) (he:∀w',S w'->EX P n σ op ty w' v w')
 (h:GW P R ops S fuel (listed.setIfInBounds i Af) k n ((d,v)::σ) w):GW P R ops S (fuel+1) listed k n σ w:=fun a j=>
 wpAnyH_take hi l hf m (fun c a w q=>(SR k _ _ q).elim) (.inl ⟨IF j (o:=⟨J d,op,ty,e,after,g⟩) p,fun w' f=>he w' f a j _ _ _ _⟩) t (h _ (j.put r v))
def pJ(i:Y){d:Y}{op:Op}{ty:Ay}{e:AJ}{after:Ap Edge}{g:Aw (Y×Ar)}(hi:ops[i]? =J ⟨J d,op,ty,e,after,g⟩)(j:Region.noSelect ops=Af)(hf:Region.free .any ops listed i=Af)(l:(Region.ready .any ops listed).contains i=Af)
 (m:BK ops σ g=J Aj) (p:BL d n=Af) (r:S w)
 (h:GW P R ops S fuel (listed.setIfInBounds i Af) k n ((d,undef)::σ) w):GW P R ops S (fuel+1) listed k n σ w:=fun a f=>
 wpAnyH_take hi j hf l (fun c a w q=>(SR k _ _ q).elim) (.inr ⟨IF f (o:=⟨J d,op,ty,e,after,g⟩) m,Z⟩) r (h _ (f.put p undef))
def Wt(i:Y){o:AG}(hi:ops[i]? =J o)(e:Region.ready .any ops listed=[i])(f:BK ops σ o.guard=J Af)
 (h:∀a,Fr n σ a->o.wp P a w (fun a' w'=>S w'/\wpAnyH P .any ops (DP P R k) S fuel (listed.setIfInBounds i Af) a' w') (DP P R k)):GW P R ops S (fuel+1) listed k n σ w:=fun a g=>
 wpAnyH_all e Bi fun j d=>by
  simp at d;subst d;unfold wpOp;simp[hi,IF g f,if_true];grind
def cY(i:Y){d:Y}{op:Op}{ty:Ay}{pos:AJ}{after:Ap Edge}{g:Aw (Y×Ar)}{f:FuncId}{args:Bm}{Q:Ah->Ad->Prop}(hi:ops[i]? =J ⟨J d,op,ty,pos,after,g⟩)(hr:Region.ready .any ops listed=[i])
 (hg:BK ops σ g=J Af) (hd:BL d n=Af) (he:EC P n σ op ty w f args.toArray) (hc:Bn P f args w Q)
 (h:∀v w',Q v w'->S w'/\(S w'->GW P R ops S fuel (listed.setIfInBounds i Af) k n ((d,v)::σ) w')):GW P R ops S (fuel+1) listed k n σ w:=
 Wt i hi hr hg fun a ha=>by
  have h1:=he a ha (J d) pos after g;unfold Oper.wp;rw[h1];refine hc.2.mono fun e w''⟨v,he,q⟩=>?_;subst he;obtain⟨h2,h3⟩:=h v w'' q;exact⟨h2,h3 h2 _ (ha.put hd v)⟩
def GW.call(i:Y){d:Y}{f:FuncId}{xs:Ae AF}{e:Ap Ay}{ty:Ay}{a:AJ}{after:Ap Edge}{g:Aw (Y×Ar)}{vs:Bm}{Q:Ah->Ad->Prop}
 (hi:ops[i]? =J ⟨J d,.call { callee:=.value (.func f),args:=xs.toArray,argTypes:=e },ty,a,after,g⟩) (l:Region.ready .any ops listed=[i])
 (m:BK ops σ g=J Af) (o:BL d n=Af) (hx:evs σ xs=J vs) (j:Bn P f vs w Q)
 (h:∀v w',Q v w'->S w'/\(S w'->GW P R ops S fuel (listed.setIfInBounds i Af) k n ((d,v)::σ) w')):GW P R ops S (fuel+1) listed k n σ w:=by
 obtain⟨⟨r,q,p⟩,_⟩:=id j;exact cY i hi l m o (RD q p hx) j h
def GW.new(i:Y){d:Y}{op:Op}{ty:Ay}{pos:AJ}{after:Ap Edge}{g:Aw (Y×Ar)}{v:Ah}(hi:ops[i]? =J ⟨J d,op,ty,pos,after,g⟩)(hr:Region.ready .any ops listed=[i])
 (hg:BK ops σ g=J Af) (hd:BL d n=Af) (he:EX P n σ op ty w v w') (h:S w'/\(S w'->GW P R ops S fuel (listed.setIfInBounds i Af) k n ((d,v)::σ) w')):GW P R ops S (fuel+1) listed k n σ w:=
 Wt i hi hr hg fun a ha=>by
  have h1:=he a ha (J d) pos after g;unfold Oper.wp;rw[h1];exact⟨h.1,h.2 h.1 _ (ha.put hd v)⟩
def cZ(i:Y){op:Op}{ty:Ay}{pos:AJ}{after:Ap Edge}{g:Aw (Y×Ar)}(hi:ops[i]? =J ⟨Aa,op,ty,pos,after,g⟩)(hr:Region.ready .any ops listed=[i])
 (hg:BK ops σ g=J Af) (he:EU P n σ op ty w w') (h:S w'/\(S w'->GW P R ops S fuel (listed.setIfInBounds i Af) k n σ w')):GW P R ops S (fuel+1) listed k n σ w:=
 Wt i hi hr hg fun a ha=>by
  have h1:=he a ha Aa pos after g;unfold Oper.wp;rw[h1];exact⟨h.1,h.2 h.1 _ ha⟩
def dc(i:Y){x y:AF}{T T' ty:Ay}{pos:AJ}{after:Ap Edge}{g:Aw (Y×Ar)}{b o bs:Y}{v z:Ah}{l:Bm}(hi:ops[i]? =J ⟨Aa,.store T x y,ty,pos,after,g⟩)(hr:Region.ready .any ops listed=[i])
 (hg:BK ops σ g=J Af) (ht:TI P T z 1 bs) (hx:ev σ x=J (.pointer (J ⟨b,o,Aa⟩))) (hy:ev σ y=J v) (h1:v.oneCell'=Af) (hb:Bk w b T' l) (hlt:o<Ajb l)
 (h:∀w',Bk w' b T' (l.set o v)->Mo w w' [b]->S w'/\(S w'->GW P R ops S fuel (listed.setIfInBounds i Af) k n σ w')):GW P R ops S (fuel+1) listed k n σ w:=
 cZ i hi hr hg (RF ht hx hy h1 hb hlt) (h _ (hb.set o v) (Mo.set w b o v))
def pK(i:Y){x y:AF}{T f ty:Ay}{a:AJ}{after:Ap Edge}{g:Aw (Y×Ar)}{b o s bs:Y}{z:Ah}{l vs:Bm}(hi:ops[i]? =J ⟨Aa,.store T x y,ty,a,after,g⟩)(p:Region.ready .any ops listed=[i])
 (q:BK ops σ g=J Af) (ht:TI P T z s bs) (hx:ev σ x=J (.pointer (J ⟨b,o,Aa⟩))) (j:ev σ y=J (.agg vs.toArray)) (m:Ajb vs=s) (h1:vs.all (·.oneCell')=Af) (t:Bk w b f l) (hlt:o+Ajb vs<=Ajb l)
 (h:∀w',Bk w' b f (l.take o++vs++l.drop (o+Ajb vs))->Mo w w' [b]->S w'/\(S w'->GW P R ops S fuel (listed.setIfInBounds i Af) k n σ w')):GW P R ops S (fuel+1) listed k n σ w:=by
 obtain⟨w',r,e,d⟩:=Tv (P:=P) (n:=n) (ty:=ty) ht hx j m h1 t hlt;exact cZ i hi p q r (h _ e (Mo.grown d Bi))
def GO(P:AD)(R:AE->Ad->Prop)(ops:Ap AG)(S:Ad->Prop)(fuel:Y)(listed:Ap Ar)(k:Ae KI)(n:Y)(σ:BH)(w:Ad)(i:Y):Prop:=
 ∀a,Fr n σ a->wpOp P ops (DP P R k) i (fun a' w'=>S w'/\wpAnyH P .any ops (DP P R k) S fuel (listed.setIfInBounds i Af) a' w') a w
def GW.two(i j:Y)(f:Region.ready .any ops listed=[i,j])(h1:GO P R ops S fuel listed k n σ w i)(g:GO P R ops S fuel listed k n σ w j):GW P R ops S (fuel+1) listed k n σ w:=fun a e=>
 wpAnyH_all f Bi fun q d=>by
  simp at d;rcases d with rfl|rfl
  .exact h1 a e
  .exact g a e
def oO{S':Ad->Prop}{Q:AP->AE->Ad->Prop}(hS:∀w,S' w->S w):∀(fuel:Y) (listed:Ap Ar) (a:AE) (w:Ad),wpAnyH P .any ops Q S' fuel listed a w->wpAnyH P .any ops Q S fuel listed a w
 |0,_,_,_,h=>h
 |fuel+1,_,_,_,h=>⟨h.1,fun i hi=>wpOp_mono (fun a' w' h'=>⟨hS _ h'.1,oO hS fuel _ a' w' h'.2⟩) (h.2 i hi)⟩
def Ju(S':Ad->Prop)(e:∀w,S' w->S w)(h:GW P R ops S' fuel listed k n σ w):GW P R ops S fuel listed k n σ w:=fun a d=>oO e fuel listed a w (h a d)
def GW.as(t:Y)(d:Ah){v:Ah}(ht:lk σ t=J v)(e:v=d)(h:GW P R ops S fuel listed k n ((t,d)::σ) w):GW P R ops S fuel listed k n σ w:=fun a f=>
 OW.as (P:=P) (R:=R) (ops:=#[]) (l:=[]) (k:=[.asr fun a w=>wpAnyH P .any ops (DP P R k) S fuel listed a w]) t d ht e Ce a f
def Wq(i:Y){o:AG}(hi:ops[i]? =J o)(d:BK ops σ o.guard=J Af)
 (h:∀a,Fr n σ a->o.wp P a w (fun a' w'=>S w'/\wpAnyH P .any ops (DP P R k) S fuel (listed.setIfInBounds i Af) a' w') (DP P R k)):GO P R ops S fuel listed k n σ w i:=fun a e=>by
 unfold wpOp;simp[hi,IF e d,if_true];grind
def pH(i:Y){d:Y}{op:Op}{ty:Ay}{pos:AJ}{after:Ap Edge}{g:Aw (Y×Ar)}{f:FuncId}{args:Bm}{Q:Ah->Ad->Prop}(hi:ops[i]? =J ⟨J d,op,ty,pos,after,g⟩)
 (hg:BK ops σ g=J Af) (hd:BL d n=Af) (he:EC P n σ op ty w f args.toArray) (hc:Bn P f args w Q)
 (h:∀v w',Q v w'->S w'/\(S w'->GW P R ops S fuel (listed.setIfInBounds i Af) k n ((d,v)::σ) w')):GO P R ops S fuel listed k n σ w i:=
 Wq i hi hg fun a ha=>by
  have h1:=he a ha (J d) pos after g;unfold Oper.wp;rw[h1];refine hc.2.mono fun e w''⟨v,he,q⟩=>?_;subst he;obtain⟨h2,h3⟩:=h v w'' q;exact⟨h2,h3 h2 _ (ha.put hd v)⟩
def GO.call(i:Y){d:Y}{f:FuncId}{xs:Ae AF}{e:Ap Ay}{ty:Ay}{a:AJ}{after:Ap Edge}{g:Aw (Y×Ar)}{vs:Bm}{Q:Ah->Ad->Prop}
 (hi:ops[i]? =J ⟨J d,.call { callee:=.value (.func f),args:=xs.toArray,argTypes:=e },ty,a,after,g⟩)
 (l:BK ops σ g=J Af) (m:BL d n=Af) (hx:evs σ xs=J vs) (j:Bn P f vs w Q)
 (h:∀v w',Q v w'->S w'/\(S w'->GW P R ops S fuel (listed.setIfInBounds i Af) k n ((d,v)::σ) w')):GO P R ops S fuel listed k n σ w i:=by
 obtain⟨⟨q,p,o⟩,_⟩:=id j;exact pH i hi l m (RD p o hx) j h
def GO.new(i:Y){d:Y}{op:Op}{ty:Ay}{pos:AJ}{after:Ap Edge}{g:Aw (Y×Ar)}{v:Ah}(hi:ops[i]? =J ⟨J d,op,ty,pos,after,g⟩)
 (hg:BK ops σ g=J Af) (hd:BL d n=Af) (he:EX P n σ op ty w v w') (h:S w'/\(S w'->GW P R ops S fuel (listed.setIfInBounds i Af) k n ((d,v)::σ) w')):GO P R ops S fuel listed k n σ w i:=
 Wq i hi hg fun a ha=>by
  have h1:=he a ha (J d) pos after g;unfold Oper.wp;rw[h1];exact⟨h.1,h.2 h.1 _ (ha.put hd v)⟩
def pI(i:Y){op:Op}{ty:Ay}{pos:AJ}{after:Ap Edge}{g:Aw (Y×Ar)}(hi:ops[i]? =J ⟨Aa,op,ty,pos,after,g⟩)
 (hg:BK ops σ g=J Af) (he:EU P n σ op ty w w') (h:S w'/\(S w'->GW P R ops S fuel (listed.setIfInBounds i Af) k n σ w')):GO P R ops S fuel listed k n σ w i:=
 Wq i hi hg fun a ha=>by
  have h1:=he a ha Aa pos after g;unfold Oper.wp;rw[h1];exact⟨h.1,h.2 h.1 _ ha⟩
def cW(i:Y){x y:AF}{T T' ty:Ay}{pos:AJ}{after:Ap Edge}{g:Aw (Y×Ar)}{b o bs:Y}{v z:Ah}{l:Bm}(hi:ops[i]? =J ⟨Aa,.store T x y,ty,pos,after,g⟩)
 (hg:BK ops σ g=J Af) (ht:TI P T z 1 bs) (hx:ev σ x=J (.pointer (J ⟨b,o,Aa⟩))) (hy:ev σ y=J v) (h1:v.oneCell'=Af) (hb:Bk w b T' l) (hlt:o<Ajb l)
 (h:∀w',Bk w' b T' (l.set o v)->Mo w w' [b]->S w'/\(S w'->GW P R ops S fuel (listed.setIfInBounds i Af) k n σ w')):GO P R ops S fuel listed k n σ w i:=
 pI i hi hg (RF ht hx hy h1 hb hlt) (h _ (hb.set o v) (Mo.set w b o v))
def cX(i:Y){d:Y}{T ty:Ay}{pos:AJ}{after:Ap Edge}{g:Aw (Y×Ar)}{z:Ah}{s bs:Y}{l:Bm}(hi:ops[i]? =J ⟨J d,.alloc T,ty,pos,after,g⟩)(hr:Region.ready .any ops listed=[i])(hg:BK ops σ g=J Af)(hd:BL d n=Af)(ht:TI P T z s bs)(hl:z.cells.toList=l)
 (h:∀b w',w.heap.size<=b->Bk w' b T l->Bf w w'->S w'/\(S w'->GW P R ops S fuel (listed.setIfInBounds i Af) k n ((d,.pointer (J ⟨b,0,Aa⟩))::σ) w')):GW P R ops S (fuel+1) listed k n σ w:=
 GW.new i hi hr hg hd (EX.alloc ht hl) (h _ _ X (Bk.new w T l) (Bf.alloc w _))
def PU(i:Y)(len:Y){d:Y}{T e ty:Ay}{pos:AJ}{after:Ap Edge}{g:Aw (Y×Ar)}{z:Ah}{bs:Y}{BO:Ap (Y×AF)}{vs:Bm}(hi:ops[i]? =J ⟨J d,.buildSlice T len BO,ty,pos,after,g⟩)(hr:Region.ready .any ops listed=[i])(hg:BK ops σ g=J Af)(hd:BL d n=Af)(ht:P.underlying T=J (.slice e))(hti:TI P e z 1 bs)(hz1:z.oneCell'=Af)
 (hv:evs σ (BO.toList.map (·.2))=J vs) (hp:BO.toList.map (·.1)=Ha 0 (Ajb BO.toList)) (hl:Ajb vs=len) (h1:vs.all (·.oneCell')=Af) (hlen:len<=16777216)
 (h:∀b w',w.heap.size<=b->Bk w' b e vs->Bf w w'->S w'/\(S w'->GW P R ops S fuel (listed.setIfInBounds i Af) k n ((d,.slice (J ⟨b,0,Aa⟩) len len)::σ) w')):GW P R ops S (fuel+1) listed k n σ w:=
 GW.new i hi hr hg hd (EX.buildSlice len ht hti hz1 hv hp hl h1 hlen) (h _ _ X (Bk.new w e vs) (Bf.alloc w _))
def cV(i:Y){d:Y}{T ty:Ay}{pos:AJ}{after:Ap Edge}{g:Aw (Y×Ar)}{z:Ah}{s bs:Y}{l:Bm}(hi:ops[i]? =J ⟨J d,.alloc T,ty,pos,after,g⟩)(hg:BK ops σ g=J Af)(hd:BL d n=Af)(ht:TI P T z s bs)(hl:z.cells.toList=l)
 (h:∀b w',w.heap.size<=b->Bk w' b T l->Bf w w'->S w'/\(S w'->GW P R ops S fuel (listed.setIfInBounds i Af) k n ((d,.pointer (J ⟨b,0,Aa⟩))::σ) w')):GO P R ops S fuel listed k n σ w i:=
 GO.new i hi hg hd (EX.alloc ht hl) (h _ _ X (Bk.new w T l) (Bf.alloc w _))
def Jt(i:Y)(len:Y){d:Y}{T e ty:Ay}{pos:AJ}{after:Ap Edge}{g:Aw (Y×Ar)}{z:Ah}{bs:Y}{BO:Ap (Y×AF)}{vs:Bm}(hi:ops[i]? =J ⟨J d,.buildSlice T len BO,ty,pos,after,g⟩)(hg:BK ops σ g=J Af)(hd:BL d n=Af)(ht:P.underlying T=J (.slice e))(hti:TI P e z 1 bs)(hz1:z.oneCell'=Af)
 (hv:evs σ (BO.toList.map (·.2))=J vs) (hp:BO.toList.map (·.1)=Ha 0 (Ajb BO.toList)) (hl:Ajb vs=len) (h1:vs.all (·.oneCell')=Af) (hlen:len<=16777216)
 (h:∀b w',w.heap.size<=b->Bk w' b e vs->Bf w w'->S w'/\(S w'->GW P R ops S fuel (listed.setIfInBounds i Af) k n ((d,.slice (J ⟨b,0,Aa⟩) len len)::σ) w')):GO P R ops S fuel listed k n σ w i:=
 GO.new i hi hg hd (EX.buildSlice len ht hti hz1 hv hp hl h1 hlen) (h _ _ X (Bk.new w e vs) (Bf.alloc w _))
def GW.done(d:Region.ready .any ops listed=[])(h:KW P R k n σ w):GW P R ops S fuel listed k n σ w:=fun a e=>wpAnyH_done d (h a e) fuel
end
section
variable{P:AD}{n:Y}{σ:BH}{w:Ad}{x y:AF}{t e ty T T':Ay}{b o:Y}{z v:Ah}{s bs:Y}{l:Bm}
def Oa{fs:Ap Field}{BO:Ap (Y×AF)}{pl:Ae (Y×Y)}{ks:Bj}{vs zs:Bm}(i:P.underlying t=J (.struct fs))(hi:TI P t (.agg zs.toArray) s bs)(j:places P fs.toList=J pl)
 (hk:BO.toList.map (·.1)=ks) (hv:evs σ (BO.toList.map (·.2))=J vs) (hf:Instr.fill (pl.toArray[·]?) zs.toArray (ks.zip vs)=J l.toArray):
 EX P n σ (.build t BO) ty w (.agg l.toArray) w:=fun A q r pos after g=>by
 have h:=q.evs hv
 have a:(BO.map fun p=>(p.1,A.eval p.2)).toList=ks.zip vs:=by
  rw[<-hk,<-h];simp only[Array.toList_map,EO,List.zip_map'];rfl
 have m:(fs.mapM fun f=>(do pure (f.offset,<-sizeOf f.type):Sem (Y×Y))).run P w=.ok pl.toArray w:=by
  have:=aD (w:=w) _ _ j;rw[List.mapM_toArray,map_eq_pure_bind,Sem.run_bind,this];rfl
 simp only[execOp,Instr.build,Sem.run_bind,NN hi,Result.andThen_ok,run_underlying i,m];rw[show(BO.map _).toList=ks.zip _ from a];rw[show((Value.agg _).cells)=zs.toArray from Z,hf];rfl
inductive FEqs(P:AD)(w:Ad)(xs ys:Bm):Ae Field->Ae Ar->Prop
 |nil:FEqs P w xs ys [] []
 |cons {f:Field} {fs:Ae Field} {q:Ar} {qs:Ae Ar} {u v:Ah} {d:TypeDesc} (hn:f.name≠ "_") (hd:P.underlying f.type=J d) (hfl:flat d=Af) (hx:xs[f.offset]? =J u) (hy:ys[f.offset]? =J v)
  (he:∀k,(Op.equalIn (k+1) f.type u v).run P w=.ok q w) (hr:FEqs P w xs ys fs qs):FEqs P w xs ys (f::fs) (q::qs)
def FEqs.run{xs a:Bm}(k:Y):∀{fs:Ae Field} {qs:Ae Ar},FEqs P w xs a fs qs->(Op.eqFields (k+1) xs.toArray a.toArray fs).run P w=.ok (qs.all id) w
 |_,_,.nil=>by rfl
 |f::fs,q::qs,.cons (u:=u) (v:=v) hn hd hfl hx hy he hr=>by
  have h1:(part f.type xs.toArray f.offset).run P w=.ok u w:=by simp[part,MG hd,hfl,hx]
  have g:(part f.type a.toArray f.offset).run P w=.ok v w:=by simp[part,MG hd,hfl,hy]
  have h:=FEqs.run k hr;simp only[Op.eqFields];rw[Ai hn];simp only[Sem.run_bind,h1,g,he,Result.andThen_ok];cases q
  .simp
  .grind
def Lw{k:AK}{a b:H}(h:P.underlying t=J (.int k))(d:Y):(Op.equalIn (d+1) t (.int k a) (.int k b)).run P w=.ok (decide (a=b)) w:=run_equalIn_int w d t k k a b h
def QF{a b:Bh}(h:P.underlying t=J .string)(d:Y):(Op.equalIn (d+1) t (Bl a) (Bl b)).run P w=.ok (decide (a=b)) w:=by
 have:=run_equalIn_string w d t ⟨⟨a⟩⟩ ⟨⟨b⟩⟩ h;have e:(RC ⟨⟨a⟩⟩==RC ⟨⟨b⟩⟩)=decide (a=b):=by rw[RA];simp
 grind
def Tx{fs:Ap Field}{xs a:Bm}{f:Ae Ar}{r:Ar}(i:P.underlying t=J (.struct fs))(m:P.stoodInHeld t=Aj)(hm:P.eqGuardType P.depth t=Aj)(hx:ev σ x=J (.agg xs.toArray))(g:ev σ y=J (.agg a.toArray))
 (h:FEqs P w xs a fs.toList f) (j:f.all id=r):EX P n σ (.binOp .eql t x y T) ty w (.bool r) w:=by
 subst j;have p:P.fieldsOf t=fs:=by unfold Program.fieldsOf;rw[i]
 refine FY hx g (run_eqGuard_agg w _ t x y _ _ hm) ?_;rw[run_eql_struct,show(10000)=9998+1+1 from Z,run_equalIn_agg w _ t _ _ Bg m,p,h.run];rfl
end
section
variable{P:AD}{fn:Func}{Q:Ah->Ad->Prop}{n:Y}{σ:BH}{w:Ad}{k:Ae KI}
def retC2{t u:Y}{T T':Ay}{b s bs:Y}{z x:Ah}{d:TypeDesc}{l:Bm}(g:fn.results=#[.cell t T,.tmp u])(f:P.underlying T=J d)(j:flat d=Aj)(hi:TI P T z s bs)(hv:lk σ t=J (.pointer (J ⟨b,0,Aa⟩)))(hx:lk σ u=J x)
 (m:Bk w b T' l) (hl:Ajb l=s) (i:Q (.tuple #[.agg l.toArray,x]) w):∀a,Fr n σ a->bodyPost P fn (fun e w'=>∃v,e=.returned v/\Q v w') .ret a w:=
 ME (fun a ha=>by
  have h:=Jp (x:=.tmp t) (ty:=0) f j hi hv m hl a ha Aa "" #[] Aa
  have h1:(loadVar T ⟨b,0,Aa⟩).run P w=.ok (.agg l.toArray) w:=by
   have A:=ha.ev (x:=.tmp t) hv;simp[execOp,Instr.loadAt,Instr.sureAddr,Sem.run_pure]at h;cases hr:(loadVar T _).run P w with
   |ok v w'=>simp_all
   |halt q w'=>simp_all
  rw[results_cell_tmp g];have r:=ha.val t _ hv;have p:=ha.val u _ hx;simp[r,p,asAddr,h1]) i
end
def gU:∀(vs:Bm) (i:Y) (pre post:Bm),Ajb pre=i->Ajb post=Ajb vs->
 (vs.zipIdx i).foldl (fun(cs:Ap Ah) (x:Ah×Y)=>cs.setIfInBounds (0+x.2) x.1) (pre++post).toArray=(pre++vs).toArray
 |[],i,pre,post,_,h=>by
  simp_all
 |v::vs,i,pre,[],_,h=>by grind
 |v::vs,i,pre,p::post,hp,h=>by
  have ih:=gU vs (i+1) (pre++[v]) post Bg Bg;simp_all
section
variable{P:AD}{n:Y}{σ:BH}{w w0:Ad}{x y:AF}{t e ty ty1:Ay}{s bs:Y}{R:AE->Ad->Prop}{ops:Ap AG}{rest:Ae AG}{k:Ae KI}{pos pos1:AJ}{after after1:Ap Edge}{gd gd1:Aw (Y×Ar)}{d d1:Y}
def Wk{z:Ah}{vs:Bm}(ht:P.underlying t=J (.slice e))(hi:TI P e z s bs)(r:z.cells.size=s)(C:0<s)(L:s<=16777216)(B:ev σ y=J (.agg vs.toArray))(hl:Ajb vs=s):
 EX P n σ (.buildSlice t 1 #[(0,y)]) ty w (.slice (J ⟨w.heap.size,0,Aa⟩) 1 1) (w.alloc (.cells vs.toArray e)):=fun A I K pos after g=>by
 have m:=I.ev B;have E:¬(1*s>2 ^ 24):=X;have h:¬(1*s=0):=X;generalize a:((Array.range (1*s)).map fun j=>z.cells[j%z.cells.size]!)=zz;have f:zz.size=s:=by rw[<-a];simp
 have G:Instr.fill (fun i=>J (i*s,s)) zz [(0,.agg vs.toArray)]=J vs.toArray:=by
  obtain⟨q⟩:=zz;have p:=by simpa using f
  have S:=gU vs 0 [] q Z X;simp only[Instr.fill,Value.cells,List.size_toArray];simp only[RB,decide_eq_true_eq];grind
 simp only[execOp,Sem.run_bind]
 have N:(Instr.buildSlice t 1 (#[(0,y)].map fun x=>(x.1,A.eval x.2))).run P w=.ok (.slice (J ⟨w.heap.size,0,Aa⟩) 1 1) (w.alloc (.cells vs.toArray e)):=by
  have D:(#[(0,y)].map fun x=>(x.1,A.eval x.2))=#[(0,Value.agg vs.toArray)]:=by simp[m]
  rw[D];simp only[Instr.buildSlice,Sem.run_bind,run_underlying ht,Fz hi,Result.andThen_ok,Ag E,Ag h,Sem.run_pure,NN hi,a,G];simp[newRow,Sem.run]
 simp_all
def qw{z:Ah}(B:BK ops σ gd1=J Af)(C:BL d1 n=Af)(L:∀u,BK ops ((d1,u)::σ) gd=J Af)(N:BL d n=Af)(ht:P.underlying t=J (.slice e))(hi:TI P e z s bs)(g:z.cells.size=s)(f:0<s)(I:s<=16777216)
 {v:Ah} {vs:Bm} {l:Y} {xs:Bm} (G:ev σ y=J (.agg vs.toArray)) (hl:Ajb vs=s) (hx:∀q,ev ((d1,q)::σ) x=J v) (W:vs.all (·.oneCell')=Af) (m:Bf w0 w) (i:Bo w w0.heap.size e s v l xs)
 (D:l+1<=maxLen) (a:(l+1)*bs<=140737488355328)
 (h:∀q v' w',Bo w' w0.heap.size e s v' (l+1) (xs++vs)->Bf w0 w'->w.grownBy w' v.ownBlock->OW P R ops rest k n ((d,v')::(d1,q)::σ) w'):
 OW P R ops (⟨J d1,.buildSlice t 1 #[(0,y)],ty1,pos1,after1,gd1⟩::⟨J d,.call { callee:=.builtin .append,args:=#[x,.tmp d1],argTypes:=#[t,t] },ty,pos,after,gd⟩::rest) k n σ w:=by
 refine OW.val B C (Wk ht hi g f I G hl) ?_;have r:Bf _ (w.alloc (.cells vs.toArray e)):=m.trans (Bf.alloc w _);have E:=Bk.new w e vs;refine HL (L _) N ht hi g f (hx _) (Pd _ _ _) r (i.alloc _) (Src.Agn ht (Sl.Agl E E.lt) X Bg f) D a ?_;intro v' w' V S p h4;refine h _ _ _ V S ⟨p.os,p.tape,p.output,by have:=p.size;simp_all;omega,fun j K A=>?_⟩;rw[p.block j Bx A];exact Below.heap_alloc w _ j K
end
def SD{α:Type}{cells:α->Bm}{c:Y}(hc:∀a,Ajb (cells a)=c):∀(l:Ae α) (i j:Y) (hi:i<Ajb l) (u:Ah),(cells l[i])[j]? =J u->(l.flatMap cells)[i*c+j]? =J u
 |a::l,0,j,hi,u,hu=>by
  grind
 |a::l,i+1,j,hi,u,hu=>by
  rw[FZ,Ii Bg,hc,show(i+1)*c+j-c=i*c+j by grind];exact SD hc l i j _ u hu
def Sl.flat{α:Type}{cells:α->Bm}{c:Y}{w:Ad}{B:Y}{A:Aw AC}{l:Ae α}(h:Sl w B A (l.flatMap cells))(p:∀a,Ajb (cells a)=c)(h0:0<c){i:Y}(hi:i<Ajb l):
 ∃b o,A=J ⟨b,o,Aa⟩/\b<B/\∀j u,(cells l[i])[j]? =J u->w.cell? ⟨b,o+i*c+j,Aa⟩=J u:=by
 have m:0<Ajb (cells l[i]):=by rwa[p]
 have r:0<Ajb (l.flatMap cells):=by
  have:=(Ki.1 (SD p l i 0 hi _ (BR m))).1;omega
 obtain⟨b,o,e,v,f⟩:=h.at_ r;exact⟨b,o,e,v,fun j u q=>by rw[Kq];exact f _ _ (SD p l i j _ u q)⟩
def gR(off:Y):∀(vs:Bm) (k:Y) (pre post:Bm),Ajb pre=off+k->Ajb vs<=Ajb post->
 (vs.zipIdx k).foldl (fun(cs:Ap Ah) (x:Ah×Y)=>cs.setIfInBounds (off+x.2) x.1) (pre++post).toArray=(pre++vs++post.drop (Ajb vs)).toArray
 |[],k,pre,post,_,_=>by simp
 |v::vs,k,pre,p::post,hp,h=>by
  have ih:=gR off vs (k+1) (pre++[v]) post Bg Bg;simp_all
 |v::vs,k,pre,[],hp,h=>by grind
def gB(s:Y):∀(vss:Ae (Bm)) (i:Y) (pre post:Bm),Ajb pre=i*s->(∀v∈vss,Ajb v=s)->Ajb post=Ajb vss*s->
 Instr.fill (fun i=>J (i*s,s)) (pre++post).toArray ((vss.zipIdx i).map fun(v,j)=>(j,Value.agg v.toArray))=J (pre++vss.flatten).toArray
 |[],i,pre,post,hp,_,hl=>by
  have:post=[]:=Ih Bg;subst this;rfl
 |v::vss,i,pre,post,hp,h1,hl=>by
  have hv:=h1 v Bi;have hl':Ajb post=Ajb vss*s+s:=by rw[hl,Cz,Qj]
  have a:=gB s vss (i+1) (pre++v) (post.drop s) Bg Bg Bg;have f:=gR (i*s) v 0 _ post X X;simp only[WO,Co,Instr.fill,Value.cells,List.size_toArray];grind
section
variable{P:AD}{n:Y}{σ:BH}{w w0:Ad}{x y:AF}{t e ty T:Ay}{s bs:Y}{R:AE->Ad->Prop}{ops:Ap AG}{rest:Ae AG}{k:Ae KI}{pos:AJ}{after:Ap Edge}{g:Aw (Y×Ar)}{d fuel:Y}{S:Ad->Prop}{listed:Ap Ar}
def Tw{z:Ah}{BO:Ap (Y×AF)}(len:Y)(a:Ae (Bm))(ht:P.underlying t=J (.slice e))(hi:TI P e z s bs)(C:z.cells.size=s)(E:0<s)
 (hv:evs σ (BO.toList.map (·.2))=J (a.map fun v=>Value.agg v.toArray)) (G:BO.toList.map (·.1)=Ha 0 (Ajb BO.toList)) (hl:Ajb a=len) (h1:∀v∈a,Ajb v=s) (o:len*s<=16777216):
 EX P n σ (.buildSlice t len BO) ty w (.slice (J ⟨w.heap.size,0,Aa⟩) len len) (w.alloc (.cells a.flatten.toArray e)):=fun A K N pos after g=>by
 have m:(BO.map fun(p:Y×AF)=>(p.1,A.eval p.2)).toList=a.zipIdx.map fun(v,j)=>(j,Value.agg v.toArray):=by
  have L:=K.evs hv;apply GZ;intro j;have e1:=Av (·[j]?) L;have e2:=Av (·[j]?) G;by_cases V:j<Ajb a
  .grind
  .grind
 have I:¬(len*s>2 ^ 24):=X;generalize i:((Array.range (len*s)).map fun j=>z.cells[j%z.cells.size]!)=zz;have D:zz.size=len*s:=by rw[<-i];simp
 obtain⟨B⟩:=zz;have q:=gB s _ 0 [] B Bi h1 Bg;simp at q;simp only[execOp,Sem.run_bind]
 have W:(Instr.buildSlice t len (BO.map fun p=>(p.1,A.eval p.2))).run P w=.ok (.slice (J ⟨w.heap.size,0,Aa⟩) len len) (w.alloc (.cells a.flatten.toArray e)):=by
  simp only[Instr.buildSlice,Sem.run_bind,run_underlying ht,Fz hi,Result.andThen_ok,Ag I,m];by_cases r:len*s=0
  .have f:len=0:=by
    rcases Nat.mul_eq_zero.1 r with h|h
    .omega
    .omega
   subst f;have l:a=[]:=Bg;subst l;simp[Instr.fill,newRow,Array.range_zero']
  .rw[Ag r];simp[NN hi,i,q];rfl
 simp_all
def Mb{z:Ah}{BO:Ap (Y×AF)}(len:Y)(vss:Ae (Bm))(hg:BK ops σ g=J Af)(hd:BL d n=Af)(ht:P.underlying T=J (.slice e))(hi:TI P e z s bs)(hzs:z.cells.size=s)(hs0:0<s)
 (hv:evs σ (BO.toList.map (·.2))=J (vss.map fun v=>Value.agg v.toArray)) (hp:BO.toList.map (·.1)=Ha 0 (Ajb BO.toList)) (hl:Ajb vss=len) (h1:∀v∈vss,Ajb v=s) (hlen:len*s<=16777216)
 (h:∀b w',w.heap.size<=b->Bk w' b e vss.flatten->Bf w w'->OW P R ops rest k n ((d,.slice (J ⟨b,0,Aa⟩) len len)::σ) w'):OW P R ops (⟨J d,.buildSlice T len BO,ty,pos,after,g⟩::rest) k n σ w:=
 OW.val hg hd (Tw len vss ht hi hzs hs0 hv hp hl h1 hlen) (h _ _ X (Bk.new w e _) (Bf.alloc w _))
def GB(i:Y){z:Ah}{BO:Ap (Y×AF)}(len:Y)(vss:Ae (Bm))(hi':ops[i]? =J ⟨J d,.buildSlice T len BO,ty,pos,after,g⟩)(hr:Region.ready .any ops listed=[i])(hg:BK ops σ g=J Af)(hd:BL d n=Af)(ht:P.underlying T=J (.slice e))(hi:TI P e z s bs)(hzs:z.cells.size=s)(hs0:0<s)
 (hv:evs σ (BO.toList.map (·.2))=J (vss.map fun v=>Value.agg v.toArray)) (hp:BO.toList.map (·.1)=Ha 0 (Ajb BO.toList)) (hl:Ajb vss=len) (h1:∀v∈vss,Ajb v=s) (hlen:len*s<=16777216)
 (h:∀b w',w.heap.size<=b->Bk w' b e vss.flatten->Bf w w'->S w'/\(S w'->GW P R ops S fuel (listed.setIfInBounds i Af) k n ((d,.slice (J ⟨b,0,Aa⟩) len len)::σ) w')):GW P R ops S (fuel+1) listed k n σ w:=
 GW.new i hi' hr hg hd (Tw len vss ht hi hzs hs0 hv hp hl h1 hlen) (h _ _ X (Bk.new w e _) (Bf.alloc w _))
def TC(i:Y){z:Ah}{BO:Ap (Y×AF)}(len:Y)(vss:Ae (Bm))(hi':ops[i]? =J ⟨J d,.buildSlice T len BO,ty,pos,after,g⟩)(hg:BK ops σ g=J Af)(hd:BL d n=Af)(ht:P.underlying T=J (.slice e))(hi:TI P e z s bs)(hzs:z.cells.size=s)(hs0:0<s)
 (hv:evs σ (BO.toList.map (·.2))=J (vss.map fun v=>Value.agg v.toArray)) (hp:BO.toList.map (·.1)=Ha 0 (Ajb BO.toList)) (hl:Ajb vss=len) (h1:∀v∈vss,Ajb v=s) (hlen:len*s<=16777216)
 (h:∀b w',w.heap.size<=b->Bk w' b e vss.flatten->Bf w w'->S w'/\(S w'->GW P R ops S fuel (listed.setIfInBounds i Af) k n ((d,.slice (J ⟨b,0,Aa⟩) len len)::σ) w')):GO P R ops S fuel listed k n σ w i:=
 GO.new i hi' hg hd (Tw len vss ht hi hzs hs0 hv hp hl h1 hlen) (h _ _ X (Bk.new w e _) (Bf.alloc w _))
end
section
variable{P:AD}{fn:Func}{Q:Ah->Ad->Prop}{n:Y}{σ:BH}{w:Ad}
def retC1{t:Y}{T r:Ay}{b s bs:Y}{z:Ah}{d:TypeDesc}{l:Bm}(i:fn.results=#[.cell t T])(f:P.underlying T=J d)(m:flat d=Aj)(hi:TI P T z s bs)(hv:lk σ t=J (.pointer (J ⟨b,0,Aa⟩)))
 (o:Bk w b r l) (hl:Ajb l=s) (j:Q (.agg l.toArray) w):∀a,Fr n σ a->bodyPost P fn (fun e w'=>∃v,e=.returned v/\Q v w') .ret a w:=
 ME (fun a ha=>by
  have h:=Jp (x:=.tmp t) (ty:=0) f m hi hv o hl a ha Aa "" #[] Aa
  have h1:(loadVar T ⟨b,0,Aa⟩).run P w=.ok (.agg l.toArray) w:=by
   have A:=ha.ev (x:=.tmp t) hv;simp[execOp,Instr.loadAt,Instr.sureAddr,Sem.run_pure]at h;cases hr:(loadVar T _).run P w with
   |ok v w'=>simp_all
   |halt q w'=>simp_all
  have p:=ha.val t _ hv;simp only[results,i];simp[p,asAddr,h1]) j
end
section
variable{P:AD}{n:Y}{σ:BH}{w:Ad}{x y:AF}{t e ty T T':Ay}{b o:Y}{z v:Ah}{s bs:Y}{l:Bm}
def oV{m:Y}{BO:Ap (Y×AF)}{ks:Bj}{vs zs:Bm}{a h:Y}{j:Ah}(r:P.underlying t=J (.array m e))(hi:TI P t (.agg zs.toArray) s bs)(he:TI P e j a h)
 (hk:BO.toList.map (·.1)=ks) (hv:evs σ (BO.toList.map (·.2))=J vs) (hf:Instr.fill (fun i=>J (i*a,a)) zs.toArray (ks.zip vs)=J l.toArray):
 EX P n σ (.build t BO) ty w (.agg l.toArray) w:=fun A B C q after g=>by
 have f:=B.evs hv
 have d:(BO.map fun p=>(p.1,A.eval p.2)).toList=ks.zip vs:=by
  rw[<-hk,<-f];simp only[Array.toList_map,EO,List.zip_map'];rfl
 simp only[execOp,Instr.build,Sem.run_bind,NN hi,Result.andThen_ok,run_underlying r,Fz he];rw[show(BO.map _).toList=ks.zip _ from d];rw[show((Value.agg _).cells)=zs.toArray from Z,hf];rfl
def fillL(pl:Ae (Y×Y)):Bm->Ae (Y×Bm)->Bm
 |zs,[]=>zs
 |zs,(i,cs)::r=>fillL pl (zs.take (pl.getD i (0,0)).1++(cs++zs.drop ((pl.getD i (0,0)).1+Ajb cs))) r
def UN(pl:Ae (Y×Y))(n:Y):Ae (Y×Y)->Ar
 |[]=>Af
 |(i,c)::r=>BL i (Ajb pl) && (pl.getD i (0,0)).2==c && Nat.ble ((pl.getD i (0,0)).1+c) n && UN pl n r
def gS(off:Y):∀(vs:Bm) (k:Y) (zs:Bm),off+k+Ajb vs<=Ajb zs->
 (vs.zipIdx k).foldl (fun(cs:Ap Ah) (x:Ah×Y)=>cs.setIfInBounds (off+x.2) x.1) zs.toArray=(zs.take (off+k)++(vs++zs.drop (off+k+Ajb vs))).toArray
 |[],k,zs,_=>by simp
 |v::vs,k,zs,h=>by
  have hlt:off+k<Ajb zs:=by simp at h;omega
  have a:zs.toArray.setIfInBounds (off+k) v=(zs.set (off+k) v).toArray:=Bi;simp only[WO,Kh,a];rw[gS _ _ _ _ Bg];congr 1
  have f:(zs.set (off+k) v).take (off+(k+1))=zs.take (off+k)++[v]:=by
   rw[show off+(k+1)=off+k+1 by omega,LY,List.getElem?_set_self hlt,List.take_set_of_le X];rfl
  have d:(zs.set (off+k) v).drop (off+(k+1)+Ajb vs)=zs.drop (off+k+Ajb (v::vs)):=by
   rw[List.drop_set_of_lt X];congr 1;simp;omega
  grind
def gA{pl:Ae (Y×Y)}:∀(ks:Bj) (vs:Bm) (css:Ae (Bm)) (zs:Bm),vs.map (fun v=>v.cells.toList)=css->UN pl (Ajb zs) (ks.zip (css.map DZ))=Af->Ajb ks=Ajb vs->
 Instr.fill (pl.toArray[·]?) zs.toArray (ks.zip vs)=J (fillL pl zs (ks.zip css)).toArray
 |[],[],css,zs,hc,_,_=>by rfl
 |k::ks,v::vs,css,zs,hc,hf,hl=>by
  subst hc;simp only[Co,WP,UN,Bool.and_eq_true,beq_iff_eq,Nat.blt_eq,Nat.ble_eq]at hf;obtain⟨⟨⟨f1,f2⟩,f3⟩,f4⟩:=hf;have hg:pl.toArray[k]? =J (pl.getD k (0,0)):=by simp[f1]
  simp only[WP,Co,Instr.fill,hg,fillL];generalize pl.getD k _=q at f2 f3;obtain⟨a,size⟩:=q;have f:Ajb v.cells.toList=v.cells.size:=Bi;have i:¬(v.cells.size≠size∨a+v.cells.size>zs.toArray.size):=Bx;simp only[ne_eq,RB,decide_eq_true_eq];rw[Ag X]
  have d:v.cells.zipIdx.foldl (fun g x=>g.setIfInBounds (a+x.2) x.1) zs.toArray=(zs.take a++(v.cells.toList++zs.drop (a+Ajb v.cells.toList))).toArray:=by
   rw[<-Array.foldl_toList,Array.toList_zipIdx];exact gS _ _ 0 _ X
  rw[d];refine gA _ _ _ _ Z ?_ Bg;grind
 |[],_::_,_,_,_,_,h=>by simp at h
 |_::_,[],_,_,_,_,h=>by simp at h
def oW{fs:Ap Field}{BO:Ap (Y×AF)}{pl:Ae (Y×Y)}{ks:Bj}{vs zs:Bm}{css:Ae (Bm)}(hu:P.underlying t=J (.struct fs))(hi:TI P t (.agg zs.toArray) s bs)(hp:places P fs.toList=J pl)
 (hk:BO.toList.map (·.1)=ks) (hv:evs σ (BO.toList.map (·.2))=J vs) (hc:vs.map (fun v=>v.cells.toList)=css) (hf:UN pl (Ajb zs) (ks.zip (css.map DZ))=Af) (hn:Ajb ks=Ajb vs) (hl:fillL pl zs (ks.zip css)=l):
 EX P n σ (.build t BO) ty w (.agg l.toArray) w:=
 Oa hu hi hp hk hv (by rw[gA _ _ _ _ hc hf hn,hl])
end
section
variable{P:AD}{R:AE->Ad->Prop}{k:Ae KI}{n:Y}{σ:BH}{w:Ad}
def Vu{l:Y}:∀(k:Ae KI) (a:AE) (w:Ad),DP P R k (.goto l) a w->False
 |[],_,_,h=>h
 |.code _::k,a,w,h=>Vu k a w h
 |.blk _::k,a,w,h=>Vu k a w h
 |.asr _::k,a,w,h=>Vu k a w h
def KW.scope{c:AM}(h:KW P R (.code c::k) n σ w):KW P R (.code (.scope c)::k) n σ w:=fun a i=>by
 refine wp_scope_straight ?_;intro b g j;obtain⟨e,p,m,d,f⟩:=h a i b g j;refine⟨e,_,_,?_,f⟩;cases e with
 |goto l=>exact Vu k _ _ d
 |normal=>exact d
 |exit id=>exact d
 |ret=>exact d
 |panic ch=>exact d
 |outgrown=>exact d
end
section
variable{P:AD}{R:AE->Ad->Prop}{ops:Ap AG}{rest:Ae AG}{k:Ae KI}{n:Y}{σ:BH}{w:Ad}{x y:AF}{t e ty ty1:Ay}{pos pos1:AJ}{after after1:Ap Edge}{gd gd1:Aw (Y×Ar)}{d d1:Y}{s bs B:Y}
def cR{k:AK}{a b:H}{t':Ay}(hx:ev σ x=J (.int k a))(hy:ev σ y=J (.int k b))(h:b≠0):EX P n σ (.binOp .rem t x y t') ty w (.int k (a.tmod b)) w:=
 EV hx hy (by
  unfold binOp;simp only[ne_eq,not_true_eq_false,if_false,Op.intDiv,Ag h];rfl)
def Mo.append{w w1 w':Ad}{row:Aw Y}(hx:Bf w w1)(h:w1.grownBy w' row):Mo w w' row.toList:=
 (Mo.Agk hx _).trans (Mo.grown h Bi)
def Tm.fresh{w a w2:Ad}{B:Y}{p:Ay->Ar}{S:Bj}(h:Tm w a B p)(hm:Mo a w2 S)(i:∀k∈S,w.heap.size<=k):Tm w w2 B p:=by
 obtain⟨S0,g,f⟩:=h;refine⟨_,Mo.fresh (S:=S0++S) ((g.mono Bg).trans (hm.mono Bg)) ?_,f⟩;grind
def qy(B:Y){z:Ah}(o:BK ops σ gd1=J Af)(p:BL d1 n=Af)(E:∀u,BK ops ((d1,u)::σ) gd=J Af)(G:BL d n=Af)(ht:P.underlying t=J (.slice e))(hi:TI P e z s bs)(i:z.cells.size=s)(f:0<s)(D:s<=16777216)
 {v:Ah} {vs:Bm} {l:Y} {xs:Bm} (C:ev σ y=J (.agg vs.toArray)) (hl:Ajb vs=s) (hx:∀q,ev ((d1,q)::σ) x=J v) (Q:vs.all (·.oneCell')=Af) (I:B<=w.heap.size) (j:Bo w B e s v l xs)
 (r:l+1<=maxLen) (a:(l+1)*bs<=140737488355328)
 (h:∀q v' w',Bo w' B e s v' (l+1) (xs++vs)->Mo w w' v.ownBlock.toList->(v'.ownBlock=v.ownBlock∨∃g,v'.ownBlock=J g/\w.heap.size<=g)->OW P R ops rest k n ((d,v')::(d1,q)::σ) w'):
 OW P R ops (⟨J d1,.buildSlice t 1 #[(0,y)],ty1,pos1,after1,gd1⟩::⟨J d,.call { callee:=.builtin .append,args:=#[x,.tmp d1],argTypes:=#[t,t] },ty,pos,after,gd⟩::rest) k n σ w:=by
 refine OW.val o p (Wk ht hi i f D C hl) ?_;have m:Bf w (w.alloc (.cells vs.toArray e)):=Bf.alloc w _;have A:=Bk.new w e vs;refine OW.append B (E _) G ht hi i f (hx _) (Pd _ _ _) (j.alloc _) (Src.Agn ht (Sl.Agl A A.lt) X Bg f) r a (BC I Bi) ?_;intro v' w' N L K;exact h _ _ _ N (Mo.append m L) (K.imp id fun e=>⟨_,e,Bi⟩)
def qv(B:Y){z:Ah}(m:BK ops σ gd1=J Af)(o:BL d1 n=Af)(C:∀u,BK ops ((d1,u)::σ) gd=J Af)(D:BL d n=Af)(ht:P.underlying t=J (.slice e))(hi:TI P e z 1 bs)(f:z.oneCell'=Af)
 {v u:Ah} {l:Y} {xs:Bm} (A:ev σ y=J u) (hx:∀q,ev ((d1,q)::σ) x=J v) (L:u.oneCell'=Af) (E:B<=w.heap.size) (i:Bo w B e 1 v l xs)
 (p:l+1<=maxLen) (a:(l+1)*bs<=140737488355328)
 (h:∀q v' w',Bo w' B e 1 v' (l+1) (xs++[u])->Mo w w' v.ownBlock.toList->(v'.ownBlock=v.ownBlock∨∃g,v'.ownBlock=J g/\w.heap.size<=g)->OW P R ops rest k n ((d,v')::(d1,q)::σ) w'):
 OW P R ops (⟨J d1,.buildSlice t 1 #[(0,y)],ty1,pos1,after1,gd1⟩::⟨J d,.call { callee:=.builtin .append,args:=#[x,.tmp d1],argTypes:=#[t,t] },ty,pos,after,gd⟩::rest) k n σ w:=by
 refine OW.val m o (EX.buildSlice (vs:=[u]) 1 ht hi f (by simp[evs,A]) Z Z Bg Bc) ?_;have j:Bf w (w.alloc (.cells [u].toArray e)):=Bf.alloc w _;have r:=Bk.new w e [u];refine OW.append B (C _) D ht hi (LF f▸Z) Bc (hx _) (Pd _ _ _) (i.alloc _) (Src.Agn ht (Sl.Agl r r.lt) Z Bg Bc) p a (BC E Bi) ?_;intro v' w' K I G;exact h _ _ _ K (Mo.append j I) (G.imp id fun e=>⟨_,e,Bi⟩)
end
section
variable{P:AD}{R:AE->Ad->Prop}{ops:Ap AG}{S:Ad->Prop}{fuel:Y}{listed:Ap Ar}{k:Ae KI}{n:Y}{σ:BH}{w:Ad}{x y:AF}{t t' e ty:Ay}{pos:AJ}{after:Ap Edge}{gd:Aw (Y×Ar)}{d:Y}
def GW.append(i B:Y){z:Ah}{s bs:Y}(C:ops[i]? =J ⟨J d,.call { callee:=.builtin .append,args:=#[x,y],argTypes:=#[t,t'] },ty,pos,after,gd⟩)(K:Region.ready .any ops listed=[i])
 (L:BK ops σ gd=J Af) (N:BL d n=Af) (ht:P.underlying t=J (.slice e)) (hi:TI P e z s bs) (q:z.cells.size=s) (r:0<s)
 {v E:Ah} {m l:Y} {xs f:Bm} (hx:ev σ x=J v) (I:ev σ y=J E) (p:Bo w B e s v l xs) (j:Src P s t' E m f w)
 (D:l+m<=maxLen) (a:(l+m)*bs<=140737488355328) (Q:B<=w.heap.size)
 (h:∀v' w',Bo w' B e s v' (l+m) (xs++f)->w.grownBy w' v.ownBlock->(v'.ownBlock=v.ownBlock∨v'.ownBlock=J w.heap.size)->S w'/\(S w'->GW P R ops S fuel (listed.setIfInBounds i Af) k n ((d,v')::σ) w')):GW P R ops S (fuel+1) listed k n σ w:=by
 obtain⟨v',w',o,h2,W,V⟩:=VD (P:=P) B t t' ty e ht hi q r p j D a Q;refine GW.new i C K L N (v:=v') (w':=w') ?_ Bg;intro A G T pos after g;simp[execOp,resolve,invoke,builtin,Sem.run_bind,Sem.run_pure,Result.andThen_ok,GC,Co,Ep,G.ev hx,G.ev I,o]
end
section
variable{P:AD}{n:Y}{σ:BH}{w:Ad}{x y:AF}{ty:Ay}
def EX.maxN{k:AK}{a b:Y}{d:Ap Ay}(hx:ev σ x=J (.int k (a:H)))(h:ev σ y=J (.int k (b:H))):EX P n σ (.call { callee:=.builtin .max,args:=#[x,y],argTypes:=d }) ty w (.int k ((max a b:Y):H)) w:=fun A e i f after g=>by
 simp[execOp,resolve,invoke,builtin,Sem.run_bind,Sem.run_pure,Result.andThen_ok,GC,Co,Ep,e.ev hx,e.ev h];have:(if(b:H)>a then(b:H)else a)=((max a b:Y)):=by split<;>omega
 simp only[Builtin.max_,Builtin.max2,List.foldlM,Sem.run_bind,Sem.run_pure,Result.andThen_ok,this]
def cJ{k:AK}{a b:H}{d:Ap Ay}(hx:ev σ x=J (.int k a))(h:ev σ y=J (.int k b)):EX P n σ (.call { callee:=.builtin .max,args:=#[x,y],argTypes:=d }) ty w (.int k (max a b)) w:=fun A e i f after g=>by
 simp[execOp,resolve,invoke,builtin,Sem.run_bind,Sem.run_pure,Result.andThen_ok,GC,Co,Ep,e.ev hx,e.ev h];have:(if b>a then b else a)=max a b:=by split<;>omega
 simp[Builtin.max_,Builtin.max2,List.foldlM,Sem.run_bind,Sem.run_pure,Result.andThen_ok,this]
def cC{t T:Ay}{p q:Ap Ay}{vd:Ar}{f:Fn}{fi ca:Ap Ah}(hu:P.underlying t=J (.func p q vd))(hx:ev σ x=J (.func f fi ca))(hy:ev σ y=J .nilFunc):EX P n σ (.binOp .eql t x y T) ty w (.bool Aj) w:=
 FY hx hy (by rfl) (Tc Z (fun d=>by simp[Op.equalIn,run_underlying hu,Sem.run_bind]))
def PT{k k':AK}{t t':Ay}{a s:Y}(hx:ev σ x=J (.int k (a:H)))(hy:ev σ y=J (.int k' (s:H)))(hs:s<=k.bits):EX P n σ (.binOp .shr t x y t') ty w (.int k ((a/2 ^ s:Y):H)) w:=II hx hy Z hs
def Oj{k k':AK}{t t':Ay}{a s m:Y}(hx:ev σ x=J (.int k (a:H)))(hy:ev σ y=J (.int k' (s:H)))(hs:s<=k.bits)(hm:_root_.Go.Proofs.YtkmlafmjaeeanaaGreatDoor.maxN k=m)(h:a*2 ^ s<=m):EX P n σ (.binOp .shl t x y t') ty w (.int k ((a*2 ^ s:Y):H)) w:=Ho hx hy Z hs hm h
end
section
variable{P:AD}{R:AE->Ad->Prop}{ops:Ap AG}{S:Ad->Prop}{fuel:Y}{listed:Ap Ar}{k:Ae KI}{n:Y}{σ:BH}{w:Ad}{x y:AF}{t t' e ty:Ay}{pos:AJ}{after:Ap Edge}{gd:Aw (Y×Ar)}{d:Y}
def GO.append(i B:Y){z:Ah}{s bs:Y}(C:ops[i]? =J ⟨J d,.call { callee:=.builtin .append,args:=#[x,y],argTypes:=#[t,t'] },ty,pos,after,gd⟩)
 (K:BK ops σ gd=J Af) (L:BL d n=Af) (ht:P.underlying t=J (.slice e)) (hi:TI P e z s bs) (q:z.cells.size=s) (r:0<s)
 {v E:Ah} {m l:Y} {xs f:Bm} (hx:ev σ x=J v) (I:ev σ y=J E) (p:Bo w B e s v l xs) (j:Src P s t' E m f w)
 (D:l+m<=maxLen) (a:(l+m)*bs<=140737488355328) (N:B<=w.heap.size)
 (h:∀v' w',Bo w' B e s v' (l+m) (xs++f)->w.grownBy w' v.ownBlock->(v'.ownBlock=v.ownBlock∨v'.ownBlock=J w.heap.size)->S w'/\(S w'->GW P R ops S fuel (listed.setIfInBounds i Af) k n ((d,v')::σ) w')):GO P R ops S fuel listed k n σ w i:=by
 obtain⟨v',w',o,V,T,Q⟩:=VD (P:=P) B t t' ty e ht hi q r p j D a N;refine GO.new i C K L (v:=v') (w':=w') ?_ (h v' w' V T Q);intro A G W pos after g;simp only[execOp,resolve,invoke,builtin,Sem.run_bind,Sem.run_pure,Result.andThen_ok,GC,Co,Ep,G.ev hx,G.ev I,o]
def GY(i:Y){f:FuncId}{c:AF}{xs:Ae AF}{a:Ap Ay}{vs j l args:Bm}{Q:Ah->Ad->Prop}
 (hi:ops[i]? =J ⟨J d,.call { callee:=.value c,args:=xs.toArray,argTypes:=a },ty,pos,after,gd⟩) (m:Region.ready .any ops listed=[i])
 (o:BK ops σ gd=J Af) (p:BL d n=Af) (ht:ev σ c=J (.func (.func f) j.toArray l.toArray)) (hx:evs σ xs=J vs) (he:j++vs++l=args) (g:Bn P f args w Q)
 (h:∀v w',Q v w'->S w'/\(S w'->GW P R ops S fuel (listed.setIfInBounds i Af) k n ((d,v)::σ) w')):GW P R ops S (fuel+1) listed k n σ w:=by
 obtain⟨⟨A,r,q⟩,_⟩:=id g;exact cY i hi m o p (EC.val r q ht hx he) g h
end
section
variable{P:AD}{n:Y}{σ:BH}{w:Ad}{x y:AF}{ty t e:Ay}{R:Ad->BH->Prop}
def pj{z:Ah}{bs len cap:Y}{l m:AK}(ht:P.underlying t=J (.slice e))(hi:TI P e z 1 bs)(a:z.oneCell'=Af)(hx:ev σ x=J (.int l (len:H)))(q:ev σ y=J (.int m (cap:H)))
 (B:len<=cap) (G:bs*cap<=281474976710656) (D:cap<=9223372036854775807):
 EX P n σ (.makeSlice t x y) ty w (.slice (J ⟨w.heap.size,0,Aa⟩) len cap) (w.alloc (.cells (BJ cap z).toArray e)):=fun A o E pos after g=>by
 obtain⟨i,v,p,r,rfl⟩:=hi.at
 have j:=by
  have h:((i.bytes*cap:Y):H)<=281474976710656:=X;rwa[Wv]at h
 have f:=run_make w t e i z ht v p l m len _ X X j X;simp[TD,r,IP,LF a]at f
 have C:madeCells #[z] cap=(BJ cap z).toArray:=by
  apply Array.ext';rw[toList_madeCells_one]
 rw[C]at f;simp only[execOp,o.ev hx,o.ev q,Sem.run_bind,f];rfl
end
section
variable{P:AD}{R:AE->Ad->Prop}{ops:Ap AG}{rest:Ae AG}{k:Ae KI}{n:Y}{σ:BH}{w:Ad}{x y t:AF}{T e ty:Ay}{pos:AJ}{after:Ap Edge}{gd:Aw (Y×Ar)}{d:Y}{z:Ah}{bs:Y}
def WX{len cap:Y}{i j:AK}(m:BK ops σ gd=J Af)(o:BL d n=Af)(ht:P.underlying T=J (.slice e))(hi:TI P e z 1 bs)(f:z.oneCell'=Af)(hx:ev σ x=J (.int i (len:H)))(l:ev σ y=J (.int j (cap:H)))
 (a:len<=cap) (p:bs*cap<=281474976710656) (g:cap<=maxLen)
 (h:∀v' w',Bo w' w.heap.size e 1 v' len (BJ len z)->Bf w w'->OW P R ops rest k n ((d,v')::σ) w'):
 OW P R ops (⟨J d,.makeSlice T x y,ty,pos,after,gd⟩::rest) k n σ w:=by
 refine OW.val m o (pj ht hi f hx l a p Ce) (h _ _ ⟨Bi,.inr ⟨_,_,BJ (cap-len) z,Z,X,?_,Bg,a,g⟩⟩ (Bf.alloc w _));have q:=Bk.new w e (BJ cap z);simp_all
end
section
variable{P:AD}{R:AE->Ad->Prop}{ops:Ap AG}{S:Ad->Prop}{fuel:Y}{listed:Ap Ar}{k:Ae KI}{n:Y}{σ:BH}{w:Ad}{x y:AF}{t t' e e' ty:Ay}{pos:AJ}{after:Ap Edge}{gd:Aw (Y×Ar)}{d:Y}{z:Ah}{bs:Y}
def Ws{B g len cap a f:Y}{A:Aw AC}{l vs:Bm}(j i:Y)(E:ops[j]? =J ⟨J d,.call { callee:=.builtin .copy,args:=#[x,y],argTypes:=#[t,t'] },ty,pos,after,gd⟩)(L:Region.ready .any ops listed=[j])
 (Q:BK ops σ gd=J Af) (V:BL d n=Af) (ht:P.underlying t=J (.slice e)) (r:P.underlying t'=J (.slice e')) (hi:TI P e z 1 bs) (hx:ev σ x=J (.slice (J ⟨g,i,Aa⟩) len cap)) (K:ev σ y=J (.slice A a f))
 (C:Sl w B A vs) (q:Ajb vs=min a len) (h1:∀u∈vs,u.oneCell'=Af) {T:Ay} (hb:Bk w g T l) (hl:i+Ajb vs<=Ajb l)
 (N:∀w',Bk w' g T (l.take i++vs++l.drop (i+Ajb vs))->Mo w w' [g]->S w'/\(S w'->GW P R ops S fuel (listed.setIfInBounds j Af) k n ((d,.int .i64 ((Ajb vs:Y):H))::σ) w')):GW P R ops S (fuel+1) listed k n σ w:=by
 obtain⟨w',D,W,G⟩:=Ri P w g i T vs 0 l w hb X h1;have o:=(Src.Agn (c:=f) r C (by rw[q,IP]) h1 Bi).cells;have h:(Builtin.firstCells 1 (Nat.min a len) (.slice A a f)).run P w=.ok vs.toArray w:=by cases A<;>exact o
 refine GW.new j E L Q V ?_ (N _ X (Mo.grown G Bi));intro A' I ab pos after gd;have v:=Fz (w:=w) hi;have p:(Builtin.lenOf (.slice A a f)).run P w=.ok _ w:=rfl;simp[execOp,resolve,invoke,builtin,Sem.run_bind,Sem.run_pure,Result.andThen_ok,GC,Co,Ep,I.ev hx,I.ev K];have m:(Ajb vs:H)=((Nat.min a len):H):=Bg;simp[Builtin.copy_,run_underlying ht,p,v,h,D,goInt,m]
def Kd(t:Y){p:Prop}[Decidable p](ht:lk σ t=J (.bool (decide p)))(h1:p->GW P R ops S fuel listed k n ((t,.bool Af)::σ) w)(f:¬p->GW P R ops S fuel listed k n ((t,.bool Aj)::σ) w):GW P R ops S fuel listed k n σ w:=by
 by_cases a:p
 .exact GW.as t _ ht Bg (h1 a)
 .exact GW.as t _ ht Bg (f a)
end
def BV:TI prog 3 (.int .i64 0) 1 8:=by unfold TI;kernel_rfl
def PD:TI prog 4 (.bool Aj) 1 1:=by unfold TI;kernel_rfl
def CE:TI prog 5 (.int .u8 0) 1 1:=by unfold TI;kernel_rfl
def Gz:TI prog 9 (Bl []) 1 16:=by unfold TI;kernel_rfl
def Rt:TI prog 23 (.slice Aa 0 0) 1 24:=by unfold TI;kernel_rfl
def bz:TI prog 26 (.pointer Aa) 1 8:=by unfold TI;kernel_rfl
def ti31:TI prog 31 (.slice Aa 0 0) 1 24:=by unfold TI;kernel_rfl
def ti33:TI prog 33 (.agg #[.slice Aa 0 0]) 1 24:=by unfold TI;kernel_rfl
def VS:TI prog 34 (.int .i64 0) 1 8:=by unfold TI;kernel_rfl
def ti36:TI prog 36 (.slice Aa 0 0) 1 24:=by unfold TI;kernel_rfl
def ti38:TI prog 38 (.agg #[.int .i64 0,.slice Aa 0 0]) 2 32:=by unfold TI;kernel_rfl
def ti40:TI prog 40 (.agg #[.int .i64 0,Bl [],Bl [],.int .i64 0,.slice Aa 0 0,.int .i64 0,.slice Aa 0 0]) 7 104:=by unfold TI;kernel_rfl
def GV:TI prog 51 (.slice Aa 0 0) 1 24:=by unfold TI;kernel_rfl
def ti56:TI prog 56 (.slice Aa 0 0) 1 24:=by unfold TI;kernel_rfl
def LM:TI prog 58 (.int .u32 0) 1 4:=by unfold TI;kernel_rfl
def Tp:TI prog 60 (.agg #[Bl [],.int .i64 0,.int .i64 0,.int .i64 0,.int .u32 0]) 5 48:=by unfold TI;kernel_rfl
def Hn:TI prog 64 (.agg #[Bl [],Bl []]) 2 32:=by unfold TI;kernel_rfl
def VT:TI prog 80 (.agg #[.pointer Aa,.int .i64 0,.int .i64 0,.slice Aa 0 0,.bool Aj]) 5 56:=by unfold TI;kernel_rfl
def ti82:TI prog 82 (.agg #[.pointer Aa,.int .i64 0,.int .i64 0,.slice Aa 0 0,.bool Aj]) 5 56:=by unfold TI;kernel_rfl
def ti83:TI prog 83 (.slice Aa 0 0) 1 24:=by unfold TI;kernel_rfl
def ti85:TI prog 85 (.agg #[.int .i64 0,.slice Aa 0 0,.slice Aa 0 0,.slice Aa 0 0,.int .i64 0,.slice Aa 0 0,.bool Aj,.int .i64 0]) 8 128:=by unfold TI;kernel_rfl
def ti93:TI prog 93 (.slice Aa 0 0) 1 24:=by unfold TI;kernel_rfl
def VU:TI prog 97 (.slice Aa 0 0) 1 24:=by unfold TI;kernel_rfl
def ti100:TI prog 100 (.pointer Aa) 1 8:=by unfold TI;kernel_rfl
def ti102:TI prog 102 (.agg #[.pointer Aa,.slice Aa 0 0]) 2 32:=by unfold TI;kernel_rfl
def MN:TI prog 116 (.agg #[.int .i64 0,Bl [],.int .i64 0,.int .i64 0,.int .i64 0,.int .u32 0]) 6 56:=by unfold TI;kernel_rfl
def LJ:TI prog 121 (.agg #[.int .i64 0,.int .i64 0]) 2 16:=by unfold TI;kernel_rfl
def bt:TI prog 137 (.nilFunc) 1 8:=by unfold TI;kernel_rfl
def LK:TI prog 139 (.agg #[.int .i64 0,.slice Aa 0 0,.bool Aj]) 3 40:=by unfold TI;kernel_rfl
def ti140:TI prog 140 (.agg #[.int .i64 0,.slice Aa 0 0,.bool Aj,.int .i64 0,.slice Aa 0 0,.bool Aj]) 6 80:=by unfold TI;kernel_rfl
def ti144:TI prog 144 (.agg #[.int .u8 0,.int .i64 0,.int .i64 0,Bl []]) 4 40:=by unfold TI;kernel_rfl
def ti164:TI prog 164 (.agg #[Bl [],Bl []]) 2 32:=by unfold TI;kernel_rfl
def ti165:TI prog 165 (.agg #[.int .i64 0,.int .i64 0]) 2 16:=by unfold TI;kernel_rfl
def ti167:TI prog 167 (.agg #[Bl [],.int .i64 0,.int .u8 0,.int .i64 0,.int .i64 0,Bl [],Bl [],Bl [],.int .i64 0,.int .i64 0]) 10 112:=by unfold TI;kernel_rfl
def nW:TI prog 174 (.agg #[Bl [],Bl []]) 2 32:=by unfold TI;kernel_rfl
def ti178:TI prog 178 (.agg (JX 256 (.int .u32 0))) 256 1024:=by unfold TI;kernel_rfl
def bu:TI prog 189 (.agg #[Bl [],Bl [],Bl [],Bl [],Bl []]) 5 80:=by unfold TI;kernel_rfl
def ti192:TI prog 192 (.agg #[Bl []]) 1 16:=by unfold TI;kernel_rfl
def bv:TI prog 194 (.agg #[Bl []]) 1 16:=by unfold TI;kernel_rfl
def nX:TI prog 196 (.nilFunc) 1 8:=by unfold TI;kernel_rfl
def nY:TI prog 210 (.slice Aa 0 0) 1 24:=by unfold TI;kernel_rfl
def PB:TI prog 211 (.int .u64 0) 1 8:=by unfold TI;kernel_rfl
def GU:TI prog 226 (.agg #[Bl [],.int .i64 0]) 2 24:=by unfold TI;kernel_rfl
def VR:TI prog 227 (.slice Aa 0 0) 1 24:=by unfold TI;kernel_rfl
def ti252:TI prog 252 (.agg #[Bl [],.bool Aj]) 2 24:=by unfold TI;kernel_rfl
def bw:TI prog 253 (.pointer Aa) 1 8:=by unfold TI;kernel_rfl
def nZ:TI prog 258 (.slice Aa 0 0) 1 24:=by unfold TI;kernel_rfl
def NS:TI prog 260 (.agg #[.slice Aa 0 0,.slice Aa 0 0]) 2 48:=by unfold TI;kernel_rfl
def ti280:TI prog 280 (.agg #[.slice Aa 0 0,.int .i64 0]) 2 32:=by unfold TI;kernel_rfl
def ti285:TI prog 285 (.int .u64 0) 1 8:=by unfold TI;kernel_rfl
def ti292:TI prog 292 (.nilFunc) 1 8:=by unfold TI;kernel_rfl
def ti294:TI prog 294 (.agg #[.nilFunc,.int .i64 0,.int .i64 0]) 3 24:=by unfold TI;kernel_rfl
def LL:TI prog 316 (.agg #[Bl [],.int .i64 0]) 2 24:=by unfold TI;kernel_rfl
def ti321:TI prog 321 (.agg (JX 256 (.bool Aj))) 256 256:=by unfold TI;kernel_rfl
def bA:TI prog 324 (.agg #[.int .u64 0,.int .u64 0,.int .u64 0,.int .u64 0,.int .u64 0,.int .u64 0,.int .u64 0,.int .u64 0,.int .u64 0,.int .u64 0,.int .u64 0,.int .u64 0,.int .u64 0,.int .u64 0,.int .u64 0,.int .u64 0]) 16 128:=by unfold TI;kernel_rfl
def og:TI prog 343 (.agg (JX 256 (.int .i64 0))) 256 2048:=by unfold TI;kernel_rfl
def ti345:TI prog 345 (.agg #[.nilFunc,.int .i64 0]) 2 16:=by unfold TI;kernel_rfl
def ti351:TI prog 351 (.agg #[.slice Aa 0 0,.int .i64 0]) 2 32:=by unfold TI;kernel_rfl
def To:TI prog 364 (.agg #[.slice Aa 0 0]) 1 24:=by unfold TI;kernel_rfl
def PC:TI prog 365 (.agg #[.int .i64 0,.int .i64 0,.int .i64 0,.int .i64 0,.int .i64 0,.int .i64 0,.int .i64 0,.int .i64 0,.int .i64 0,.int .i64 0,.int .i64 0,.int .i64 0,.int .i64 0,.int .i64 0,.int .i64 0,.int .i64 0,.int .i64 0,.int .i64 0,.int .i64 0,.int .i64 0,.int .i64 0,.int .i64 0]) 22 176:=by unfold TI;kernel_rfl
def oh:TI prog 367 (.agg #[.slice Aa 0 0,.slice Aa 0 0,.int .i64 0,.int .i64 0,.int .i64 0,.int .i64 0,.int .i64 0,.int .i64 0,.int .i64 0,.int .i64 0,.int .i64 0,.int .i64 0,.int .i64 0,.int .i64 0,.int .i64 0,.int .i64 0,.int .i64 0,.int .i64 0,.int .i64 0,.int .i64 0,.int .i64 0,.int .i64 0,.int .i64 0,.int .i64 0,.int .i64 0,.int .i64 0,.int .i64 0,.int .i64 0,.int .i64 0,.int .i64 0,.int .i64 0,.int .i64 0,.int .i64 0,.int .i64 0,.int .i64 0,.int .i64 0,.int .i64 0,.int .i64 0,.int .i64 0,.int .i64 0,.int .i64 0,.int .i64 0,.int .i64 0,.int .i64 0,.int .i64 0,.int .i64 0,.int .i64 0,.int .i64 0,.int .i64 0,.int .i64 0,.int .i64 0,.int .i64 0,.int .i64 0,.int .i64 0,.int .i64 0,.int .i64 0,.int .i64 0,.int .i64 0,.int .i64 0,.int .i64 0,.int .i64 0,.int .i64 0,.int .i64 0,.int .i64 0,.int .i64 0,.int .i64 0,.int .i64 0,.int .i64 0]) 68 576:=by unfold TI;kernel_rfl
def oi:TI prog 373 (.agg #[.int .i64 0,.int .i64 0,.int .i64 0,.int .i64 0]) 4 32:=by unfold TI;kernel_rfl
def ti376:TI prog 376 (.slice Aa 0 0) 1 24:=by unfold TI;kernel_rfl
def Ji:TI prog 378 (.agg #[.int .i64 0,.int .i64 0]) 2 16:=by unfold TI;kernel_rfl
inductive TB(α:Type) where
 |e
 |n (x:α) (l r:TB α)
def TB.get{α:Type}(f:α->Y):TB α->Y->Aw α
 |.e,_=>Aa
 |.n x l r,t=>bif Jw (f x) t then J x else bif BL t (f x)then l.get f t else r.get f t
def TB.ok{α:Type}{f:α->Y}{t:Y}{x:α}:∀{b:TB α},b.get f t=J x->f x=t
 |.e,h=>by cases h
 |.n y l r,h=>by
  unfold TB.get at h;rcases q:Jw (f y) t with _|_
  .rw[q]at h;rcases q2:BL t (f y)with _|_
   .rw[q2]at h;exact TB.ok (b:=r) h
   .rw[q2]at h;exact TB.ok (b:=l) h
  .rw[q]at h;cases h;exact Nat.eq_of_beq_eq_true q
noncomputable def uTab:TB {e:Y×TypeDesc//prog.underlying e.1=J e.2}:=(.n ⟨(189,_),underlying189⟩ (.n ⟨(85,_),underlying85⟩ (.n ⟨(33,_),underlying33⟩ (.n ⟨(20,_),underlying20⟩ (.n ⟨(4,_),underlying4⟩ (.n ⟨(2,_),underlying2⟩ (.n ⟨(0,_),underlying0⟩ .e .e) (.n ⟨(3,_),underlying3⟩ .e .e)) (.n ⟨(9,_),underlying9⟩ (.n ⟨(5,_),underlying5⟩ .e .e) .e)) (.n ⟨(26,_),underlying26⟩ (.n ⟨(22,_),underlying22⟩ (.n ⟨(21,_),underlying21⟩ .e .e) (.n ⟨(23,_),underlying23⟩ .e .e)) (.n ⟨(31,_),underlying31⟩ (.n ⟨(27,_),underlying27⟩ .e .e) .e))) (.n ⟨(58,_),underlying58⟩ (.n ⟨(40,_),underlying40⟩ (.n ⟨(36,_),underlying36⟩ (.n ⟨(34,_),underlying34⟩ .e .e) (.n ⟨(38,_),underlying38⟩ .e .e)) (.n ⟨(56,_),underlying56⟩ (.n ⟨(51,_),underlying51⟩ .e .e) .e)) (.n ⟨(80,_),underlying80⟩ (.n ⟨(64,_),underlying64⟩ (.n ⟨(60,_),underlying60⟩ .e .e) .e) (.n ⟨(83,_),underlying83⟩ (.n ⟨(82,_),underlying82⟩ .e .e) .e)))) (.n ⟨(139,_),underlying139⟩ (.n ⟨(106,_),underlying106⟩ (.n ⟨(100,_),underlying100⟩ (.n ⟨(93,_),underlying93⟩ (.n ⟨(90,_),underlying90⟩ .e .e) (.n ⟨(97,_),underlying97⟩ .e .e)) (.n ⟨(105,_),underlying105⟩ (.n ⟨(102,_),underlying102⟩ .e .e) .e)) (.n ⟨(121,_),underlying121⟩ (.n ⟨(118,_),underlying118⟩ (.n ⟨(116,_),underlying116⟩ .e .e) .e) (.n ⟨(137,_),underlying137⟩ (.n ⟨(133,_),underlying133⟩ .e .e) .e))) (.n ⟨(165,_),underlying165⟩ (.n ⟨(151,_),underlying151⟩ (.n ⟨(144,_),underlying144⟩ (.n ⟨(140,_),underlying140⟩ .e .e) (.n ⟨(149,_),underlying149⟩ .e .e)) (.n ⟨(164,_),underlying164⟩ (.n ⟨(157,_),underlying157⟩ .e .e) .e)) (.n ⟨(174,_),underlying174⟩ (.n ⟨(170,_),underlying170⟩ (.n ⟨(167,_),underlying167⟩ .e .e) .e) (.n ⟨(180,_),underlying180⟩ (.n ⟨(178,_),underlying178⟩ .e .e) .e))))) (.n ⟨(324,_),underlying324⟩ (.n ⟨(246,_),underlying246⟩ (.n ⟨(211,_),underlying211⟩ (.n ⟨(201,_),underlying201⟩ (.n ⟨(194,_),underlying194⟩ (.n ⟨(192,_),underlying192⟩ .e .e) (.n ⟨(196,_),underlying196⟩ .e .e)) (.n ⟨(210,_),underlying210⟩ (.n ⟨(206,_),underlying206⟩ .e .e) .e)) (.n ⟨(232,_),underlying232⟩ (.n ⟨(226,_),underlying226⟩ (.n ⟨(218,_),underlying218⟩ .e .e) (.n ⟨(227,_),underlying227⟩ .e .e)) (.n ⟨(242,_),underlying242⟩ (.n ⟨(241,_),underlying241⟩ .e .e) .e))) (.n ⟨(285,_),underlying285⟩ (.n ⟨(260,_),underlying260⟩ (.n ⟨(253,_),underlying253⟩ (.n ⟨(252,_),underlying252⟩ .e .e) (.n ⟨(258,_),underlying258⟩ .e .e)) (.n ⟨(282,_),underlying282⟩ (.n ⟨(280,_),underlying280⟩ .e .e) .e)) (.n ⟨(294,_),underlying294⟩ (.n ⟨(292,_),underlying292⟩ (.n ⟨(289,_),underlying289⟩ .e .e) .e) (.n ⟨(321,_),underlying321⟩ (.n ⟨(316,_),underlying316⟩ .e .e) .e)))) (.n ⟨(373,_),underlying373⟩ (.n ⟨(349,_),underlying349⟩ (.n ⟨(333,_),underlying333⟩ (.n ⟨(329,_),underlying329⟩ (.n ⟨(327,_),underlying327⟩ .e .e) (.n ⟨(332,_),underlying332⟩ .e .e)) (.n ⟨(345,_),underlying345⟩ (.n ⟨(343,_),underlying343⟩ .e .e) .e)) (.n ⟨(364,_),underlying364⟩ (.n ⟨(360,_),underlying360⟩ (.n ⟨(351,_),underlying351⟩ .e .e) .e) (.n ⟨(367,_),underlying367⟩ (.n ⟨(365,_),underlying365⟩ .e .e) .e))) (.n ⟨(396,_),underlying396⟩ (.n ⟨(381,_),underlying381⟩ (.n ⟨(378,_),underlying378⟩ (.n ⟨(376,_),underlying376⟩ .e .e) (.n ⟨(380,_),underlying380⟩ .e .e)) (.n ⟨(394,_),underlying394⟩ (.n ⟨(383,_),underlying383⟩ .e .e) .e)) (.n ⟨(400,_),underlying400⟩ (.n ⟨(399,_),underlying399⟩ (.n ⟨(397,_),underlying397⟩ .e .e) .e) (.n ⟨(412,_),underlying412⟩ (.n ⟨(411,_),underlying411⟩ .e .e) .e))))))
noncomputable def tTab:TB {e:Y×Ah×Y×Y//TI prog e.1 e.2.1 e.2.2.1 e.2.2.2}:=(.n ⟨(165,_,_,_),ti165⟩ (.n ⟨(64,_,_,_),Hn⟩ (.n ⟨(34,_,_,_),VS⟩ (.n ⟨(23,_,_,_),Rt⟩ (.n ⟨(5,_,_,_),CE⟩ (.n ⟨(4,_,_,_),PD⟩ (.n ⟨(3,_,_,_),BV⟩ .e .e) .e) (.n ⟨(9,_,_,_),Gz⟩ .e .e)) (.n ⟨(31,_,_,_),ti31⟩ (.n ⟨(26,_,_,_),bz⟩ .e .e) (.n ⟨(33,_,_,_),ti33⟩ .e .e))) (.n ⟨(51,_,_,_),GV⟩ (.n ⟨(38,_,_,_),ti38⟩ (.n ⟨(36,_,_,_),ti36⟩ .e .e) (.n ⟨(40,_,_,_),ti40⟩ .e .e)) (.n ⟨(58,_,_,_),LM⟩ (.n ⟨(56,_,_,_),ti56⟩ .e .e) (.n ⟨(60,_,_,_),Tp⟩ .e .e)))) (.n ⟨(102,_,_,_),ti102⟩ (.n ⟨(85,_,_,_),ti85⟩ (.n ⟨(82,_,_,_),ti82⟩ (.n ⟨(80,_,_,_),VT⟩ .e .e) (.n ⟨(83,_,_,_),ti83⟩ .e .e)) (.n ⟨(97,_,_,_),VU⟩ (.n ⟨(93,_,_,_),ti93⟩ .e .e) (.n ⟨(100,_,_,_),ti100⟩ .e .e))) (.n ⟨(139,_,_,_),LK⟩ (.n ⟨(121,_,_,_),LJ⟩ (.n ⟨(116,_,_,_),MN⟩ .e .e) (.n ⟨(137,_,_,_),bt⟩ .e .e)) (.n ⟨(144,_,_,_),ti144⟩ (.n ⟨(140,_,_,_),ti140⟩ .e .e) (.n ⟨(164,_,_,_),ti164⟩ .e .e))))) (.n ⟨(280,_,_,_),ti280⟩ (.n ⟨(210,_,_,_),nY⟩ (.n ⟨(189,_,_,_),bu⟩ (.n ⟨(174,_,_,_),nW⟩ (.n ⟨(167,_,_,_),ti167⟩ .e .e) (.n ⟨(178,_,_,_),ti178⟩ .e .e)) (.n ⟨(194,_,_,_),bv⟩ (.n ⟨(192,_,_,_),ti192⟩ .e .e) (.n ⟨(196,_,_,_),nX⟩ .e .e))) (.n ⟨(252,_,_,_),ti252⟩ (.n ⟨(226,_,_,_),GU⟩ (.n ⟨(211,_,_,_),PB⟩ .e .e) (.n ⟨(227,_,_,_),VR⟩ .e .e)) (.n ⟨(258,_,_,_),nZ⟩ (.n ⟨(253,_,_,_),bw⟩ .e .e) (.n ⟨(260,_,_,_),NS⟩ .e .e)))) (.n ⟨(345,_,_,_),ti345⟩ (.n ⟨(316,_,_,_),LL⟩ (.n ⟨(292,_,_,_),ti292⟩ (.n ⟨(285,_,_,_),ti285⟩ .e .e) (.n ⟨(294,_,_,_),ti294⟩ .e .e)) (.n ⟨(324,_,_,_),bA⟩ (.n ⟨(321,_,_,_),ti321⟩ .e .e) (.n ⟨(343,_,_,_),og⟩ .e .e))) (.n ⟨(367,_,_,_),oh⟩ (.n ⟨(364,_,_,_),To⟩ (.n ⟨(351,_,_,_),ti351⟩ .e .e) (.n ⟨(365,_,_,_),PC⟩ .e .e)) (.n ⟨(376,_,_,_),ti376⟩ (.n ⟨(373,_,_,_),oi⟩ .e .e) (.n ⟨(378,_,_,_),Ji⟩ .e .e))))))
noncomputable def pTab:TB (Y×Ae (Y×Y)):=(.n (192,[(0,1)]) (.n (85,[(0,1),(1,1),(2,1),(3,1),(4,2),(6,1),(7,1)]) (.n (64,[(0,1),(1,1)]) (.n (38,[(0,1),(1,1)]) (.n (33,[(0,1)]) .e .e) (.n (60,[(0,1),(1,1),(2,1),(3,1),(4,1)]) .e .e)) (.n (82,[(0,5)]) (.n (80,[(0,1),(1,1),(2,1),(3,1),(4,1)]) .e .e) .e)) (.n (144,[(0,1),(1,1),(2,1),(3,1)]) (.n (121,[(0,1),(1,1)]) (.n (116,[(0,1),(1,5)]) .e .e) (.n (139,[(0,1),(1,1),(2,1)]) .e .e)) (.n (174,[(0,1),(1,1)]) (.n (167,[(0,1),(1,1),(2,1),(3,1),(4,1),(5,1),(6,2),(8,2)]) .e .e) .e))) (.n (316,[(0,1),(1,1)]) (.n (260,[(0,1),(1,1)]) (.n (226,[(0,1),(1,1)]) (.n (194,[(0,1)]) .e .e) (.n (252,[(0,1),(1,1)]) .e .e)) (.n (294,[(0,1),(1,1),(2,1)]) (.n (280,[(0,1),(1,1)]) .e .e) .e)) (.n (364,[(0,1)]) (.n (351,[(0,1),(1,1)]) (.n (345,[(0,1),(1,1)]) .e .e) .e) (.n (378,[(0,1),(1,1)]) (.n (367,[(0,1),(1,1),(2,22),(24,22),(46,22)]) .e .e) .e))))
def uF{t:Y}{d:TypeDesc}(h:(uTab.get (fun e=>e.1.1) t).map (fun e=>e.1.2)=J d):prog.underlying t=J d:=by
 obtain⟨e,q,p⟩:=Ni.1 h;rw[<-TB.ok q,<-p];exact e.2
def tF{t:Y}{z:Ah}{s b:Y}(h:(tTab.get (fun e=>e.1.1) t).map (fun e=>e.1.2)=J (z,s,b)):TI prog t z s b:=by
 obtain⟨e,q,p⟩:=Ni.1 h;have:=e.2;rw[TB.ok q,p]at this;exact this
def NV(σ:BH)(x:AF)(k:AK)(a:Y):Prop:=ev σ x=J (.int k (a:H))
def NV.c{σ:BH}{k:AK}{m:Y}:NV σ (.const (.int k (@OfNat.ofNat H m _))) k (@OfNat.ofNat Y m _):=rfl
def Di{σ:BH}{x:AF}{k:AK}{a:Y}(h:ev σ x=J (.int k (a:H))):NV σ x k a:=h
inductive Rn:Y->Prop->Prop->Prop
 |z {p:Prop}:Rn 0 p p
 |s {m:Y} {p r q:Prop} (h:r->p) (k:Rn m r q):Rn (m+1) p q
structure Tg(i:Y)(r p:Prop):Prop where
 f:r->p
inductive Rl:Bj->Prop->Prop->Prop
 |z {p:Prop}:Rl [] p p
 |s {i:Y} {l:Bj} {p r q:Prop} (h:Tg i r p) (k:Rl l r q):Rl (i::l) p q
def Rl.ok{l:Bj}{p q:Prop}(h:Rl l p q):q->p:=by
 induction h with
 |z=>exact id
 |s h _ ih=>exact fun x=>h.f (ih x)
def Rn.ok{m:Y}{p q:Prop}(h:Rn m p q):q->p:=by
 induction h with
 |z=>exact id
 |s h _ ih=>exact fun x=>h (ih x)
section
variable{R:AE->Ad->Prop}{ops:Ap AG}{rest:Ae AG}{K:Ae KI}{n:Y}{σ:BH}{w w0 w':Ad}{x y f:AF}{t t' e ty T T':Ay}{k k':AK}{a b s o d bs len cap i j m N fuel:Y}{op:Op}{pos:AJ}{after:Ap Edge}{g:Aw (Y×Ar)}{v z:Ah}{l vs xs news:Bm}{fs:Ap Field}{ats:Ap Ay}{Q:Ah->Ad->Prop}{S:Ad->Prop}{listed:Ap Ar}{c c':AM}{dd:TypeDesc}{fid:FuncId}{vl:Bm}{B:Y}{A:Aw AC}
def Xlss(hx:NV σ x k a:=by first|exact NV.c|exact Di Z)(hy:NV σ y k b:=by first|exact NV.c|exact Di Z):EX prog n σ (.binOp .lss t x y t') ty w (.bool (decide (a<b))) w:=Of hx hy
def Xleq(hx:NV σ x k a:=by first|exact NV.c|exact Di Z)(hy:NV σ y k b:=by first|exact NV.c|exact Di Z):EX prog n σ (.binOp .leq t x y t') ty w (.bool (decide (a<=b))) w:=cF hx hy
def Xgtr(hx:NV σ x k a:=by first|exact NV.c|exact Di Z)(hy:NV σ y k b:=by first|exact NV.c|exact Di Z):EX prog n σ (.binOp .gtr t x y t') ty w (.bool (decide (b<a))) w:=Od hx hy
def Xgeq(hx:NV σ x k a:=by first|exact NV.c|exact Di Z)(hy:NV σ y k b:=by first|exact NV.c|exact Di Z):EX prog n σ (.binOp .geq t x y t') ty w (.bool (decide (b<=a))) w:=pd hx hy
def Xeql(hx:NV σ x k a:=by first|exact NV.c|exact Di Z)(hy:NV σ y k b:=by first|exact NV.c|exact Di Z):EX prog n σ (.binOp .eql t x y t') ty w (.bool (decide (a=b))) w:=Ob hx hy
def Xneq(hx:NV σ x k a:=by first|exact NV.c|exact Di Z)(hy:NV σ y k b:=by first|exact NV.c|exact Di Z):EX prog n σ (.binOp .neq t x y t') ty w (.bool (decide (a≠b))) w:=cL hx hy
def Xadd(hx:NV σ x k a:=by first|exact NV.c|exact Di Z)(hy:NV σ y k b:=by first|exact NV.c|exact Di Z)(h:a+b<=_root_.Go.Proofs.YtkmlafmjaeeanaaGreatDoor.maxN k:=by simp only[maxN];omega):EX prog n σ (.binOp .add t x y t') ty w (.int k ((a+b:Y):H)) w:=JY hx hy Z h
def Xsub(hx:NV σ x k a:=by first|exact NV.c|exact Di Z)(hy:NV σ y k b:=by first|exact NV.c|exact Di Z)(h:b<=a/\a<=_root_.Go.Proofs.YtkmlafmjaeeanaaGreatDoor.maxN k:=by simp only[maxN];omega):EX prog n σ (.binOp .sub t x y t') ty w (.int k ((a-b:Y):H)) w:=Kc hx hy Z h
def Xmul(hx:NV σ x k a:=by first|exact NV.c|exact Di Z)(hy:NV σ y k b:=by first|exact NV.c|exact Di Z)(h:a*b<=_root_.Go.Proofs.YtkmlafmjaeeanaaGreatDoor.maxN k:=by simp only[maxN];omega):EX prog n σ (.binOp .mul t x y t') ty w (.int k ((a*b:Y):H)) w:=Wl hx hy Z h
def Xquo(hx:NV σ x k a:=by first|exact NV.c|exact Di Z)(hy:NV σ y k b:=by first|exact NV.c|exact Di Z)(h:0<b/\a<=_root_.Go.Proofs.YtkmlafmjaeeanaaGreatDoor.maxN k:=by simp only[maxN];omega):EX prog n σ (.binOp .quo t x y t') ty w (.int k ((a/b:Y):H)) w:=cP hx hy Z h
def Xrem(hx:NV σ x k a:=by first|exact NV.c|exact Di Z)(hy:NV σ y k b:=by first|exact NV.c|exact Di Z)(h:0<b:=by omega):EX prog n σ (.binOp .rem t x y t') ty w (.int k ((a%b:Y):H)) w:=cQ hx hy h
def Xmin(hx:NV σ x k a:=by first|exact NV.c|exact Di Z)(hy:NV σ y k b:=by first|exact NV.c|exact Di Z):EX prog n σ (.call { callee:=.builtin .min,args:=#[x,y],argTypes:=ats }) ty w (.int k ((min a b:Y):H)) w:=pm hx hy
def Xmax(hx:NV σ x k a:=by first|exact NV.c|exact Di Z)(hy:NV σ y k b:=by first|exact NV.c|exact Di Z):EX prog n σ (.call { callee:=.builtin .max,args:=#[x,y],argTypes:=ats }) ty w (.int k ((max a b:Y):H)) w:=EX.maxN hx hy
def Xcv(p:prog.underlying t=J dd:=by exact uF Z)(hv:prog.underlying e=J (.int k):=by exact uF Z)(hx:NV σ x k' a:=by first|exact NV.c|exact Di Z)(h:a<=_root_.Go.Proofs.YtkmlafmjaeeanaaGreatDoor.maxN k:=by simp only[maxN];omega):EX prog n σ (.convert t e x) ty w (.int k (a:H)) w:=LP p hv hx Z h
def Xcw(m:Y)(p:prog.underlying t=J dd:=by exact uF Z)(hv:prog.underlying e=J (.int k):=by exact uF Z)(hx:NV σ x k' a:=by first|exact NV.c|exact Di Z)(hm:QO k=m:=by exact Z)(h:0<m:=by decide):EX prog n σ (.convert t e x) ty w (.int k ((a%m:Y):H)) w:=MR p hv hx hm h
def XfA{f C:Y}{p q r:AJ}{h:Ay}{D:Ar}{ex:Y}(hx:ev σ x=J (.pointer (J ⟨b,o,Aa⟩)):=by exact Z)(hu:prog.underlying t=J (.struct fs):=by exact uF Z)(hf:fs[f]? =J ⟨p,h,C,D,q,r,ex⟩:=by exact Z)(hi:TI prog h z s bs:=by exact tF Z)(hs:BL 0 s=Af:=by exact Z):EX prog n σ (.fieldAddr t x f) ty w (.pointer (J ⟨b,o+C,Aa⟩)) w:=Do hu hf Z hi hs hx
def Xi0(hx:ev σ x=J (.slice (J ⟨b,0,Aa⟩) len cap):=by exact Z)(hy:NV σ y k i:=by first|exact NV.c|exact Di Z)(hi:i<len:=by omega)(hu:prog.underlying t=J (.slice e):=by exact uF Z)(h:TI prog e z 1 bs:=by exact tF Z):EX prog n σ (.indexAddr t x y) ty w (.pointer (J ⟨b,i,Aa⟩)) w:=KV hu h hx hy hi
def Xi1(hx:ev σ x=J (.slice (J ⟨b,o,Aa⟩) len cap):=by exact Z)(hy:NV σ y k i:=by first|exact NV.c|exact Di Z)(hi:i<len:=by omega)(hu:prog.underlying t=J (.slice e):=by exact uF Z)(h:TI prog e z 1 bs:=by exact tF Z):EX prog n σ (.indexAddr t x y) ty w (.pointer (J ⟨b,o+i,Aa⟩)) w:=KX hu h hx hy hi
def Xis(hx:ev σ x=J (.slice (J ⟨b,o,Aa⟩) len cap):=by exact Z)(hy:NV σ y k i:=by first|exact NV.c|exact Di Z)(hi:i<len:=by omega)(hu:prog.underlying t=J (.slice e):=by exact uF Z)(h:TI prog e z s bs:=by exact tF Z):EX prog n σ (.indexAddr t x y) ty w (.pointer (J ⟨b,o+i*s,Aa⟩)) w:=MS hu h hx hy hi
def Xa0(hx:ev σ x=J (.pointer (J ⟨b,0,Aa⟩)):=by exact Z)(hy:NV σ y k i:=by first|exact NV.c|exact Di Z)(hu:prog.underlying t=J (.array m e):=by exact uF Z)(h:TI prog e z 1 bs:=by exact tF Z)(hi:i<m:=by omega):EX prog n σ (.indexAddr t x y) ty w (.pointer (J ⟨b,i,Aa⟩)) w:=LQ hu h hx hy hi
def Xa1(hx:ev σ x=J (.pointer (J ⟨b,o,Aa⟩)):=by exact Z)(hy:NV σ y k i:=by first|exact NV.c|exact Di Z)(hu:prog.underlying t=J (.array m e):=by exact uF Z)(h:TI prog e z 1 bs:=by exact tF Z)(hi:i<m:=by omega):EX prog n σ (.indexAddr t x y) ty w (.pointer (J ⟨b,o+i,Aa⟩)) w:=LR hu h hx hy hi
def Xas(hx:ev σ x=J (.pointer (J ⟨b,o,Aa⟩)):=by exact Z)(hy:NV σ y k i:=by first|exact NV.c|exact Di Z)(hu:prog.underlying t=J (.array m e):=by exact uF Z)(h:TI prog e z s bs:=by exact tF Z)(hi:i<m:=by omega):EX prog n σ (.indexAddr t x y) ty w (.pointer (J ⟨b,o+i*s,Aa⟩)) w:=PR hu h hx hy hi
def Xln(hx:ev σ x=J (.slice A len cap):=by exact Z)(hu:prog.underlying t=J (.slice e):=by exact uF Z):EX prog n σ (.call { callee:=.builtin .len,args:=#[x],argTypes:=#[t] }) ty w (.int .i64 (len:H)) w:=PS hu hx
def XlS{q:Bh}(hx:ev σ x=J (Bl q):=by exact Z)(hu:prog.underlying t=J .string:=by exact uF Z):EX prog n σ (.call { callee:=.builtin .len,args:=#[x],argTypes:=#[t] }) ty w (.int .i64 (Ajb q:H)) w:=MT hu hx
def XiS{q:Bh}(hx:ev σ x=J (Bl q):=by exact Z)(hy:NV σ y k i:=by first|exact NV.c|exact Di Z)(hu:prog.underlying t=J .string:=by exact uF Z)(hi:i<Ajb q:=by omega):EX prog n σ (.index t x y) ty w (.int .u8 (q[i].toNat:H)) w:=EW hu hx hy (BR hi)
def XaS{q r:Bh}(hx:ev σ x=J (Bl q):=by exact Z)(hy:ev σ y=J (Bl r):=by exact Z)(h:Ajb q+Ajb r<=9223372036854775807:=by first|omega|(simp only[BA,Cz,EZ,BZ,CM,Cq];omega)):EX prog n σ (.binOp .add t x y t') ty w (Bl (q++r)) w:=JZ hx hy h
def Ca(h:w.cell? ⟨b,o,Aa⟩=J v)(hx:ev σ x=J (.pointer (J ⟨b,o,Aa⟩)):=by exact Z)(hu:prog.underlying t=J dd:=by exact uF Z)(hd:flat dd=Af:=by exact Z):EX prog n σ (.load t x) ty w v w:=Ci hu hd hx h
def Bp(h:Bk w b T l)(hx:ev σ x=J (.pointer (J ⟨b,o,Aa⟩)):=by exact Z)(hi:l[o]? =J v:=by exact Z)(hu:prog.underlying t=J dd:=by exact uF Z)(hd:flat dd=Af:=by exact Z):EX prog n σ (.load t x) ty w v w:=Ci hu hd hx (h.cell_of hi)
def Xll(hx:ev σ x=J (.pointer (J ⟨b,o,Aa⟩)):=by exact Z)(hc:Bk w b T l:=by with_reducible assumption)(hi:l[o]? =J v:=by exact Z)(hu:prog.underlying t=J dd:=by exact uF Z)(hd:flat dd=Af:=by exact Z):EX prog n σ (.load t x) ty w v w:=Ci hu hd hx (hc.cell_of hi)
def BW(p:Bk w b T l)(hx:ev σ x=J (.pointer (J ⟨b,0,Aa⟩)):=by exact Z)(h:TI prog t z s bs:=by exact tF Z)(hs:Ajb l=s:=by exact Z)(hu:prog.underlying t=J dd:=by exact uF Z)(hd:flat dd=Aj:=by exact Z):EX prog n σ (.load t x) ty w (.agg l.toArray) w:=Jp hu hd h hx p hs
def Dr(l:Bm)(p:∀j u,l[j]? =J u->w.cell? ⟨b,o+j,Aa⟩=J u)(hx:ev σ x=J (.pointer (J ⟨b,o,Aa⟩)):=by exact Z)(h:TI prog t z s bs:=by exact tF Z)(hs:Ajb l=s:=by exact Z)(hu:prog.underlying t=J dd:=by exact uF Z)(hd:flat dd=Aj:=by exact Z):EX prog n σ (.load t x) ty w (.agg l.toArray) w:=KY hu hd h hx hs p
def qH{q:AC}(hx:ev σ x=J (.pointer (J q)):=by exact Z)(hy:ev σ y=J (.pointer Aa):=by exact Z)(hu:prog.underlying t=J (.pointer e):=by exact uF Z):EX prog n σ (.binOp .eql t x y T) ty w (.bool Aj) w:=cE hu hx hy
def qG(hx:ev σ x=J (.pointer Aa):=by exact Z)(hy:ev σ y=J (.pointer Aa):=by exact Z)(hu:prog.underlying t=J (.pointer e):=by exact uF Z):EX prog n σ (.binOp .eql t x y T) ty w (.bool Af) w:=cD hu hx hy
def qF{q:AC}(hx:ev σ x=J (.slice (J q) len cap):=by exact Z)(hy:ev σ y=J (.slice Aa 0 0):=by exact Z)(hu:prog.underlying t=J (.slice e):=by exact uF Z):EX prog n σ (.binOp .eql t x y T) ty w (.bool Aj) w:=oZ hu hx hy
def qE(hx:ev σ x=J (.slice Aa len cap):=by exact Z)(hy:ev σ y=J (.slice Aa 0 0):=by exact Z)(hu:prog.underlying t=J (.slice e):=by exact uF Z):EX prog n σ (.binOp .eql t x y T) ty w (.bool Af) w:=oY hu hx hy
def Eb{q:Bh}(h:Sl w B A (BI q))(hx:ev σ x=J (.slice A len cap):=by exact Z)(hl:Ajb q=len:=by exact Z)(hu:prog.underlying t=J (.slice e):=by exact uF Z)(he:prog.underlying e=J (.int .u8):=by exact uF Z)(ht':prog.underlying t'=J .string:=by exact uF Z):EX prog n σ (.convert t t' x) ty w (Bl q) w:=cT hu he ht' hx h hl
def XbS{BO:Ap (Y×AF)}{pl:Ae (Y×Y)}{ks is:Bj}{zs:Bm}(h:prog.underlying t=J (.struct fs):=by exact uF Z)(hi:TI prog t (.agg zs.toArray) s bs:=by exact tF Z)(hp0:(pTab.get (fun e=>e.1) t).map (fun e=>e.2)=J pl:=by exact Z)(hp:places prog fs.toList=J pl:=by kernel_rfl)(hk:BO.toList.map (·.1)=ks:=by exact Z)(his:ks=is:=by exact Z)(hv:evs σ (BO.toList.map (·.2))=J vs:=by exact Z)(hc:Ps pl (Ajb zs) ks is=Af:=by exact Z)(h1:vs.all (·.oneCell')=Af:=by first|rfl|(simp only[HF,HG,HB,Ig,Bool.and_eq_true,Value.oneCell'];repeat (first|assumption|exact Bo.one Ce|constructor)))(hl:KN zs is vs=l:=by exact Z):EX prog n σ (.build t BO) ty w (.agg l.toArray) w:=PP h hi hp hk hv hc h1 hl
def nV{p:Prop}(h:p:=by first|exact NV.c|exact Di Z):p:=h
def Xx{p:Prop}(h:p:=by first|(apply EX.move;exact Z)|(apply CI;exact Z)|(apply EX.extract;exact Z;exact Z)|(apply DS;exact Z)|(apply XfA;exact Z;exact uF Z;exact Z;exact tF Z;exact Z)|(apply Xll;exact Z;(with_reducible assumption);exact Z;exact uF Z;exact Z)|(apply Xi0;exact Z;exact nV;omega;exact uF Z;exact tF Z)|(apply Xi1;exact Z;exact nV;omega;exact uF Z;exact tF Z)|(apply Xlss;exact nV;exact nV)|(apply Xneq;exact nV;exact nV)|(apply Xeql;exact nV;exact nV)|(apply Xadd;exact nV;exact nV;simp only[maxN];omega)|(apply Xsub;exact nV;exact nV;simp only[maxN];omega)|(apply Xln;exact Z;exact uF Z)|(apply XlS;exact Z;exact uF Z)|(apply Xgtr;exact nV;exact nV)|(apply Xgeq;exact nV;exact nV)|(apply Xleq;exact nV;exact nV)|(apply Xmul;exact nV;exact nV;simp only[maxN];omega)|(apply Oi;exact Z;exact Z)|(apply Jq;exact Z;exact Z)|exact TA Z|(apply Tz;exact Z)|(apply Xcv;exact uF Z;exact uF Z;exact nV;simp only[maxN];omega)|(apply Xcw 256;exact uF Z;exact uF Z;exact nV;exact Z;decide)|(apply Xcw 4294967296;exact uF Z;exact uF Z;exact nV;exact Z;decide)|(apply Xcw 18446744073709551616;exact uF Z;exact uF Z;exact nV;exact Z;decide)|(apply Xcw 65536;exact uF Z;exact uF Z;exact nV;exact Z;decide)|(apply XbS;exact uF Z;exact tF Z;exact Z;(show _=_;kernel_rfl);(show _=_;simp only[Co,Ep,List.toList_toArray]<;>exact Z);exact Z;exact Z;exact Z;(first|rfl|(simp only[HF,HG,HB,Ig,Bool.and_eq_true,Value.oneCell'];repeat (first|assumption|exact Bo.one Ce|constructor)));(show _=_;simp only[KN,Ko,Kn]<;>exact Z))|(apply XiS;exact Z;exact nV;exact uF Z;omega)|(apply XaS;exact Z;exact Z;(first|omega|(simp only[BA,Cz,EZ,BZ,CM,Cq];omega)))|(apply Xis;exact Z;exact nV;omega;exact uF Z;exact tF Z)|(apply Xa0;exact Z;exact nV;exact uF Z;exact tF Z;omega)|(apply Xa1;exact Z;exact nV;exact uF Z;exact tF Z;omega)|(apply Xas;exact Z;exact nV;exact uF Z;exact tF Z;omega)|(apply Xquo;exact nV;exact nV;simp only[maxN];omega)|(apply Xrem;exact nV;exact nV;omega)|(apply Xmin;exact nV;exact nV)|(apply Xmax;exact nV;exact nV)|(apply Xshl;exact nV;exact nV;(show _=_;simp only[WV]<;>exact Z);decide;simp only[maxN];omega)|(apply Xshr;exact nV;exact nV;(show _=_;simp only[WV]<;>exact Z);decide)|(apply qH;exact Z;exact Z;exact uF Z)|(apply qG;exact Z;exact Z;exact uF Z)|(apply qF;exact Z;exact Z;exact uF Z)|(apply qE;exact Z;exact Z;exact uF Z)|(apply Og;exact Z;exact Z)|(apply cG;exact Z;exact Z)|(apply Oe;exact Z;exact Z)|(apply pf;exact Z;exact Z)|(apply Oc;exact Z;exact Z)|(apply cM;exact Z;exact Z)|(apply Ka (m:=9223372036854775807);exact Z;exact Z;exact Z;exact Z;omega)|(apply RG (m:=9223372036854775807);exact Z;exact Z;exact Z;exact Z;omega)|(apply cR;exact Z;exact Z;decide)|(apply HC;exact Z;exact Z)|(apply MV;exact Z;exact Z)):p:=h
def Zv(he:EX prog n σ op ty w v w':=by exact Xx)(hg:BK ops σ g=J Af:=by exact Z)(hd:BL d n=Af:=by exact Z)(h:OW prog R ops rest K n ((d,v)::σ) w'):OW prog R ops (⟨J d,op,ty,pos,after,g⟩::rest) K n σ w:=OW.val hg hd he h
def Zq(he:∀m,EX prog n σ op ty (w.drewN m) v (w.drewN m):=by intro j;first|exact Xx|exact Bp (Bk.drewN (by with_reducible assumption) _))(hg:BK ops σ g=J Af:=by exact Z)(hd:BL d n=Af:=by exact Z)(h:QW prog R ops rest K n ((d,v)::σ) w):QW prog R ops (⟨J d,op,ty,pos,after,g⟩::rest) K n σ w:=QW.val hg hd he h
def Zc{p:Ae AF}(q:Bn prog fid vs w Q)(hx:evs σ p=J vs:=by exact Z)(hg:BK ops σ g=J Af:=by exact Z)(hd:BL d n=Af:=by exact Z)(h:∀v w',Q v w'->OW prog R ops rest K n ((d,v)::σ) w'):OW prog R ops (⟨J d,.call { callee:=.value (.func fid),args:=p.toArray,argTypes:=ats },ty,pos,after,g⟩::rest) K n σ w:=OW.call hg hd hx q h
def Zs(p:Bk w b T' l)(hi:TI prog T z s bs:=by exact tF Z)(hx:ev σ x=J (.pointer (J ⟨b,o,Aa⟩)):=by exact Z)(hy:ev σ y=J (.agg vs.toArray):=by exact Z)(hs:Ajb vs=s:=by exact Z)(h1:vs.all (·.oneCell')=Af:=by first|rfl|(simp only[HF,HG,HB,Ig,Bool.and_eq_true,Value.oneCell'];repeat (first|assumption|exact Bo.one Ce|constructor)))(hlt:o+Ajb vs<=Ajb l:=by first|decide|(simp;done)|omega)(hg:BK ops σ g=J Af:=by exact Z)(h:∀w',Bk w' b T' (l.take o++vs++l.drop (o+Ajb vs))->Mo w w' [b]->OW prog R ops rest K n σ w'):OW prog R ops (⟨Aa,.store T x y,ty,pos,after,g⟩::rest) K n σ w:=Ug hg hi hx hy hs h1 p hlt h
def Zt(p:Bk w b T' l)(hi:TI prog T z 1 bs:=by exact tF Z)(hx:ev σ x=J (.pointer (J ⟨b,o,Aa⟩)):=by exact Z)(hy:ev σ y=J v:=by exact Z)(h1:v.oneCell'=Af:=by first|rfl|assumption|exact Bo.one Ce)(hlt:o<Ajb l:=by first|decide|(simp;done)|omega|(simp;omega))(hg:BK ops σ g=J Af:=by exact Z)(h:∀w',Bk w' b T' (l.set o v)->Mo w w' [b]->OW prog R ops rest K n σ w'):OW prog R ops (⟨Aa,.store T x y,ty,pos,after,g⟩::rest) K n σ w:=Uf hg hi hx hy h1 p hlt h
def HO(i:Y){p:Prop}[Decidable p](ht:lk σ i=J (.bool (decide p)):=by exact Z)(e:p:=by first|omega|assumption|decide)(h:KW prog R K n ((i,.bool Af)::σ) w):KW prog R K n σ w:=KW.as i _ ht (Av Value.bool (AL e)) h
def Cb(i:Y){p:Prop}[Decidable p](ht:lk σ i=J (.bool (decide p)):=by exact Z)(e:¬p:=by first|omega|assumption|decide|exact fun h=>h Z)(h:KW prog R K n ((i,.bool Aj)::σ) w):KW prog R K n σ w:=KW.as i _ ht (Av Value.bool (AN e)) h
def Zoa(i:Y){p:Prop}[Decidable p](ht:lk σ i=J (.bool (decide p)):=by exact Z)(e:p:=by first|omega|assumption|decide|exact fun h=>h Z)(h:OW prog R ops rest K n ((i,.bool Af)::σ) w):OW prog R ops rest K n σ w:=OW.as i _ ht (Av Value.bool (AL e)) h
def IQ(i:Y){p:Prop}[Decidable p](ht:lk σ i=J (.bool (decide p)):=by exact Z)(e:¬p:=by first|omega|assumption|decide|exact fun h=>h Z)(h:OW prog R ops rest K n ((i,.bool Aj)::σ) w):OW prog R ops rest K n σ w:=OW.as i _ ht (Av Value.bool (AN e)) h
def Zqa(i:Y){p:Prop}[Decidable p](ht:lk σ i=J (.bool (decide p)):=by exact Z)(e:p:=by first|omega|assumption|decide|exact fun h=>h Z)(h:QW prog R ops rest K n ((i,.bool Af)::σ) w):QW prog R ops rest K n σ w:=QW.as i _ ht (Av Value.bool (AL e)) h
def Zqf(i:Y){p:Prop}[Decidable p](ht:lk σ i=J (.bool (decide p)):=by exact Z)(e:¬p:=by first|omega|assumption|decide|exact fun h=>h Z)(h:QW prog R ops rest K n ((i,.bool Aj)::σ) w):QW prog R ops rest K n σ w:=QW.as i _ ht (Av Value.bool (AN e)) h
def Zga(i:Y){p:Prop}[Decidable p](ht:lk σ i=J (.bool (decide p)):=by exact Z)(e:p:=by first|omega|assumption|decide|exact fun h=>h Z)(h:GW prog R ops S fuel listed K n ((i,.bool Af)::σ) w):GW prog R ops S fuel listed K n σ w:=GW.as i _ ht (Av Value.bool (AL e)) h
def Nl(i:Y){p:Prop}[Decidable p](ht:lk σ i=J (.bool (decide p)):=by exact Z)(e:¬p:=by first|omega|assumption|decide|exact fun h=>h Z)(h:GW prog R ops S fuel listed K n ((i,.bool Aj)::σ) w):GW prog R ops S fuel listed K n σ w:=GW.as i _ ht (Av Value.bool (AN e)) h
def Zi{p:Prop}[Decidable p]{u:AM}(ht:p->KW prog R (.code c::K) n σ w)(hf:¬p->KW prog R (.code u::K) n σ w)(h:ev σ x=J (.bool (decide p)):=by exact Z):KW prog R (.code (.cond x c u)::K) n σ w:=TF h ht hf
def Zd(i:Y){p:Prop}[Decidable p](h1:p->OW prog R ops rest K n ((i,.bool Af)::σ) w)(q:¬p->OW prog R ops rest K n ((i,.bool Aj)::σ) w)(h:lk σ i=J (.bool (decide p)):=by exact Z):OW prog R ops rest K n σ w:=qz i h h1 q
def Nn(i:Y){p:Prop}[Decidable p](h1:p->QW prog R ops rest K n ((i,.bool Af)::σ) w)(q:¬p->QW prog R ops rest K n ((i,.bool Aj)::σ) w)(h:lk σ i=J (.bool (decide p)):=by exact Z):QW prog R ops rest K n σ w:=qD i h h1 q
def Br{fn:Func}{q:Y}(p:fn.results=#[.tmp q]:=by exact Z)(hv:lk σ q=J v:=by exact Z)(h:Q v w):KW prog (fun a w'=>bodyPost prog fn (fun e w'=>∃v,e=.returned v/\Q v w') .ret a w') (.code .ret::K) n σ w:=Gh (ret1 p hv h)
def BG{fn:Func}{q r:Y}{u:Ah}(p:fn.results=#[.tmp q,.tmp r]:=by exact Z)(hv:lk σ q=J v:=by exact Z)(hu:lk σ r=J u:=by exact Z)(h:Q (.tuple #[v,u]) w):KW prog (fun a w'=>bodyPost prog fn (fun e w'=>∃v,e=.returned v/\Q v w') .ret a w') (.code .ret::K) n σ w:=Gh (ret2 p hv hu h)
def CT{fn:Func}{q r s:Y}{u x:Ah}(p:fn.results=#[.tmp q,.tmp r,.tmp s]:=by exact Z)(hv:lk σ q=J v:=by exact Z)(hu:lk σ r=J u:=by exact Z)(hx:lk σ s=J x:=by exact Z)(h:Q (.tuple #[v,u,x]) w):KW prog (fun a w'=>bodyPost prog fn (fun e w'=>∃v,e=.returned v/\Q v w') .ret a w') (.code .ret::K) n σ w:=Gh (ret3 p hv hu hx h)
def Bkf{ι:Type}(n:Y)(F:ι->Prop×BH×Ad×Y)(i:ι):AE->Ad->Prop:=NY n (fun p=>(F p).1) (fun p=>(F p).2.1) (fun p=>(F p).2.2.1) (fun p=>(F p).2.2.2) i
def Mtf{ι:Type}(n:Y)(F:ι->Prop×BH×Ad):AE->Ad->Prop:=Met n (fun p=>(F p).1) (fun p=>(F p).2.1) (fun p=>(F p).2.2)
def Lo{ι:Type}(F:ι->Prop×BH×Ad×Y)(i:ι)(hi:match F i with|(I,_)=>I)(h:∀i,match F i with|(I,S,W,_)=>I->KW prog R (.code c::.asr (Bkf n F i)::K) n S W)(q:match F i with|(_,S,W,_)=>Ei S σ/\w=W:=by refine⟨?_,?_⟩;repeat (first|exact AB|exact Z|refine⟨Z,?_⟩)):KW prog R (.code (.loop c)::K) n σ w:=RL _ _ _ (fun p=>(F p).2.2.2) i q.1 q.2 hi fun j r=>(h j) r
def Lb{ι:Type}{F:ι->Prop×BH×Ad×Y}{i:ι}(j:ι)(hi:match F j with|(I,_)=>I)(h:match F j with|(_,S,W,_)=>Ei S σ/\w=W:=by refine⟨?_,?_⟩;repeat (first|exact AB|exact Z|refine⟨Z,?_⟩))(hm:match F j,F i with|(_,_,_,a),(_,_,_,b)=>a<b:=by show _<_;omega):KW prog R (.asr (Bkf n F i)::K) n σ w:=KW.back (μ:=fun p=>(F p).2.2.2) j h.1 h.2 hi hm
def Lm{ι:Type}{F:ι->Prop×BH×Ad}(j:ι)(h:match F j with|(_,S,W)=>Ei S σ/\w=W:=by refine⟨?_,?_⟩;repeat (first|exact AB|exact Z|refine⟨Z,?_⟩))(hi:match F j with|(I,_)=>I):KW prog R (.asr (Mtf n F)::K) n σ w:=dj j h.1 h.2 hi
def Lc{ι:Type}(F:ι->Prop×BH×Ad)(h:KW prog R (.code c::.asr (Mtf n F)::K) n σ w)(h2:∀i,match F i with|(I,S,W)=>I->KW prog R K n S W):KW prog R (.code c::K) n σ w:=KW.cut _ _ _ h fun j hj=>(h2 j) hj
def Ld{ι:Type}(F:ι->Prop×BH×Ad)(h:KW prog R (.code c::.code c'::.asr (Mtf n F)::K) n σ w)(h2:∀i,match F i with|(I,S,W)=>I->KW prog R K n S W):KW prog R (.code c::.code c'::K) n σ w:=qa _ _ _ h fun j hj=>(h2 j) hj
def Yv(hi:ops[i]? =J ⟨J d,op,ty,pos,after,g⟩:=by exact Z)(hf:Region.free .any ops listed i=Af:=by kernel_rfl)(hr:(Region.ready .any ops listed).contains i=Af:=by kernel_rfl)(hs:Region.noSelect ops=Af:=by kernel_rfl)(hg:BK ops σ g=J Af:=by exact Z)(hd:BL d n=Af:=by exact Z)(hS:S w:=by assumption)(he:∀w',S w'->EX prog n σ op ty w' v w':=by intro w' p;first|exact Xx|exact Bp p|exact Bp p.1|exact Bp p.2|exact Bp p.2.1|exact Bp p.2.2|exact Bp p.2.2.1|exact Bp p.2.2.2|exact Bp p.2.2.2.1):Tg i (GW prog R ops S fuel (listed.setIfInBounds i Af) K n ((d,v)::σ) w) (GW prog R ops S (fuel+1) listed K n σ w):=⟨fun h=>GW.val i hi hs hf hr hg hd hS he h⟩
def Yp(hi:ops[i]? =J ⟨J d,op,ty,pos,after,g⟩:=by exact Z)(hf:Region.free .any ops listed i=Af:=by kernel_rfl)(hr:(Region.ready .any ops listed).contains i=Af:=by kernel_rfl)(hs:Region.noSelect ops=Af:=by kernel_rfl)(hg:BK ops σ g=J Aj:=by exact Z)(hd:BL d n=Af:=by exact Z)(hS:S w:=by assumption):Tg i (GW prog R ops S fuel (listed.setIfInBounds i Af) K n ((d,undef)::σ) w) (GW prog R ops S (fuel+1) listed K n σ w):=⟨fun h=>pJ i hi hs hf hr hg hd hS h⟩
def Yc(i:Y){p:Ae AF}(q:Bn prog fid vs w Q)(hi:ops[i]? =J ⟨J d,(.call { callee:=.value (.func fid),args:=p.toArray,argTypes:=ats }),ty,pos,after,g⟩:=by exact Z)(hr:Region.ready .any ops listed=[i]:=by kernel_rfl)(hg:BK ops σ g=J Af:=by exact Z)(hd:BL d n=Af:=by exact Z)(hx:evs σ p=J vs:=by exact Z)(h:∀v w',Q v w'->S w'/\(S w'->GW prog R ops S fuel (listed.setIfInBounds i Af) K n ((d,v)::σ) w')):GW prog R ops S (fuel+1) listed K n σ w:=GW.call i hi hr hg hd hx q h
def Yt(i:Y)(p:Bk w b T' l)(hi:ops[i]? =J ⟨Aa,.store T x y,ty,pos,after,g⟩:=by exact Z)(hr:Region.ready .any ops listed=[i]:=by kernel_rfl)(hg:BK ops σ g=J Af:=by exact Z)(ht:TI prog T z 1 bs:=by exact tF Z)(hx:ev σ x=J (.pointer (J ⟨b,o,Aa⟩)):=by exact Z)(hy:ev σ y=J v:=by exact Z)(h1:v.oneCell'=Af:=by first|rfl|assumption|exact Bo.one Ce)(hlt:o<Ajb l:=by first|decide|(simp;done)|omega|(simp;omega))(h:∀w',Bk w' b T' (l.set o v)->Mo w w' [b]->S w'/\(S w'->GW prog R ops S fuel (listed.setIfInBounds i Af) K n σ w')):GW prog R ops S (fuel+1) listed K n σ w:=dc i hi hr hg ht hx hy h1 p hlt h
def Ys(i:Y)(p:Bk w b T' l)(hi:ops[i]? =J ⟨Aa,.store T x y,ty,pos,after,g⟩:=by exact Z)(hr:Region.ready .any ops listed=[i]:=by kernel_rfl)(hg:BK ops σ g=J Af:=by exact Z)(ht:TI prog T z s bs:=by exact tF Z)(hx:ev σ x=J (.pointer (J ⟨b,o,Aa⟩)):=by exact Z)(hy:ev σ y=J (.agg vs.toArray):=by exact Z)(hs:Ajb vs=s:=by exact Z)(h1:vs.all (·.oneCell')=Af:=by first|rfl|(simp only[HF,HG,HB,Ig,Bool.and_eq_true,Value.oneCell'];repeat (first|assumption|exact Bo.one Ce|constructor)))(hlt:o+Ajb vs<=Ajb l:=by first|decide|(simp;done)|omega)(h:∀w',Bk w' b T' (l.take o++vs++l.drop (o+Ajb vs))->Mo w w' [b]->S w'/\(S w'->GW prog R ops S fuel (listed.setIfInBounds i Af) K n σ w')):GW prog R ops S (fuel+1) listed K n σ w:=pK i hi hr hg ht hx hy hs h1 p hlt h
def Yn(i:Y)(hi:ops[i]? =J ⟨J d,.alloc T,ty,pos,after,g⟩:=by exact Z)(hr:Region.ready .any ops listed=[i]:=by kernel_rfl)(hg:BK ops σ g=J Af:=by exact Z)(hd:BL d n=Af:=by exact Z)(ht:TI prog T (.agg l.toArray) s bs:=by exact tF Z)(hl:((.agg l.toArray):Ah).cells.toList=l:=by exact Z)(h:∀b w',w.heap.size<=b->Bk w' b T l->Bf w w'->S w'/\(S w'->GW prog R ops S fuel (listed.setIfInBounds i Af) K n ((d,.pointer (J ⟨b,0,Aa⟩))::σ) w')):GW prog R ops S (fuel+1) listed K n σ w:=cX i hi hr hg hd ht hl h
def Ym(i:Y)(hi:ops[i]? =J ⟨J d,.alloc T,ty,pos,after,g⟩:=by exact Z)(hr:Region.ready .any ops listed=[i]:=by kernel_rfl)(hg:BK ops σ g=J Af:=by exact Z)(hd:BL d n=Af:=by exact Z)(ht:TI prog T z s bs:=by exact tF Z)(hl:(z:Ah).cells.toList=[z]:=by exact Z)(h:∀b w',w.heap.size<=b->Bk w' b T [z]->Bf w w'->S w'/\(S w'->GW prog R ops S fuel (listed.setIfInBounds i Af) K n ((d,.pointer (J ⟨b,0,Aa⟩))::σ) w')):GW prog R ops S (fuel+1) listed K n σ w:=cX i hi hr hg hd ht hl h
def Yo(i:Y)(hi:ops[i]? =J ⟨J d,op,ty,pos,after,g⟩:=by exact Z)(hr:Region.ready .any ops listed=[i]:=by kernel_rfl)(hg:BK ops σ g=J Af:=by exact Z)(hd:BL d n=Af:=by exact Z)(he:EX prog n σ op ty w v w)(hS:S w:=by assumption)(h:S w->GW prog R ops S fuel (listed.setIfInBounds i Af) K n ((d,v)::σ) w):GW prog R ops S (fuel+1) listed K n σ w:=GW.new i hi hr hg hd he ⟨hS,h⟩
def Jc(i:Y){p:Ae AF}(q:Bn prog fid vs w Q)(hi:ops[i]? =J ⟨J d,(.call { callee:=.value (.func fid),args:=p.toArray,argTypes:=ats }),ty,pos,after,g⟩:=by exact Z)(hg:BK ops σ g=J Af:=by exact Z)(hd:BL d n=Af:=by exact Z)(hx:evs σ p=J vs:=by exact Z)(h:∀v w',Q v w'->S w'/\(S w'->GW prog R ops S fuel (listed.setIfInBounds i Af) K n ((d,v)::σ) w')):GO prog R ops S fuel listed K n σ w i:=GO.call i hi hg hd hx q h
def Jn(i:Y)(hi:ops[i]? =J ⟨J d,.alloc T,ty,pos,after,g⟩:=by exact Z)(hg:BK ops σ g=J Af:=by exact Z)(hd:BL d n=Af:=by exact Z)(ht:TI prog T (.agg l.toArray) s bs:=by exact tF Z)(hl:((.agg l.toArray):Ah).cells.toList=l:=by exact Z)(h:∀b w',w.heap.size<=b->Bk w' b T l->Bf w w'->S w'/\(S w'->GW prog R ops S fuel (listed.setIfInBounds i Af) K n ((d,.pointer (J ⟨b,0,Aa⟩))::σ) w')):GO prog R ops S fuel listed K n σ w i:=cV i hi hg hd ht hl h
def Jm(i:Y)(hi:ops[i]? =J ⟨J d,.alloc T,ty,pos,after,g⟩:=by exact Z)(hg:BK ops σ g=J Af:=by exact Z)(hd:BL d n=Af:=by exact Z)(ht:TI prog T z s bs:=by exact tF Z)(hl:(z:Ah).cells.toList=[z]:=by exact Z)(h:∀b w',w.heap.size<=b->Bk w' b T [z]->Bf w w'->S w'/\(S w'->GW prog R ops S fuel (listed.setIfInBounds i Af) K n ((d,.pointer (J ⟨b,0,Aa⟩))::σ) w')):GO prog R ops S fuel listed K n σ w i:=cV i hi hg hd ht hl h
def Jo(i:Y)(hi:ops[i]? =J ⟨J d,op,ty,pos,after,g⟩:=by exact Z)(hg:BK ops σ g=J Af:=by exact Z)(hd:BL d n=Af:=by exact Z)(he:EX prog n σ op ty w v w)(hS:S w:=by assumption)(h:S w->GW prog R ops S fuel (listed.setIfInBounds i Af) K n ((d,v)::σ) w):GO prog R ops S fuel listed K n σ w i:=GO.new i hi hg hd he ⟨hS,h⟩
def Yw(i:Y)(hi:ops[i]? =J ⟨J d,op,ty,pos,after,g⟩:=by exact Z)(hf:Region.free .any ops listed i=Af:=by kernel_rfl)(hr:(Region.ready .any ops listed).contains i=Af:=by kernel_rfl)(hs:Region.noSelect ops=Af:=by kernel_rfl)(hg:BK ops σ g=J Af:=by exact Z)(hd:BL d n=Af:=by exact Z)(hS:S w:=by assumption)(he:∀w',S w'->EX prog n σ op ty w' v w')(h:GW prog R ops S fuel (listed.setIfInBounds i Af) K n ((d,v)::σ) w):GW prog R ops S (fuel+1) listed K n σ w:=GW.val i hi hs hf hr hg hd hS he h
def Yr(N:Y)(S:Ad->Prop){id:Y}{vl:Ae AG}(p:S w.drew)(hm:prog.follows .mixedOrders=Af:=by kernel_rfl)(hN:vl.toArray.size=N:=by exact Z)(h:S w.drew->GW prog R vl.toArray S N (JX N Aj) K n σ w.drew):KW prog R (.code (.region id vl.toArray Af)::K) n σ w:=PY S hm hN (h p)
def Zn(hi:TI prog T (.agg l.toArray) s bs:=by exact tF Z)(hl:((.agg l.toArray):Ah).cells.toList=l:=by exact Z)(hg:BK ops σ g=J Af:=by exact Z)(hd:BL d n=Af:=by exact Z)(h:∀b w',w.heap.size<=b->Bk w' b T l->Bf w w'->OW prog R ops rest K n ((d,.pointer (J ⟨b,0,Aa⟩))::σ) w'):OW prog R ops (⟨J d,.alloc T,ty,pos,after,g⟩::rest) K n σ w:=dA hg hd hi hl h
def Me(hi:TI prog T z s bs:=by exact tF Z)(hl:(z:Ah).cells.toList=[z]:=by exact Z)(hg:BK ops σ g=J Af:=by exact Z)(hd:BL d n=Af:=by exact Z)(h:∀b w',w.heap.size<=b->Bk w' b T [z]->Bf w w'->OW prog R ops rest K n ((d,.pointer (J ⟨b,0,Aa⟩))::σ) w'):OW prog R ops (⟨J d,.alloc T,ty,pos,after,g⟩::rest) K n σ w:=dA hg hd hi hl h
def Cs(i:Y)(u:Ah)(ht:lk σ i=J v:=by exact Z)(e:v=u:=by rfl)(h:KW prog R K n ((i,u)::σ) w):KW prog R K n σ w:=KW.as i u ht e h
def DW{q r vs xs:Bm}{p:Ae AF}(D:Bn prog fid xs w Q)(C:BK ops σ g=J Af:=by exact Z)(hd:BL d n=Af:=by exact Z)(ht:ev σ f=J (.func (.func fid) q.toArray r.toArray):=by exact Z)(hx:evs σ p=J vs:=by exact Z)(he:q++vs++r=xs:=by exact Z)(h:∀v w',Q v w'->OW prog R ops rest K n ((d,v)::σ) w'):OW prog R ops (⟨J d,.call { callee:=.value f,args:=p.toArray,argTypes:=ats },ty,pos,after,g⟩::rest) K n σ w:=qp C hd ht hx he D h
def Gk(p:prog.underlying t=J (.slice e):=by exact uF Z)(hti:TI prog e z 1 bs:=by exact tF Z)(hz1:z.oneCell'=Af:=by exact Z)(hx:NV σ x k len:=by exact nV)(hy:NV σ y k' len:=by exact nV)(hb:bs*len<=281474976710656:=by omega)(h63:len<=9223372036854775807:=by omega)(hg:BK ops σ g=J Af:=by exact Z)(hd:BL d n=Af:=by exact Z)(h:∀b w',w.heap.size<=b->Bk w' b e (BJ len z)->Bf w w'->OW prog R ops rest K n ((d,.slice (J ⟨b,0,Aa⟩) len len)::σ) w'):OW prog R ops (⟨J d,.makeSlice t x y,ty,pos,after,g⟩::rest) K n σ w:=dC hg hd p hti hz1 hx hy hb h63 h
def He{d1 G:Y}{r:AJ}{p:Ap Edge}{E:Aw (Y×Ar)}{v:Ah}{l:Y}{xs:Bm}{u:Ah}(D:Bf w0 w)(C:Bo w w0.heap.size e 1 v l xs)(I:BK ops σ E=J Af:=by exact Z)(hd1:BL d1 n=Af:=by exact Z)(hg:∀u,BK ops ((d1,u)::σ) g=J Af:=by exact fun _=>rfl)(hd:BL d n=Af:=by exact Z)(ht:prog.underlying t=J (.slice e):=by exact uF Z)(hi:TI prog e z 1 bs:=by exact tF Z)(hz1:z.oneCell'=Af:=by exact Z)(hy:ev σ y=J u:=by exact Z)(hx:∀q,ev ((d1,q)::σ) x=J v:=by exact fun _=>rfl)(hu:u.oneCell'=Af:=by first|rfl|assumption|exact Bo.one Ce)(h63:l+1<=maxLen:=by simp only[maxLen];omega)(hbytes:(l+1)*bs<=140737488355328:=by omega)(h:∀q v' w',Bo w' w0.heap.size e 1 v' (l+1) (xs++[u])->Bf w0 w'->w.grownBy w' v.ownBlock->(v'.ownBlock=v.ownBlock∨∃g,v'.ownBlock=J g/\w.heap.size<=g)->OW prog R ops rest K n ((d,v')::(d1,q)::σ) w'):OW prog R ops (⟨J d1,.buildSlice t 1 #[(0,y)],G,r,p,E⟩::⟨J d,.call { callee:=.builtin .append,args:=#[x,.tmp d1],argTypes:=#[t,t] },ty,pos,after,g⟩::rest) K n σ w:=OW.push I hd1 hg hd ht hi hz1 hy hx hu D C h63 hbytes h
def Qp{d1 E:Y}{r:AJ}{p:Ap Edge}{D:Aw (Y×Ar)}{v:Ah}{l:Y}{xs:Bm}{u:Ah}(B:Y)(I:B<=w.heap.size)(C:Bo w B e 1 v l xs)(G:BK ops σ D=J Af:=by exact Z)(hd1:BL d1 n=Af:=by exact Z)(hg:∀u,BK ops ((d1,u)::σ) g=J Af:=by exact fun _=>rfl)(hd:BL d n=Af:=by exact Z)(ht:prog.underlying t=J (.slice e):=by exact uF Z)(hi:TI prog e z 1 bs:=by exact tF Z)(hz1:z.oneCell'=Af:=by exact Z)(hy:ev σ y=J u:=by exact Z)(hx:∀q,ev ((d1,q)::σ) x=J v:=by exact fun _=>rfl)(hu:u.oneCell'=Af:=by first|rfl|assumption|exact Bo.one Ce)(h63:l+1<=maxLen:=by simp only[maxLen];omega)(hbytes:(l+1)*bs<=140737488355328:=by omega)(h:∀q v' w',Bo w' B e 1 v' (l+1) (xs++[u])->Mo w w' v.ownBlock.toList->(v'.ownBlock=v.ownBlock∨∃g,v'.ownBlock=J g/\w.heap.size<=g)->OW prog R ops rest K n ((d,v')::(d1,q)::σ) w'):OW prog R ops (⟨J d1,.buildSlice t 1 #[(0,y)],E,r,p,D⟩::⟨J d,.call { callee:=.builtin .append,args:=#[x,.tmp d1],argTypes:=#[t,t] },ty,pos,after,g⟩::rest) K n σ w:=qv B G hd1 hg hd ht hi hz1 hy hx hu I C h63 hbytes h
def Kx{d1 G:Y}{r:AJ}{p:Ap Edge}{E:Aw (Y×Ar)}{v:Ah}{l:Y}{xs:Bm}{vs:Bm}(D:Bf w0 w)(C:Bo w w0.heap.size e s v l xs)(I:BK ops σ E=J Af:=by exact Z)(hd1:BL d1 n=Af:=by exact Z)(hg:∀u,BK ops ((d1,u)::σ) g=J Af:=by exact fun _=>rfl)(hd:BL d n=Af:=by exact Z)(ht:prog.underlying t=J (.slice e):=by exact uF Z)(hi:TI prog e z s bs:=by exact tF Z)(hzs:z.cells.size=s:=by exact Z)(hs0:0<s:=by decide)(hs:s<=16777216:=by decide)(hy:ev σ y=J (.agg vs.toArray):=by exact Z)(hl:Ajb vs=s:=by exact Z)(hx:∀q,ev ((d1,q)::σ) x=J v:=by exact fun _=>rfl)(hu:vs.all (·.oneCell')=Af:=by first|rfl|assumption|(simp only[HF,HG,HB,Ig,Bool.and_eq_true,Value.oneCell'];repeat (first|assumption|exact Bo.one Ce|constructor)))(h63:l+1<=maxLen:=by simp only[maxLen];omega)(hbytes:(l+1)*bs<=140737488355328:=by omega)(h:∀q v' w',Bo w' w0.heap.size e s v' (l+1) (xs++vs)->Bf w0 w'->w.grownBy w' v.ownBlock->OW prog R ops rest K n ((d,v')::(d1,q)::σ) w'):OW prog R ops (⟨J d1,.buildSlice t 1 #[(0,y)],G,r,p,E⟩::⟨J d,.call { callee:=.builtin .append,args:=#[x,.tmp d1],argTypes:=#[t,t] },ty,pos,after,g⟩::rest) K n σ w:=qw I hd1 hg hd ht hi hzs hs0 hs hy hl hx hu D C h63 hbytes h
def Kw{fn:Func}{q:Y}(r:Bk w b T' l)(p:fn.results=#[.cell q T]:=by exact Z)(hu:prog.underlying T=J dd:=by exact uF Z)(hd:flat dd=Aj:=by exact Z)(hi:TI prog T z s bs:=by exact tF Z)(hv:lk σ q=J (.pointer (J ⟨b,0,Aa⟩)):=by exact Z)(hl:Ajb l=s:=by exact Z)(h:Q (.agg l.toArray) w):KW prog (fun a w'=>bodyPost prog fn (fun e w'=>∃v,e=.returned v/\Q v w') .ret a w') (.code .ret::K) n σ w:=Gh (retC1 p hu hd hi hv r hl h)
def DA{fn:Func}{q r:Y}{u:Ah}(C:Bk w b T' l)(p:fn.results=#[.cell q T,.tmp r]:=by exact Z)(hu:prog.underlying T=J dd:=by exact uF Z)(hd:flat dd=Aj:=by exact Z)(hi:TI prog T z s bs:=by exact tF Z)(hv:lk σ q=J (.pointer (J ⟨b,0,Aa⟩)):=by exact Z)(hx:lk σ r=J u:=by exact Z)(hl:Ajb l=s:=by exact Z)(h:Q (.tuple #[.agg l.toArray,u]) w):KW prog (fun a w'=>bodyPost prog fn (fun e w'=>∃v,e=.returned v/\Q v w') .ret a w') (.code .ret::K) n σ w:=Gh (retC2 p hu hd hi hv hx C hl h)
def Ye(i j:Y)(h1:GO prog R ops S fuel listed K n σ w i)(p:GO prog R ops S fuel listed K n σ w j)(h:Region.ready .any ops listed=[i,j]:=by kernel_rfl):GW prog R ops S (fuel+1) listed K n σ w:=GW.two i j h h1 p
def Xshl{p:Y}(hx:NV σ x k a:=by first|exact NV.c|exact Di Z)(hy:NV σ y k' s:=by exact nV)(hp:2 ^ s=p:=by simp only[WV]<;>exact Z)(hs:s<=k.bits:=by decide)(h:a*p<=_root_.Go.Proofs.YtkmlafmjaeeanaaGreatDoor.maxN k:=by simp only[maxN];omega):EX prog n σ (.binOp .shl t x y t') ty w (.int k ((a*p:Y):H)) w:=Ho hx hy hp hs Z h
def Xshr{h:Y}(hx:NV σ x k a:=by first|exact NV.c|exact Di Z)(hy:NV σ y k' s:=by exact nV)(hp:2 ^ s=h:=by simp only[WV]<;>exact Z)(hs:s<=k.bits:=by decide):EX prog n σ (.binOp .shr t x y t') ty w (.int k ((a/h:Y):H)) w:=II hx hy hp hs
def Yd(p:Region.ready .any ops listed=[]:=by kernel_rfl)(h:KW prog R K n σ w):GW prog R ops S fuel listed K n σ w:=GW.done p h
end
def O(m:Y){p q:Prop}(c:Rn m p q:=by
 repeat (first|exact Rn.z|(apply Rn.s;first
  |(apply OW.val;exact Z;exact Z;exact Xx)
  |(apply OW.nil)
  |(apply Eo)
  |(apply KW.region)
  |(apply KW.skip)
  |(apply KW.block)
  |(apply di)
  |(apply qc;exact Z)
  |(apply HM;exact Z;exact Z)
  |(apply QW.val;exact Z;exact Z;(intro j;first|exact Xx|exact Bp (Bk.drewN (by with_reducible assumption) _)))
  |(apply qC;exact Z;exact Z)
  |(apply pZ;exact Z)
  |(apply pY;exact Z)
  |(apply Wy;kernel_rfl;kernel_rfl)
  |(apply qd)
  |(apply KW.scope)
  
   ))) (h:q):p:=c.ok h
def Gv(l:Bj){p q:Prop}(c:Rl l p q:=by
 repeat (first|exact Rl.z|(apply Rl.s;first|exact Yv|exact Yp))) (h:q):p:=c.ok h
section
variable{P:AD}{R:AE->Ad->Prop}{ops:Ap AG}{S:Ad->Prop}{fuel:Y}{listed:Ap Ar}{k:Ae KI}{n:Y}{σ:BH}{w:Ad}
def GW.all{l:Bj}(m:Region.ready .any ops listed=l)(f:l≠[])(h:∀i∈l,GO P R ops S fuel listed k n σ w i):GW P R ops S (fuel+1) listed k n σ w:=fun a p=>
 wpAnyH_all m f fun q o=>h q o a p
def Wu(i j m:Y)(hr:Region.ready .any ops listed=[i,j,m])(h1:GO P R ops S fuel listed k n σ w i)(h2:GO P R ops S fuel listed k n σ w j)(h3:GO P R ops S fuel listed k n σ w m):GW P R ops S (fuel+1) listed k n σ w:=
 GW.all hr Bi Bg
def GW.one(i:Y)(hr:Region.ready .any ops listed=[i])(h:GO P R ops S fuel listed k n σ w i):GW P R ops S (fuel+1) listed k n σ w:=
 GW.all hr Bi Bg
def DL(i:Y){d:Y}{T e ty:Ay}{pos:AJ}{after:Ap Edge}{g:Aw (Y×Ar)}{x y:AF}{z:Ah}{bs len:Y}{kl kc:AK}(hi:ops[i]? =J ⟨J d,.makeSlice T x y,ty,pos,after,g⟩)
 (hg:BK ops σ g=J Af) (hd:BL d n=Af) (ht:P.underlying T=J (.slice e)) (hti:TI P e z 1 bs) (hz1:z.oneCell'=Af) (hx:ev σ x=J (.int kl (len:H))) (hy:ev σ y=J (.int kc (len:H))) (hb:bs*len<=281474976710656) (h63:len<=9223372036854775807)
 (h:∀b w',w.heap.size<=b->Bk w' b e (BJ len z)->Bf w w'->S w'/\(S w'->GW P R ops S fuel (listed.setIfInBounds i Af) k n ((d,.slice (J ⟨b,0,Aa⟩) len len)::σ) w')):GO P R ops S fuel listed k n σ w i:=
 GO.new i hi hg hd (cI ht hti hz1 hx hy hb h63) (h _ _ X (Bk.new w e _) (Bf.alloc w _))
end
section
variable{P:AD}{n:Y}{σ:BH}{w:Ad}{x y:AF}{ty t e:Ay}
def Ty{len i bs:Y}{l:Bm}{k:AK}{d:TypeDesc}{v z:Ah}(ht:P.underlying t=J (.array len e))(he:P.underlying e=J d)(m:flat d=Af)(a:TI P e z 1 bs)(hx:ev σ x=J (.agg l.toArray))(h:ev σ y=J (.int k (i:H)))(hl:i<len)(hi:l[i]? =J v):EX P n σ (.index t x y) ty w v w:=fun A f o pos after g=>by
 simp only[execOp,f.ev hx,f.ev h];have hi':(i:H)<len:=X;simp[Instr.index,asIntOf,run_underlying ht,Sem.run_bind,hi',Fz a,part,MG he,m,hi];omega
end
section
variable{P:AD}{R:AE->Ad->Prop}{ops:Ap AG}{rest:Ae AG}{k:Ae KI}{n:Y}{σ:BH}{w w0:Ad}{x y:AF}{t t' e ty:Ay}{pos:AJ}{after:Ap Edge}{gd:Aw (Y×Ar)}{d:Y}{z:Ah}{bs:Y}
def Abj{m ki:AK}{B:Y}(ht:P.underlying t=J (.slice e))(hk:P.underlying t'=J (.int m))(hi:TI P e z 1 bs){v:Ah}{l:Y}{xs:Bm}(a:Bo w B e 1 v l xs):
 (Builtin.append_ #[t,t'] ty #[v,.int ki 0]).run P w=.ok v w:=by
 obtain⟨i,h,q,f,rfl⟩:=hi.at;rcases a.2 with⟨rfl,rfl⟩|⟨g,cap,rest,rfl,C,A,r,o,p⟩
 .simp[Builtin.append_,run_underlying ht,run_underlying hk,sizeOf,typeInfo,h,f,asInt,asIntOf,IntKind.wrap_i64,Sem.run_bind]
 .simp[Builtin.append_,run_underlying ht,run_underlying hk,sizeOf,typeInfo,h,f,asInt,asIntOf,IntKind.wrap_i64,Sem.run_bind,o,storeCells]
def qo{E ki:AK}{v:Ah}{m l:Y}{xs:Bm}(B:BK ops σ gd=J Af)(C:BL d n=Af)(ht:P.underlying t=J (.slice e))(hk:P.underlying t'=J (.int E))(hi:TI P e z 1 bs)(p:z.oneCell'=Af)
 (hx:ev σ x=J v) (r:ev σ y=J (.int ki (m:H))) (o:Bf w0 w) (f:Bo w w0.heap.size e 1 v l xs)
 (q:l+m<=maxLen) (a:(l+m)*bs<=140737488355328)
 (h:∀v' w',Bo w' w0.heap.size e 1 v' (l+m) (xs++BJ m z)->Bf w0 w'->OW P R ops rest k n ((d,v')::σ) w'):
 OW P R ops (⟨J d,.call { callee:=.builtin .append,args:=#[x,y],argTypes:=#[t,t'] },ty,pos,after,gd⟩::rest) k n σ w:=by
 rcases Jy m with rfl|G
 .refine OW.val B C (v:=v) (w':=w) ?_ Bg;intro A D I pos after g;simp only[execOp,resolve,invoke,builtin,Sem.run_bind,Sem.run_pure,Result.andThen_ok,GC,Co,Ep,D.ev hx,D.ev r];have:=Abj (ty:=ty) (ki:=ki) ht hk hi f;simp_all
 .exact qm B C ht hk hi p hx r o f G q a Bg
end
section
variable{P:AD}{n:Y}{σ:BH}{w:Ad}{x lo hi':AF}{t e ty:Ay}{z:Ah}{bs g len cap i j:Y}{kk k2:AK}
def cO(ht:P.underlying t=J (.slice e))(hi:TI P e z 1 bs)(hx:ev σ x=J (.slice (J ⟨g,0,Aa⟩) len cap))(hl:ev σ lo=J (.int kk (i:H)))(l:ev σ hi'=J (.int k2 (j:H)))(h:i<=j/\j<=len/\len<=cap):
 EX P n σ (.slice t x (J lo) (J hi') Aa) ty w (.slice (J ⟨g,if cap=i then 0 else i,Aa⟩) (j-i) (cap-i)) w:=fun Ac a m pos after gd=>by
 have f:(⟨g,0,Aa⟩:AC).add i=⟨g,i,Aa⟩:=by unfold Addr.add;split<;>simp_all
 simp only[execOp,a.ev hx,a.ev hl,a.ev l,FP,Nj];simp[Instr.sliceAt,run_underlying ht,Instr.slice,Instr.sliceBounds,Sem.run_bind,NM j _ h.1,NM cap _ (BC h.2.1 h.2.2),Fz hi];split<;>simp_all
def Wm{s:Y}(ht:P.underlying t=J (.slice e))(hi:TI P e z s bs)(hx:ev σ x=J (.slice (J ⟨g,0,Aa⟩) len cap))(l:ev σ hi'=J (.int k2 (j:H)))(h:j<=len/\len<=cap):
 EX P n σ (.slice t x Aa (J hi') Aa) ty w (.slice (J ⟨g,0,Aa⟩) j cap) w:=fun Ac f m pos after gd=>by
 have a:(⟨g,0,Aa⟩:AC).add 0=⟨g,0,Aa⟩:=by unfold Addr.add;split<;>simp_all
 simp only[execOp,f.ev hx,f.ev l,FP,Nj];simp[Instr.sliceAt,run_underlying ht,Instr.slice,Instr.sliceBounds,Sem.run_bind,NM cap _ (BC h.1 h.2),Fz hi,a]
end
def kG{L:Bm}{k i cap:Y}{v:Ah}(h:L[k]? =J v)(hi:i=if cap=1 then 0 else 1)(hk:cap=1->k=0):(L.take i++L.take k++L.drop (i+Ajb (L.take k))).set 0 v=v::L.eraseIdx k:=by
 cases L with
 |nil=>grind
 |cons a r=>
  by_cases c:cap=1
  .grind
  .grind
section
variable{P:AD}{R:AE->Ad->Prop}{ops:Ap AG}{rest:Ae AG}{k:Ae KI}{n:Y}{σ:BH}{w:Ad}{x y:AF}{T e ty:Ay}{pos:AJ}{after:Ap Edge}{gd:Aw (Y×Ar)}{d:Y}{z:Ah}{s bs:Y}
def qt{len:Y}{f l:AK}(B:BK ops σ gd=J Af)(C:BL d n=Af)(ht:P.underlying T=J (.slice e))(hi:TI P e z s bs)(hx:ev σ x=J (.int f (len:H)))(p:ev σ y=J (.int l (len:H)))
 (G:bs*len<=281474976710656) (D:len<=9223372036854775807)
 (h:∀b w' y9,w.heap.size<=b->Ajb y9=len*s->Bk w' b e y9->Bf w w'->OW P R ops rest k n ((d,.slice (J ⟨b,0,Aa⟩) len len)::σ) w'):
 OW P R ops (⟨J d,.makeSlice T x y,ty,pos,after,gd⟩::rest) k n σ w:=by
 obtain⟨i,v,o,q,rfl⟩:=hi.at
 have a:=by
  have h:((i.bytes*len:Y):H)<=281474976710656:=X;rwa[Wv]at h
 have r:=run_make w T e i z ht v o f l len _ X X a X;refine OW.val B C ?_ (h _ _ (madeCells z.cells (len*i.size)).toList X (by rw[Array.length_toList,size_madeCells,q]) (Bk.new w e _) (Bf.alloc w _));intro A m E pos after g;simp only[execOp,m.ev hx,m.ev p,Sem.run_bind,r];rfl
end
end
section
open Go.MapKept
open Go.ChangeMaps (setBlock)
abbrev KZ:=Ae (Bh×Ah)
structure Mp(w:Ad)(b:Y)(es:Ap MapEntry)(c:Y)(l:KZ):Prop where
 blk:w.heap[b]? =J (.map es c)
 st:Stamped es c
 kv:es.toList.map (fun e=>(e.key,e.val))=l.map (fun p=>(Bl p.1,p.2))
def Hl{α:Type}(l:Ae (Bh×α))(s:Bh)(v:α):Ae (Bh×α):=if s∈l.map (·.1)then l.map (fun p=>if p.1=s then(s,v)else p)else l++[(s,v)]
def IT{α:Type}(l:Ae (Bh×α))(s:Bh):Ae (Bh×α):=l.filter (fun p=>decide (p.1≠s))
def aS{a b:Bh}(h:Bl a=Bl b):a=b:=by
 grind
section
variable{w w':Ad}{b c:Y}{es:Ap MapEntry}{l:KZ}
def Mp.lt(h:Mp w b es c l):b<w.heap.size:=by
 rcases Df b w.heap.size with a|a
 .omega
 .have:=h.blk;grind
def Mp.of_block(h:Mp w b es c l)(hb:w'.heap[b]? =w.heap[b]?):Mp w' b es c l:=⟨hb.trans h.blk,h.st,h.kv⟩
def Mp.ext(h:Mp w b es c l)(hx:Bf w w'):Mp w' b es c l:=h.of_block (hx.block b h.lt)
def Mp.mo{S:Bj}(h:Mp w b es c l)(hm:Mo w w' S)(hb:b∉S):Mp w' b es c l:=h.of_block (hm.block b h.lt hb)
def Mp.Ahj{k:Y}{T:Ay}{xs:Bm}(h:Mp w b es c l)(a:Bk w k T xs):k≠b:=by
 rintro rfl;obtain⟨g,f,_⟩:=a;rw[h.blk]at f;grind
def Mp.at{j:Y}{e:MapEntry}(h:Mp w b es c l)(he:es.toList[j]? =J e):∃p,l[j]? =J p/\e.key=Bl p.1/\e.val=p.2:=by
 have a:=Av (fun z=>z[j]?) h.kv;grind
def Mp.mem{e:MapEntry}(h:Mp w b es c l)(he:e∈es.toList):∃p∈l,e.key=Bl p.1/\e.val=p.2:=by
 obtain⟨j,a⟩:=List.mem_iff_getElem?.1 he;obtain⟨p,g,f⟩:=h.at a;grind
def Mp.keys(h:Mp w b es c l):(l.map (·.1)).Nodup:=by
 have f:(es.toList.map (·.key))=l.map (fun p=>Bl p.1):=by
  have:=Av (List.map Prod.fst) h.kv;simpa[EO,Function.comp_def]using this
 have a:=h.st.2.2;grind
def Zx(w:Ad)(b:Y)(o:Obj):Mo w (setBlock w b o) [b]:=⟨Z,Z,Z,by simp[setBlock],fun k _ hk=>by simp at hk;simp[setBlock,Array.getElem?_setIfInBounds_ne (Ne.symm hk)]⟩
def Tf{o:Obj}(h:b<w.heap.size):(setBlock w b o).heap[b]? =J o:=by simp[setBlock,h]
def zF:∀{l:KZ} {j:Y} {p:Bh×Ah} (v:Ah),(l.map (·.1)).Nodup->l[j]? =J p->Hl l p.1 v=l.set j (p.1,v)
 |l,j,p,v,hn,hj=>by
  have hm:p.1∈l.map (·.1):=Bg;unfold Hl;rw[Ai hm];apply GZ;intro k;rw[Eh,WE];by_cases e:j=k
  .grind
  .rw[Ag e];cases hk:l[k]? with
   |none=>rfl
   |some q=>
    have:q.1≠p.1:=fun z=>by
     have f:(l.map (·.1))[k]? =J p.1:=by rw[Eh,hk,<-z];rfl
     have a:(l.map (·.1))[j]? =J p.1:=by rw[Eh,hj];rfl
     obtain⟨m,h⟩:=Ki.1 f;obtain⟨i,g⟩:=Ki.1 a;exact e ((MZ hn).1 (g.trans h.symm))
    grind
def fT:∀{l:KZ} {j:Y} {p:Bh×Ah},(l.map (·.1)).Nodup->l[j]? =J p->IT l p.1=l.eraseIdx j
 |q::l,0,p,hn,hj=>by
  simp at hj;subst hj;simp only[IT,List.eraseIdx_cons_zero,LV,ne_eq,not_true_eq_false,decide_false,Wi,if_false];refine WC.2 fun r hr=>?_;grind
 |q::l,j+1,p,hn,hj=>by
  simp only[Co,TR]at hn;have ih:=fT hn.2 hj;simp only[IT]at ih ⊢;grind
def Zp{l:KZ}{s:Bh}{es:Ap MapEntry}(a:es.toList.map (fun e=>(e.key,e.val))=l.map (fun p=>(Bl p.1,p.2)))(h:∀x∈es.toList,x.key≠Bl s):s∉l.map (·.1):=fun f=>by
 obtain⟨p,g,rfl⟩:=Cr.1 f;have:(Bl p.1,p.2)∈es.toList.map (fun e=>(e.key,e.val)):=by rw[a];grind
 grind
def Mp.isKey(h:Mp w b es c l):∀x∈es.toList,IsKey .string x.key:=fun x a=>by
 obtain⟨p,_,e,_⟩:=h.mem a;rw[e];trivial
variable{P:AD}{t k e:Ay}
def Abs(ht:P.underlying t=J (.map k e))(hk:P.underlying k=J .string)(h:Mp w b es c l)(s:Bh)(v:Ah):
 ∃es' c',(Instr.mapUpdate t (.map (J b)) (Bl s) v).run P w=.ok () (setBlock w b (.map es' c'))/\Mp (setBlock w b (.map es' c')) b es' c' (Hl l s v):=by
 have a:IsKey .string (Bl s):=trivial;rcases findNow_spec a es.toList 0 h.isKey with⟨g,f⟩|⟨j,C,g,f,A⟩
 .refine⟨es.push ⟨_,v,c⟩,_,?_,⟨Tf h.lt,stamped_push h.st f,?_⟩⟩
  .simp[Instr.mapUpdate,run_underlying ht,MapKept.run_getObj_map h.blk,run_checkKey hk a,run_findKey hk g,MapKept.run_setObj_map _ h.blk,setBlock]
  .unfold Hl;rw[Ag (Zp h.kv f),Array.toList_push,DT,DT,h.kv];rfl
 .have r:=by simpa using f
  obtain⟨p,q,o,m⟩:=h.at f;have i:Bl s=Bl p.1:=Bg;obtain rfl:=aS i;refine⟨es.modify j (fun B=>{ B with key:=Bl p.1,val:=v }),c,?_,⟨Tf h.lt,stamped_modify h.st _ _ (fun _ _=>rfl) Bg,?_⟩⟩
  .simp[Instr.mapUpdate,run_underlying ht,MapKept.run_getObj_map h.blk,run_checkKey hk a,run_findKey hk g,r,A,run_keyThatStays a,MapKept.run_setObj_map _ h.blk,setBlock]
  .rw[zF v h.keys q,Array.toList_modify,List.map_set,<-h.kv];apply GZ;grind
def Abn{ty:Ay}(ht:P.underlying t=J (.map k e))(hk:P.underlying k=J .string)(h:Mp w b es c l)(s:Bh):
 ∃es',(Builtin.delete_ #[t,k] ty #[.map (J b),Bl s]).run P w=.ok (.tuple #[]) (setBlock w b (.map es' c))/\Mp (setBlock w b (.map es' c)) b es' c (IT l s):=by
 have a:IsKey .string (Bl s):=trivial;rcases findNow_spec a es.toList 0 h.isKey with⟨q,o⟩|⟨j,B,q,o,A⟩
 .refine⟨_,?_,⟨Tf h.lt,h.st,?_⟩⟩
  .simp[Builtin.delete_,run_underlying ht,MapKept.run_getObj_map h.blk,run_checkKey hk a,run_findKey hk q,MapKept.run_setObj_map _ h.blk,setBlock]
  .rw[h.kv];congr 1;refine(WC.2 fun p r=>?_).symm;simp only[decide_eq_true_eq];exact fun z=>Zp h.kv o Bg
 .have m:j<Ajb es.toList:=Bg;have i:=by simpa using m
  have f:(es.eraseIdxIfInBounds j).toList=es.toList.eraseIdx j:=by
   unfold Array.eraseIdxIfInBounds;rw[AQ i];simp
  obtain⟨p,r,g,v⟩:=h.at o;obtain rfl:=aS (A.symm.trans g);refine⟨_,?_,⟨Tf h.lt,stamped_erase h.st j,?_⟩⟩
  .simp[Builtin.delete_,run_underlying ht,MapKept.run_getObj_map h.blk,run_checkKey hk a,run_findKey hk q,MapKept.run_setObj_map _ h.blk,setBlock]
  .rw[fT h.keys r,f,ChangeMaps.map_eraseIdx,h.kv,<-ChangeMaps.map_eraseIdx]
end
def It(w:Ad)(r b since:Y)(seen:Ap Y)(c:Y):Prop:=w.heap[r]? =J (.mapIter (J b) since seen c)
section
variable{P:AD}{R:AE->Ad->Prop}{ops:Ap AG}{rest:Ae AG}{k:Ae KI}{n:Y}{σ:BH}{w:Ad}{x y z:AF}{t e kt ty:Ay}{pos:AJ}{after:Ap Edge}{gd:Aw (Y×Ar)}{d:Y}
def dD(f:BK ops σ gd=J Af)(i:BL d n=Af)
 (h:∀b w',w.heap.size<=b->Mp w' b #[] 0 []->Bf w w'->OW P R ops rest k n ((d,.map (J b))::σ) w'):
 OW P R ops (⟨J d,.makeMap t Aa,ty,pos,after,gd⟩::rest) k n σ w:=by
 refine OW.val f i ?_ (h _ _ X ⟨heap_alloc_new w _,⟨Bi,Bi,Bi⟩,Z⟩ (Bf.alloc w _));intro a m j pos after g;rfl
def EU.put{b c:Y}{es f:Ap MapEntry}{j:Y}{v:Ah}{s:Bh}(hx:ev σ x=J (.map (J b)))(o:ev σ y=J (Bl s))(m:ev σ z=J v)
 (h:(Instr.mapUpdate t (.map (J b)) (Bl s) v).run P w=.ok () (setBlock w b (.map f j))):EU P n σ (.mapUpdate t x y z) ty w (setBlock w b (.map f j)):=by
 intro a i p pos after g;simp[execOp,i.ev hx,i.ev o,i.ev m,h,Sem.run_bind,Result.andThen_ok,Sem.run_pure]
def OW.put{b c:Y}{es:Ap MapEntry}{l:KZ}{v:Ah}{s:Bh}(g:BK ops σ gd=J Af)(ht:P.underlying t=J (.map kt e))(hk:P.underlying kt=J .string)(hx:ev σ x=J (.map (J b)))(f:ev σ y=J (Bl s))(a:ev σ z=J v)(hm:Mp w b es c l)
 (h:∀es' c' w',Mp w' b es' c' (Hl l s v)->Mo w w' [b]->OW P R ops rest k n σ w'):
 OW P R ops (⟨Aa,.mapUpdate t x y z,ty,pos,after,gd⟩::rest) k n σ w:=by
 obtain⟨es',c',j,i⟩:=Abs ht hk hm s v;exact RY g (EU.put (c:=c) (es:=es) hx f a j) (h _ _ _ i (Zx w b _))
def qB{op:Op}{ty:Ay}{pos:AJ}{after:Ap Edge}{g:Aw (Y×Ar)}{v:Ah}{w':Ad}(i:BK ops σ g=J Af)(he:EX P n σ op ty w v w')
 (h:OW P R ops rest k n σ w'):OW P R ops (⟨Aa,op,ty,pos,after,g⟩::rest) k n σ w:=fun a f=>by
 have j:=he a f Aa pos after g;unfold wpList;rw[Ai (IF f i)];refine .inl ?_;unfold Oper.wp;rw[j];exact h _ f
def OW.del{b c:Y}{es:Ap MapEntry}{l:KZ}{s:Bh}(j:BK ops σ gd=J Af)(ht:P.underlying t=J (.map kt e))(hk:P.underlying kt=J .string)(hx:ev σ x=J (.map (J b)))(i:ev σ y=J (Bl s))(hm:Mp w b es c l)
 (h:∀es' c' w',Mp w' b es' c' (IT l s)->Mo w w' [b]->OW P R ops rest k n σ w'):
 OW P R ops (⟨Aa,.call { callee:=.builtin .delete,args:=#[x,y],argTypes:=#[t,kt] },ty,pos,after,gd⟩::rest) k n σ w:=by
 obtain⟨es',o,m⟩:=Abn (ty:=ty) ht hk hm s;refine qB j (v:=.tuple #[]) ?_ (h _ c _ m (Zx w b _));intro a f p pos after g;simp[execOp,resolve,invoke,builtin,Sem.run_bind,Sem.run_pure,Result.andThen_ok,GC,Co,Ep,f.ev hx,f.ev i,o]
def OW.range{b c:Y}{es:Ap MapEntry}{l:KZ}(f:BK ops σ gd=J Af)(i:BL d n=Af)(ht:P.underlying t=J (.map kt e))(hx:ev σ x=J (.map (J b)))(hm:Mp w b es c l)
 (h:∀r w',w.heap.size<=r->It w' r b c #[] c->Bf w w'->OW P R ops rest k n ((d,.pointer (J ⟨r,0,Aa⟩))::σ) w'):
 OW P R ops (⟨J d,.range t x,ty,pos,after,gd⟩::rest) k n σ w:=by
 refine OW.val f i ?_ (h _ _ X (heap_alloc_new w _) (Bf.alloc w _));intro a j m pos after g;simp[execOp,Instr.range,j.ev hx,run_underlying ht,MapKept.run_getObj_map hm.blk,Sem.run_pure]
def OW.next{r b c:Y}{es:Ap MapEntry}{l:KZ}{f:Ap Y}(q:BK ops σ gd=J Af)(v:BL d n=Af)(hx:ev σ x=J (.pointer (J ⟨r,0,Aa⟩)))(hm:Mp w b es c l)(hi:It w r b c f c)
 (h0:(∀e∈es.toList,e.born∈f)->OW P R ops rest k n ((d,.tuple #[.bool Aj])::σ) w)
 (h1:∀(e:MapEntry) w',e∈es.toList->e.born∉f->It w' r b c (f.push e.born) c->Mo w w' [r]->OW P R ops rest k n ((d,.tuple #[.bool Af,e.key,e.val])::σ) w'):
 OW P R ops (⟨J d,.next x Aj,ty,pos,after,gd⟩::rest) k n σ w:=by
 have A:r<w.heap.size:=by
  rcases Df r w.heap.size with B|B
  .omega
  .unfold It at hi;grind
 rcases run_next_at (P:=P) w ty r b c c f es c hi hm.blk hm.st.1 X with⟨h2,h3⟩|⟨e,i,w1,hw,h3⟩
 .refine OW.val q v ?_ (h0 ?_)
  .intro a o p pos after g;simp[execOp,o.ev hx,h3,Sem.run_bind,Result.andThen_ok,Sem.run_pure]
  .intro e i;unfold leftOf at h2;simp_all
 .have h:e∈es.toList/\e.born∉f:=by
   unfold leftOf at i;simp at i;exact⟨Bg,i.2⟩
  have m:Mo w (setBlock w1 r (.mapIter (J b) c (f.push e.born) c)) [r]:=by
   refine Mo.trans ?_ (Zx _ r _);rcases hw with rfl|rfl
   .exact Mo.refl _ _
   .exact Mo.Agk (Bf.drew w) _
  have j:r<w1.heap.size:=by rcases hw with rfl|rfl<;>exact A
  refine OW.val q v ?_ (h1 e _ h.1 h.2 (Tf j) m);intro a o p pos after g;simp[execOp,o.ev hx,h3,Sem.run_bind,Result.andThen_ok,Sem.run_pure]
def oX{r b c:Y}{es:Ap MapEntry}{l:KZ}{f:Ap Y}{e:MapEntry}(hx:ev σ x=J (.pointer (J ⟨r,0,Aa⟩)))(hm:Mp w b es c l)(hi:It w r b c (f.push e.born) c)(he:e∈es.toList):
 EX P n σ (.entry x) ty w (.tuple #[e.key,e.val]) w:=by
 intro a h i pos after g;have:=run_entry_at (P:=P) w r b c _ _ c e hi hm.blk he hm.st.2.1;simp[execOp,h.ev hx,this,Sem.run_bind,Result.andThen_ok,Sem.run_pure]
end
end
section
structure RP where
 round:Aw Y
 m:Y
 ds:Ae Deferred
 post:AP->AE->Ad->Prop
def RP.F(R:RP):Fence:={ Fence.wide with round:=R.round }
structure FrD(R:RP)(n:Y)(σ:BH)(a:AE):Prop where
 fr:Fr n σ { a with defers:=[] }
 df:a.defers=R.ds
section
variable{R:RP}{n:Y}{σ σ':BH}{a:AE}
def FrD.ev(h:FrD R n σ a){x:AF}{v:Ah}(hx:ev σ x=J v):a.eval x=v:=by
 have:=h.fr.ev hx;assumption
def FrD.sub(h:FrD R n σ a)(hs:Ei σ' σ):FrD R n σ' a:=⟨h.fr.sub hs,h.df⟩
def FrD.put(h:FrD R n σ a){d:Y}(hd:BL d n=Af)(v:Ah):FrD R n ((d,v)::σ) (a.put (J d) v):=⟨h.fr.put hd v,h.df⟩
end
def CD(P:AD)(R:RP):Ae KI->AP->AE->Ad->Prop
 |[],e=>R.post e
 |.code c::k,e=>match e with|.normal=>fun a w=>c.wpIn R.F R.m P (CD P R k) a w|e=>CD P R k e
 |.blk id::k,e=>match e with|.exit i=>fun a w=>if i=id then CD P R k .normal a w else CD P R k (.exit i) a w|e=>CD P R k e
 |.asr I::k,e=>match e with|.normal=>I|e=>CD P R k e
def KR(P:AD)(R:RP)(k:Ae KI)(n:Y)(σ:BH)(w:Ad):Prop:=∀a,FrD R n σ a->CD P R k .normal a w
section
variable{P:AD}{R:RP}{k:Ae KI}{n:Y}{σ:BH}{w:Ad}
def zC(c:AM)(k:Ae KI):CD P R (.code c::k)=Exit.then (fun a w=>c.wpIn R.F R.m P (CD P R k) a w) (CD P R k):=by
 funext e a w;cases e<;>simp[CD,Exit.then]
def zB(id:Y)(k:Ae KI):CD P R (.blk id::k)=Exit.inBlock id (CD P R k):=by
 funext e a w;cases e<;>simp[CD,Exit.inBlock]
def Vq{id:Y}:∀{k k':Ae KI},GP id k=J k'->∀a w,CD P R k (.exit id) a w=CD P R k' .normal a w
 |[],_,h,_,_=>by simp[GP]at h
 |.code c::k,k',h,a,w=>by simp[GP]at h;exact Vq h a w
 |.asr I::k,k',h,a,w=>by simp[GP]at h;exact Vq h a w
 |.blk i::k,k',h,a,w=>by
  simp[GP]at h;simp only[CD];by_cases e:id=i
  .simp_all
  .have:Jw id i=Aj:=by
    cases hb:Jw _ i with
    |false=>rfl
    |true=>simp_all
   rw[this]at h;rw[Ag e];exact Vq h a w
def Vs:∀(k:Ae KI) (a:AE) (w:Ad),CD P R k .ret a w=R.post .ret a w
 |[],_,_=>rfl
 |.code _::k,a,w=>Vs k a w
 |.blk _::k,a,w=>Vs k a w
 |.asr _::k,a,w=>Vs k a w
def BS{x y:AM}(h:KR P R (.code x::.code y::k) n σ w):KR P R (.code (.seq x y)::k) n σ w:=fun a f=>by
 have:=h a f;refine wpIn_seq ?_;rwa[<-zC]
def KR.block{id:Y}{c:AM}(h:KR P R (.code c::.blk id::k) n σ w):KR P R (.code (.block id c)::k) n σ w:=fun a f=>by
 have:=h a f;refine wpIn_block ?_;rwa[<-zB]
def La{id:Y}(h:KR P R k n σ w):KR P R (.blk id::k) n σ w:=Ce
def KR.skip(h:KR P R k n σ w):KR P R (.code .skip::k) n σ w:=fun a f=>wpIn_skip (h a f)
def pO{l:Y}(h:KR P R k n σ w):KR P R (.code (.label l)::k) n σ w:=fun a f=>wpIn_label (h a f)
def PX{id:Y}{k':Ae KI}(hk:GP id k=J k')(h:KR P R k' n σ w):KR P R (.code (.exit id)::k) n σ w:=fun a f=>
 wpIn_exit (by rw[Vq hk];exact h a f)
def Kf(h:∀a,FrD R n σ a->R.post .ret a w):KR P R (.code .ret::k) n σ w:=fun a f=>wpIn_ret (by rw[Vs];grind)
def KR.done(h:∀a,FrD R n σ a->R.post .normal a w):KR P R [] n σ w:=h
def RI{c:AF}{x y:AM}{b:Ar}(g:ev σ c=J (.bool b))(ht:b=Af->KR P R (.code x::k) n σ w)(hf:b=Aj->KR P R (.code y::k) n σ w):
 KR P R (.code (.cond c x y)::k) n σ w:=fun a f=>
 wpIn_cond_split (f.ev g) (fun e=>ht e a f) (fun e=>hf e a f)
def LS{c:AF}{x y:AM}{p:Prop}[Decidable p](hc:ev σ c=J (.bool (decide p)))(ht:p->KR P R (.code x::k) n σ w)(hf:¬p->KR P R (.code y::k) n σ w):
 KR P R (.code (.cond c x y)::k) n σ w:=
 RI hc Bg Bg
def PW{c:AF}{x y:AM}(hc:ev σ c=J (.bool Af))(h:KR P R (.code x::k) n σ w):KR P R (.code (.cond c x y)::k) n σ w:=
 RI hc (fun _=>h) Bi
def RJ{c:AF}{x y:AM}(hc:ev σ c=J (.bool Aj))(h:KR P R (.code y::k) n σ w):KR P R (.code (.cond c x y)::k) n σ w:=
 RI hc Bi (fun _=>h)
def WQ{ι:Type}(R:RP)(n:Y)(I:ι->Prop)(S:ι->BH)(W:ι->Ad)(a:AE)(w:Ad):Prop:=∃i,I i/\FrD R n (S i) a/\w=W i
def KR.cut{ι:Type}(I:ι->Prop)(S:ι->BH)(W:ι->Ad){c:AM}(h:KR P R (.code c::.asr (WQ R n I S W)::k) n σ w)(p:∀i,I i->KR P R k n (S i) (W i)):
 KR P R (.code c::k) n σ w:=fun a o=>by
 have f:=h a o;simp[CD]at f ⊢;refine Code.wpIn_mono (fun e r w' q=>?_) f;cases e with
 |normal=>obtain⟨i,g,j,rfl⟩:=q;exact p i g _ j
 |_=>omega
def pT{ι:Type}{I:ι->Prop}{S:ι->BH}{W:ι->Ad}(i:ι)(hs:Ei (S i) σ)(hw:w=W i)(hi:I i):KR P R (.asr (WQ R n I S W)::k) n σ w:=
 fun _ ha=>⟨i,hi,ha.sub hs,hw⟩
def Ry{ι:Type}(R:RP)(n:Y)(I:ι->Prop)(S:ι->BH)(W:ι->Ad)(μ:ι->Y)(i:ι)(a:AE)(w:Ad):Prop:=∃j,I j/\μ j<μ i/\FrD R n (S j) a/\w=W j
def KR.back{ι:Type}{I:ι->Prop}{S:ι->BH}{W:ι->Ad}{μ:ι->Y}{i:ι}(j:ι)(g:Ei (S j) σ)(f:w=W j)(hi:I j)(hm:μ j<μ i):
 KR P R (.asr (Ry R n I S W μ i)::k) n σ w:=fun _ h=>⟨j,hi,hm,h.sub g,f⟩
def Wx{ι:Type}(I:ι->Prop)(S:ι->BH)(W:ι->Ad)(μ:ι->Y){c:AM}(i:ι)(K:Ei (S i) σ)(G:w=W i)(hi:I i)
 (f:∀i,I i->KR P R (.code c::.asr (Ry R n I S W μ i)::k) n (S i) (W i)):KR P R (.code (.loop c)::k) n σ w:=fun a ha=>by
 let M (a:AE) (w:Ad) (m:Y):=∃i,I i/\FrD R n (S i) a/\w=W i/\μ i=m
 have p:∀a w,(∃m,M a w m)->∃m,M a w m/\∀m',M a w _->m<=m':=fun a w⟨m,o⟩=>jM _ m o
 let ν (a:AE) (w:Ad):=Classical.epsilon fun m=>M a w m/\∀m',M a w m'->m<=m'
 have C:∀a w,(∃m,M a w m)->M a w (ν a w)/\∀m',M a w _->ν a w<=m':=fun a w h=>Classical.epsilon_spec (p a w h);refine wpIn_loop (fun a w=>∃m,M a w m) ν ⟨_,i,hi,ha.sub K,G,Z⟩ fun a' w' o=>?_;obtain⟨⟨j,N,V,g,L⟩,_⟩:=C a' w' o;have h:=f j N _ V;subst g;refine Code.wpIn_mono (fun e ab E q=>?_) h;cases e with
 |normal=>
  obtain⟨j',B,h2,A,r⟩:=q;refine⟨⟨_,_,B,A,r,Z⟩,?_⟩;have:=(C _ _ ⟨_,_,B,A,r,Z⟩).2 _ ⟨_,B,A,r,Z⟩;omega
 |_=>exact q
end
section
variable{P:AD}{R:RP}{k:Ae KI}{n:Y}{σ:BH}{w:Ad}
def ci{α:Type}(R:RP)(n:Y)(I:α->Prop)(S:α->BH)(W:α->Ad)(μ:α->Y)(x0:α):AE->Ad->Prop:=
 Ry R n (fun p:α=>I p) (fun p=>S p) (fun p=>W p) (fun p=>μ p) x0
def pP{α:Type}(I:α->Prop)(S:α->BH)(W:α->Ad)(μ:α->Y){c:AM}(x0:α)(hs:Ei (S x0) σ)(hw:w=W x0)(hi:I x0)
 (round:∀x0,I x0->KR P R (.code c::.asr (ci R n I S W μ x0)::k) n (S x0) (W x0)):KR P R (.code (.loop c)::k) n σ w:=
 Wx (fun p:α=>I p) (fun p=>S p) (fun p=>W p) (fun p=>μ p) x0 hs hw hi fun p hp=>round p hp
def pL{α:Type}{I:α->Prop}{S:α->BH}{W:α->Ad}{μ:α->Y}{g:α}(f:α)(i:Ei (S f) σ)(h:w=W f)(hi:I f)(hm:μ f<μ g):
 KR P R (.asr (ci R n I S W μ g)::k) n σ w:=
 KR.back (I:=fun p:α=>I p) (S:=fun p=>S p) (W:=fun p=>W p) (μ:=fun p=>μ p) f i h hi hm
def dw{α β:Type}(R:RP)(n:Y)(I:α->β->Prop)(S:α->β->BH)(W:α->β->Ad):AE->Ad->Prop:=
 WQ R n (fun p:α×β=>I p.1 p.2) (fun p=>S p.1 p.2) (fun p=>W p.1 p.2)
def de{α β:Type}(I:α->β->Prop)(S:α->β->BH)(W:α->β->Ad){c:AM}(h:KR P R (.code c::.asr (dw R n I S W)::k) n σ w)
 (h2:∀x0 x1,I x0 x1->KR P R k n (S x0 x1) (W x0 x1)):KR P R (.code c::k) n σ w:=
 KR.cut (fun p:α×β=>I p.1 p.2) (fun p=>S p.1 p.2) (fun p=>W p.1 p.2) h Bg
def LU{α β:Type}{I:α->β->Prop}{S:α->β->BH}{W:α->β->Ad}(g:α)(f:β)(i:Ei (S g f) σ)(h:w=W g f)(hi:I g f):
 KR P R (.asr (dw R n I S W)::k) n σ w:=
 pT (I:=fun p:α×β=>I p.1 p.2) (S:=fun p=>S p.1 p.2) (W:=fun p=>W p.1 p.2) (g,f) i h hi
def cy{α β γ:Type}(R:RP)(n:Y)(I:α->β->γ->Prop)(S:α->β->γ->BH)(W:α->β->γ->Ad)(μ:α->β->γ->Y)(x0:α)(x1:β)(x2:γ):AE->Ad->Prop:=
 Ry R n (fun p:α×β×γ=>I p.1 p.2.1 p.2.2) (fun p=>S p.1 p.2.1 p.2.2) (fun p=>W p.1 p.2.1 p.2.2) (fun p=>μ p.1 p.2.1 p.2.2) (x0,x1,x2)
def pQ{α β γ:Type}(I:α->β->γ->Prop)(S:α->β->γ->BH)(W:α->β->γ->Ad)(μ:α->β->γ->Y){c:AM}(x0:α)(x1:β)(x2:γ)(hs:Ei (S x0 x1 x2) σ)(hw:w=W x0 x1 x2)(hi:I x0 x1 x2)
 (round:∀x0 x1 x2,I x0 x1 x2->KR P R (.code c::.asr (cy R n I S W μ x0 x1 x2)::k) n (S x0 x1 x2) (W x0 x1 x2)):KR P R (.code (.loop c)::k) n σ w:=
 Wx (fun p:α×β×γ=>I p.1 p.2.1 p.2.2) (fun p=>S p.1 p.2.1 p.2.2) (fun p=>W p.1 p.2.1 p.2.2) (fun p=>μ p.1 p.2.1 p.2.2) (x0,x1,x2) hs hw hi fun p hp=>round p.1 p.2.1 p.2.2 hp
def pM{α β γ:Type}{I:α->β->γ->Prop}{S:α->β->γ->BH}{W:α->β->γ->Ad}{μ:α->β->γ->Y}{o:α}{j:β}{i:γ}(h:α)(g:β)(f:γ)(r:Ei (S h g f) σ)(q:w=W h g f)(hi:I h g f)(hm:μ h g f<μ o j i):
 KR P R (.asr (cy R n I S W μ o j i)::k) n σ w:=
 KR.back (I:=fun p:α×β×γ=>I p.1 p.2.1 p.2.2) (S:=fun p=>S p.1 p.2.1 p.2.2) (W:=fun p=>W p.1 p.2.1 p.2.2) (μ:=fun p=>μ p.1 p.2.1 p.2.2) (h,g,f) r q hi hm
def cA{α β γ δ:Type}(R:RP)(n:Y)(I:α->β->γ->δ->Prop)(S:α->β->γ->δ->BH)(W:α->β->γ->δ->Ad)(μ:α->β->γ->δ->Y)(x0:α)(x1:β)(x2:γ)(x3:δ):AE->Ad->Prop:=
 Ry R n (fun p:α×β×γ×δ=>I p.1 p.2.1 p.2.2.1 p.2.2.2) (fun p=>S p.1 p.2.1 p.2.2.1 p.2.2.2) (fun p=>W p.1 p.2.1 p.2.2.1 p.2.2.2) (fun p=>μ p.1 p.2.1 p.2.2.1 p.2.2.2) (x0,x1,x2,x3)
def pR{α β γ δ:Type}(I:α->β->γ->δ->Prop)(S:α->β->γ->δ->BH)(W:α->β->γ->δ->Ad)(μ:α->β->γ->δ->Y){c:AM}(x0:α)(x1:β)(x2:γ)(x3:δ)(hs:Ei (S x0 x1 x2 x3) σ)(hw:w=W x0 x1 x2 x3)(hi:I x0 x1 x2 x3)
 (round:∀x0 x1 x2 x3,I x0 x1 x2 x3->KR P R (.code c::.asr (cA R n I S W μ x0 x1 x2 x3)::k) n (S x0 x1 x2 x3) (W x0 x1 x2 x3)):KR P R (.code (.loop c)::k) n σ w:=
 Wx (fun p:α×β×γ×δ=>I p.1 p.2.1 p.2.2.1 p.2.2.2) (fun p=>S p.1 p.2.1 p.2.2.1 p.2.2.2) (fun p=>W p.1 p.2.1 p.2.2.1 p.2.2.2) (fun p=>μ p.1 p.2.1 p.2.2.1 p.2.2.2) (x0,x1,x2,x3) hs hw hi fun p hp=>round p.1 p.2.1 p.2.2.1 p.2.2.2 hp
def Ww{α β γ δ:Type}{I:α->β->γ->δ->Prop}{S:α->β->γ->δ->BH}{W:α->β->γ->δ->Ad}{μ:α->β->γ->δ->Y}{r:α}{q:β}{o:γ}{j:δ}(i:α)(h:β)(g:γ)(f:δ)(B:Ei (S i h g f) σ)(A:w=W i h g f)(hi:I i h g f)(hm:μ i h g f<μ r q o j):
 KR P R (.asr (cA R n I S W μ r q o j)::k) n σ w:=
 KR.back (I:=fun p:α×β×γ×δ=>I p.1 p.2.1 p.2.2.1 p.2.2.2) (S:=fun p=>S p.1 p.2.1 p.2.2.1 p.2.2.2) (W:=fun p=>W p.1 p.2.1 p.2.2.1 p.2.2.2) (μ:=fun p=>μ p.1 p.2.1 p.2.2.1 p.2.2.2) (i,h,g,f) B A hi hm
end
def OR(P:AD)(R:RP)(ops:Ap AG)(l:Ae AG)(k:Ae KI)(n:Y)(σ:BH)(w:Ad):Prop:=∀a,FrD R n σ a->wpListIn R.F R.m P ops (CD P R k) l a w
section
variable{P:AD}{R:RP}{ops:Ap AG}{l rest:Ae AG}{k:Ae KI}{n:Y}{σ:BH}{w w':Ad}
def KR.region{id:Y}(h:OR P R l.toArray l k n σ w):KR P R (.code (.region id l.toArray Aj)::k) n σ w:=fun a f=>wpIn_region_lit (h a f)
def OR.nil(h:KR P R k n σ w):OR P R ops [] k n σ w:=h
def FrD.as{a:AE}(t:Y)(v':Ah){v:Ah}(ht:lk σ t=J v)(e:v=v')(ha:FrD R n σ a):FrD R n ((t,v')::σ) a:=
 ⟨⟨ha.fr.size,fun i u hu=>by
  rw[Pc]at hu;by_cases e':t=i
  .subst e';simp at hu;subst hu;rw[<-e];exact ha.fr.val t _ ht
  .simp[e']at hu;exact ha.fr.val i u hu,Bi⟩,ha.df⟩
def OR.as(t:Y)(f:Ah){v:Ah}(ht:lk σ t=J v)(e:v=f)(h:OR P R ops l k n ((t,f)::σ) w):OR P R ops l k n σ w:=fun a g=>h a (g.as t f ht e)
def KR.as(t:Y)(f:Ah){v:Ah}(ht:lk σ t=J v)(e:v=f)(h:KR P R k n ((t,f)::σ) w):KR P R k n σ w:=fun a g=>h a (g.as t f ht e)
def OR.split(t:Y){b:Ar}(ht:lk σ t=J (.bool b))(h1:b=Af->OR P R ops l k n ((t,.bool Af)::σ) w)(f:b=Aj->OR P R ops l k n ((t,.bool Aj)::σ) w):OR P R ops l k n σ w:=by
 cases b with
 |true=>exact OR.as t _ ht Z (h1 Z)
 |false=>exact OR.as t _ ht Z (f Z)
def Qm(t:Y){p:Prop}[Decidable p](ht:lk σ t=J (.bool (decide p)))(h1:p->OR P R ops l k n ((t,.bool Af)::σ) w)(h2:¬p->OR P R ops l k n ((t,.bool Aj)::σ) w):OR P R ops l k n σ w:=
 OR.split t ht Bg Bg
def Rv{a:AE}(ha:FrD R n σ a){o:AG}{b:Ar}(h:BK ops σ o.guard=J b):Region.wanted o (yielded ops a.tmps)=b:=IF ha.fr h
def RP.semAt(R:RP){ρ:AF->Ah}{o:AG}{r:Result Next}{w:Ad}(h:(execOp ρ o).run P w=r)(f:∀c,o.op≠.defer c):(o.semAt R.F.round ρ).run P w=r:=by rw[Oper.semAt_eq _ _ _ f];omega
def EX.noDefer{op:Op}{ty:Ay}{v:Ah}(he:EX P n σ op ty w v w'){a:AE}(f:Fr n σ a):∀c,op≠.defer c:=fun c e=>by
 subst e;have h:=he a f Aa "" #[] Aa;unfold execOp at h;simp only[Sem.run_bind]at h;unfold Result.andThen at h;split at h<;>simp at h
def EU.noDefer{op:Op}{ty:Ay}(he:EU P n σ op ty w w'){a:AE}(f:Fr n σ a):∀c,op≠.defer c:=fun c e=>by
 subst e;have h:=he a f Aa "" #[] Aa;unfold execOp at h;simp only[Sem.run_bind]at h;unfold Result.andThen at h;split at h<;>simp at h
def EC.noDefer{op:Op}{ty:Ay}{f:FuncId}{args:Ap Ah}(he:EC P n σ op ty w f args){a:AE}(g:Fr n σ a):∀c,op≠.defer c:=fun c e=>by
 subst e;have h:=he a g Aa "" #[] Aa;unfold execOp at h;simp only[Sem.run_bind]at h;unfold Result.andThen at h;split at h<;>simp at h
def Sz(a:AE):({ a with defers:=[] }:AE).eval=a.eval:=by rfl
def OR.val{d:Y}{op:Op}{ty:Ay}{pos:AJ}{after:Ap Edge}{g:Aw (Y×Ar)}{v:Ah}(j:BK ops σ g=J Af)(o:BL d n=Af)(he:EX P n σ op ty w v w')
 (h:OR P R ops rest k n ((d,v)::σ) w'):OR P R ops (⟨J d,op,ty,pos,after,g⟩::rest) k n σ w:=fun a f=>by
 have i:=he _ f.fr (J d) pos after g;rw[Sz]at i;unfold wpListIn;rw[Ai (Rv f j)];refine⟨fun _ _=>trivial,?_⟩;rw[R.semAt i (he.noDefer f.fr)];exact h _ (f.put o v)
def dz{op:Op}{ty:Ay}{pos:AJ}{after:Ap Edge}{g:Aw (Y×Ar)}(j:BK ops σ g=J Af)(he:EU P n σ op ty w w')
 (h:OR P R ops rest k n σ w'):OR P R ops (⟨Aa,op,ty,pos,after,g⟩::rest) k n σ w:=fun a f=>by
 have i:=he _ f.fr Aa pos after g;rw[Sz]at i;unfold wpListIn;rw[Ai (Rv f j)];refine⟨fun _ _=>trivial,?_⟩;rw[R.semAt i (he.noDefer f.fr)];exact h _ f
def Hs{d:Y}{op:Op}{ty:Ay}{pos:AJ}{after:Ap Edge}{g:Aw (Y×Ar)}(i:BK ops σ g=J Aj)(j:BL d n=Af)
 (h:OR P R ops rest k n ((d,undef)::σ) w):OR P R ops (⟨J d,op,ty,pos,after,g⟩::rest) k n σ w:=fun a f=>by
 unfold wpListIn;rw[Ag (by rw[Rv f i];simp)];exact⟨fun _ _=>trivial,h _ (f.put j undef)⟩
def eH{r:Aw Y}{m:Y}{f:FuncId}{args:Ap Ah}{Q:Ending->Ad->Prop}(h:Calls P f args w Q):CallsIn { Fence.wide with round:=r } m P f args w Q:=by
 have g:CallsIn _ m P f _ w Q:=callsIn_wide.2 h;exact g
def dy{d:Y}{op:Op}{ty:Ay}{pos:AJ}{after:Ap Edge}{g:Aw (Y×Ar)}{f:FuncId}{args:Bm}{Q:Ah->Ad->Prop}(p:BK ops σ g=J Af)(r:BL d n=Af)
 (he:EC P n σ op ty w f args.toArray) (A:Bn P f args w Q) (h:∀v w',Q v w'->OR P R ops rest k n ((d,v)::σ) w'):OR P R ops (⟨J d,op,ty,pos,after,g⟩::rest) k n σ w:=fun a i=>by
 have j:=he _ i.fr (J d) pos after g;rw[Sz]at j;unfold wpListIn;rw[Ai (Rv i p)];refine⟨fun _ _=>trivial,?_⟩;rw[R.semAt j (he.noDefer i.fr)];refine⟨fun q=>(by cases q),?_⟩;refine eH (A.2.mono fun e o⟨v,he,q⟩=>?_);subst he;exact h v _ q _ (i.put r v)
def OR.call{d:Y}{f:FuncId}{xs:Ae AF}{i:Ap Ay}{ty:Ay}{pos:AJ}{after:Ap Edge}{g:Aw (Y×Ar)}{vs:Bm}{Q:Ah->Ad->Prop}
 (o:BK ops σ g=J Af) (p:BL d n=Af) (hx:evs σ xs=J vs) (j:Bn P f vs w Q) (h:∀v w',Q v w'->OR P R ops rest k n ((d,v)::σ) w'):
 OR P R ops (⟨J d,.call { callee:=.value (.func f),args:=xs.toArray,argTypes:=i },ty,pos,after,g⟩::rest) k n σ w:=by
 obtain⟨⟨fn,r,q⟩,_⟩:=id j;exact dy o p (RD r q hx) j h
def Ui(P:AD)(m l:Y)(args:Bm)(W:Ad)(Q:Ah->Ad->Prop):Prop:=YieldAt Fence.wide m P l args.toArray W fun e W'=>∃v,e=.returned v/\Q v W'
def WW{d:Y}{x t:AF}{j:Ap Ay}{ty:Ay}{pos:AJ}{after:Ap Edge}{g:Aw (Y×Ar)}{p:Y}{v:Ah}{Q:Ah->Ad->Prop}(W:R.round=Aa)
 (C:BK ops σ g=J Af) (G:BL d n=Af) (ht:ev σ t=J (.func (.yield p) #[] #[])) (hx:ev σ x=J v) (I:Ui P (R.m-1) p [v] w Q)
 (h:∀u w',Q u w'->OR P R ops rest k n ((d,u)::σ) w'):
 OR P R ops (⟨J d,.call { callee:=.value t,args:=#[x],argTypes:=j },ty,pos,after,g⟩::rest) k n σ w:=fun a o=>by
 obtain⟨V,m,S,i⟩:=R;obtain⟨fn,f,assign,body,B,K⟩:=I;have N:=by have:=o.fr.ev ht;rwa[Sz]at this
 have ex:=by have:=o.fr.ev hx;rwa[Sz]at this
 unfold wpListIn;rw[Ai (Rv o C)];refine⟨fun _ _=>trivial,?_⟩
 have L:(execOp a.eval ⟨J d,.call { callee:=.value t,args:=#[x],argTypes:=j },ty,pos,after,g⟩).run P w=.ok (.round p fn f assign body) w:=by
  simp[execOp,resolve,Deferred.ofValue,N,invoke];simpa[ex]using B
 rw[RP.semAt _ L Bi];refine⟨fun q=>(by cases q),?_⟩;have r:RoundIn (RP.F ⟨_,m,S,i⟩) (m-1) P _ _ _ _ _ w _:=K;refine r.mono fun e A⟨u,E,q⟩=>?_;subst E;exact h u _ q _ (o.put G u)
end
section
variable{P:AD}{R:RP}{ops:Ap AG}{rest:Ae AG}{k:Ae KI}{n:Y}{σ:BH}{w:Ad}{x y t:AF}{T T' e ty:Ay}{pos:AJ}{after:Ap Edge}{gd:Aw (Y×Ar)}{d:Y}{v z:Ah}{s bs:Y}{l:Bm}
def qg(hg:BK ops σ gd=J Af)(hd:BL d n=Af)(hx:ev σ x=J v)(h1:v.oneCell'=Af)
 (h:∀b w',w.heap.size<=b->Bk w' b T [v]->Bf w w'->OR P R ops rest k n ((d,.pointer (J ⟨b,0,Aa⟩))::σ) w'):
 OR P R ops (⟨J d,.box T x,ty,pos,after,gd⟩::rest) k n σ w:=
 OR.val hg hd (cB hx h1) (h _ _ X (Bk.new w T [v]) (Bf.alloc w _))
def JA(hg:BK ops σ gd=J Af)(hd:BL d n=Af)(hi:TI P T z s bs)(hl:z.cells.toList=l)
 (h:∀b w',w.heap.size<=b->Bk w' b T l->Bf w w'->OR P R ops rest k n ((d,.pointer (J ⟨b,0,Aa⟩))::σ) w'):
 OR P R ops (⟨J d,.alloc T,ty,pos,after,gd⟩::rest) k n σ w:=
 OR.val hg hd (EX.alloc hi hl) (h _ _ X (Bk.new w T l) (Bf.alloc w _))
def JB{b i:Y}(hg:BK ops σ gd=J Af)(hi:TI P T z 1 bs)(hx:ev σ x=J (.pointer (J ⟨b,i,Aa⟩)))(hy:ev σ y=J v)(h1:v.oneCell'=Af)(hb:Bk w b T' l)(hlt:i<Ajb l)
 (h:∀w',Bk w' b T' (l.set i v)->Mo w w' [b]->OR P R ops rest k n σ w'):
 OR P R ops (⟨Aa,.store T x y,ty,pos,after,gd⟩::rest) k n σ w:=
 dz hg (RF hi hx hy h1 hb hlt) (h _ (hb.set i v) (Mo.set w b i v))
def dx{BO:Ap (Y×AF)}{vs:Bm}(len:Y)(hg:BK ops σ gd=J Af)(hd:BL d n=Af)(ht:P.underlying T=J (.slice e))(hi:TI P e z 1 bs)(hz1:z.oneCell'=Af)
 (hv:evs σ (BO.toList.map (·.2))=J vs) (hp:BO.toList.map (·.1)=Ha 0 (Ajb BO.toList)) (hl:Ajb vs=len) (h1:vs.all (·.oneCell')=Af) (hlen:len<=16777216)
 (h:∀b w',w.heap.size<=b->Bk w' b e vs->Bf w w'->OR P R ops rest k n ((d,.slice (J ⟨b,0,Aa⟩) len len)::σ) w'):
 OR P R ops (⟨J d,.buildSlice T len BO,ty,pos,after,gd⟩::rest) k n σ w:=
 OR.val hg hd (EX.buildSlice len ht hi hz1 hv hp hl h1 hlen) (h _ _ X (Bk.new w e vs) (Bf.alloc w _))
def Ql{f:FuncId}{xs:Ae AF}{g:Ap Ay}{vs j o args:Bm}{Q:Ah->Ad->Prop}
 (p:BK ops σ gd=J Af) (q:BL d n=Af) (ht:ev σ t=J (.func (.func f) j.toArray o.toArray)) (hx:evs σ xs=J vs) (he:j++vs++o=args) (i:Bn P f args w Q)
 (h:∀v w',Q v w'->OR P R ops rest k n ((d,v)::σ) w'):
 OR P R ops (⟨J d,.call { callee:=.value t,args:=xs.toArray,argTypes:=g },ty,pos,after,gd⟩::rest) k n σ w:=by
 obtain⟨⟨fn,A,r⟩,_⟩:=id i;exact dy p q (EC.val A r ht hx he) i h
end
section
variable{P:AD}{R:RP}{ops:Ap AG}{rest:Ae AG}{k:Ae KI}{n:Y}{σ:BH}{w:Ad}{x y:AF}{t t' e ty:Ay}{pos:AJ}{after:Ap Edge}{gd:Aw (Y×Ar)}{d:Y}
def OR.append(B:Y){z:Ah}{s bs:Y}(K:BK ops σ gd=J Af)(L:BL d n=Af)(ht:P.underlying t=J (.slice e))(hi:TI P e z s bs)(p:z.cells.size=s)(q:0<s)
 {v C:Ah} {m l:Y} {xs i:Bm} (hx:ev σ x=J v) (G:ev σ y=J C) (o:Bo w B e s v l xs) (j:Src P s t' C m i w)
 (r:l+m<=maxLen) (f:(l+m)*bs<=140737488355328) (N:B<=w.heap.size)
 (h:∀v' w',Bo w' B e s v' (l+m) (xs++i)->w.grownBy w' v.ownBlock->(v'.ownBlock=v.ownBlock∨v'.ownBlock=J w.heap.size)->OR P R ops rest k n ((d,v')::σ) w'):
 OR P R ops (⟨J d,.call { callee:=.builtin .append,args:=#[x,y],argTypes:=#[t,t'] },ty,pos,after,gd⟩::rest) k n σ w:=by
 obtain⟨v',w',I,h2,W,V⟩:=VD (P:=P) B t t' ty e ht hi p q o j r f N;refine OR.val K L (v:=v') (w':=w') ?_ Bg;intro A E S pos after g;simp[execOp,resolve,invoke,builtin,Sem.run_bind,Sem.run_pure,Result.andThen_ok,GC,Co,Ep,E.ev hx,E.ev G,I]
end
section
variable{P:AD}{R:RP}{ops:Ap AG}{rest:Ae AG}{k:Ae KI}{n:Y}{σ:BH}{w w0:Ad}{x y:AF}{t t' e ty ty1:Ay}{pos pos1:AJ}{after after1:Ap Edge}{gd gd1:Aw (Y×Ar)}{d d1:Y}
def qf{z:Ah}{s bs:Y}(hg:BK ops σ gd=J Af)(hd:BL d n=Af)(ht:P.underlying t=J (.slice e))(hi:TI P e z s bs)(hzs:z.cells.size=s)(hs0:0<s)
 {v xv:Ah} {m l:Y} {xs news:Bm} (hx:ev σ x=J v) (hy:ev σ y=J xv) (hext:Bf w0 w) (hown:Bo w w0.heap.size e s v l xs) (hsrc:Src P s t' xv m news w)
 (h63:l+m<=maxLen) (hbytes:(l+m)*bs<=140737488355328)
 (h:∀v' w',Bo w' w0.heap.size e s v' (l+m) (xs++news)->Bf w0 w'->w.grownBy w' v.ownBlock->(v'.ownBlock=v.ownBlock∨v'.ownBlock=J w.heap.size)->OR P R ops rest k n ((d,v')::σ) w'):
 OR P R ops (⟨J d,.call { callee:=.builtin .append,args:=#[x,y],argTypes:=#[t,t'] },ty,pos,after,gd⟩::rest) k n σ w:=
 OR.append w0.heap.size hg hd ht hi hzs hs0 hx hy hown hsrc h63 hbytes hext.size fun v' w' h1 h2 h3=>h v' w' h1 (hext.grown h2 fun g hg=>(hown.lt g hg).1) h2 h3
def OR.push{z:Ah}{bs:Y}(C:BK ops σ gd1=J Af)(E:BL d1 n=Af)(S:∀u,BK ops ((d1,u)::σ) gd=J Af)(V:BL d n=Af)(ht:P.underlying t=J (.slice e))(hi:TI P e z 1 bs)(i:z.oneCell'=Af)
 {v u:Ah} {l:Y} {xs:Bm} (L:ev σ y=J u) (hx:∀q,ev ((d1,q)::σ) x=J v) (hu:u.oneCell'=Af) (p:Bf w0 w) (o:Bo w w0.heap.size e 1 v l xs)
 (G:l+1<=maxLen) (f:(l+1)*bs<=140737488355328)
 (h:∀q v' w',Bo w' w0.heap.size e 1 v' (l+1) (xs++[u])->Bf w0 w'->w.grownBy w' v.ownBlock->(v'.ownBlock=v.ownBlock∨∃g,v'.ownBlock=J g/\w.heap.size<=g)->OR P R ops rest k n ((d,v')::(d1,q)::σ) w'):
 OR P R ops (⟨J d1,.buildSlice t 1 #[(0,y)],ty1,pos1,after1,gd1⟩::⟨J d,.call { callee:=.builtin .append,args:=#[x,.tmp d1],argTypes:=#[t,t] },ty,pos,after,gd⟩::rest) k n σ w:=by
 refine OR.val C E (EX.buildSlice (vs:=[u]) 1 ht hi i (by simp[evs,L]) Z Z Bg Bc) ?_;have A:Bf _ (w.alloc (.cells [u].toArray e)):=p.trans (Bf.alloc w _);have K:=Bk.new w e [u];refine qf (S _) V ht hi (LF i▸Z) Bc (hx _) (Pd _ _ _) A (o.alloc _) (Src.Agn ht (Sl.Agl K K.lt) Z Bg Bc) G f ?_;intro v' w' h1 W r I;refine h _ _ _ h1 W ⟨r.os,r.tape,r.output,by have:=r.size;simp_all;omega,fun j N B=>?_⟩ ?_
 .rw[r.block j Bx B];exact Below.heap_alloc w _ j N
 .rcases I with I|I
  .grind
  .simp_all
end
def RP.mark(R:RP)(D:Y):RP:={ R with ds:={ target:=.collected D,args:=#[] }::R.ds }
def Pu{P:AD}{R:RP}{D:Y}:∀(k:Ae KI) (e:AP),CD P (R.mark D) k e=CD P R k e
 |[],e=>rfl
 |.code c::k,e=>by
  have ih:CD P (R.mark D) k=CD P R k:=funext (Pu k);cases e<;>(simp[CD,ih];try rfl)
 |.blk id::k,e=>by
  have ih:CD P (R.mark D) k=CD P R k:=funext (Pu k);cases e<;>simp[CD,ih]
 |.asr I::k,e=>by
  have ih:CD P (R.mark D) k=CD P R k:=funext (Pu k);cases e<;>simp[CD,ih]
section
variable{P:AD}{R:RP}{k:Ae KI}{n:Y}{σ:BH}{w:Ad}
def Rq{b:Frame}{a:AE}{c:AM}{k:Ae Item}{cs:Ae Frame}:step P (lone (b.atR a (.code (.scope c)::k)) cs w)=.next (lone (b.atR a (.code c::.inScope c::k)) cs w):=
 step_lone_go (by rfl)
def Adf{b:Frame}{a:AE}{c:AM}{k:Ae Item}{cs:Ae Frame}:step P (lone (b.atR a (.inScope c::k)) cs w)=.next (lone (b.atR a k) cs w):=
 step_lone_go (by rfl)
def Afq{F:Fence}{n:Y}{a:AE}{Q:AP->AE->Ad->Prop}{c:AM}(h:c.wpIn F n P Q a w)(G:∀l a w,Q (.goto l) a w->False):(Code.scope c).wpIn F n P Q a w:=by
 intro b k B j r p;have g:(lone (b.atR a (.code (.scope c)::k)) _ w).fenced P F:=fenced_calm r p Z;obtain⟨e,I,C,i,f⟩:=h b (.inScope c::k) B j r p;cases e with
 |normal=>exact⟨_,_,_,i,.head g Rq (StepsIn.trans f (.one (fenced_calm r p Z) Adf))⟩
 |exit id=>
  have A:exitTo id (.inScope c::k)=exitTo id k:=by simp[exitTo]
  exact⟨_,_,_,i,fun E q=>.head g Rq (f.1 _ (A▸q)),
   fun o q=>let ⟨_,h1,h2⟩:=f.2 o (A▸q);⟨_,h1,.head g Rq h2⟩⟩
 |goto l=>grind
 |ret=>exact⟨_,_,_,i,.of_steps (.one g Rq) f⟩
 |panic ch=>exact⟨_,_,_,i,.of_steps (.one g Rq) f⟩
 |outgrown=>exact⟨_,_,_,i,.of_steps (.one g Rq) f⟩
def Vr{l:Y}:∀(k:Ae KI) (a:AE) (w:Ad),CD P R k (.goto l) a w=R.post (.goto l) a w
 |[],_,_=>rfl
 |.code _::k,a,w=>Vr k a w
 |.blk _::k,a,w=>Vr k a w
 |.asr _::k,a,w=>Vr k a w
def KR.scope{c:AM}(f:∀l a w,R.post (.goto l) a w->False)(h:KR P R (.code c::k) n σ w):KR P R (.code (.scope c)::k) n σ w:=fun a g=>
 Afq (h a g) (fun l a w q=>f l a w (by rw[Vr]at q;omega))
def pN{id:Y}(hk:GP id k=Aa)(h:∀a,FrD R n σ a->R.post (.exit id) a w):KR P R (.code (.exit id)::k) n σ w:=fun a g=>by
 refine wpIn_exit ?_
 have f:∀k,GP id k=Aa->CD P R k (.exit id) a w=R.post (.exit id) a w:=by
  intro k
  induction k with
  |nil=>intro _;rfl
  |cons x k ih=>
   intro hk;cases x with
   |code c=>exact ih hk
   |asr I=>exact ih hk
   |blk i=>
    simp[GP]at hk;by_cases e:id=i
    .simp_all
    .have:Jw id i=Aj:=by
      cases hb:Jw _ i with
      |false=>rfl
      |true=>grind
     simp[CD];grind
 grind
def pU{α:Type}(hr:R.round=Aa)(hm:1<=R.m){g:AF}{p d id:Y}{op:Op}{ty:Ay}{pos:AJ}{after:Ap Edge}{body:AM}{gf:Y}{lb:Bm}{fn:Func}
 (hf:P.funcs[gf]? =J fn) (hn:(!(fn.name== "runtime.NumGoroutine") && fn.body.isSome)=Af)
 (hg:ev σ g=J (.func (.func gf) #[] lb.toArray)) (hp:BL p n=Af) (hd:BL d n=Af)
 (af:∀(a:AE) (W:Ad),(execOp a.eval ⟨J d,op,ty,pos,after,Aa⟩).run P W=.ok (.value (a.eval (.tmp p))) W) (L:∀c,op≠.defer c)
 {enc:α->Ah} {Kp:Ad->Ad->Prop} {S Sp:Ae α->Prop} {N:Y} (G:SeqStopsK Fence.wide (R.m-1) P gf lb.toArray (fun x=>#[enc x]) Kp S Sp N w)
 (aj:∀{A B C:Ad},Kp A B->Kp B C->Kp A C) (al:∀(W:Ad) (l:Y) (o o':Obj),w.heap.size<=l->W.heap[l]? =J o->o.isCells=Aj->o.isWalk=Aj->Kp W (W.putObj l o'))
 (I:Ae α->Ad->Prop) (Ix:AM->Ae α->Ad->Prop) (hI:OwnFrom w.heap.size I) (ao:∀c,OwnFrom w.heap.size (Ix c)) (h0:I [] w)
 (r:∀(l:Y) (pre:Ae α) (x:α) (W:Ad),I pre W->Ajb pre<N->KR P ⟨J l,R.m-1-1,[],ownPostK Kp I Ix (pre++[x]) W⟩ [.code body] n ((d,enc x)::(p,enc x)::σ) W)
 (q:∀(D:Y) (xs:Ae α) (W:Ad),w.heap.size<=D->S xs->I xs W->W.heap[D]? =J (.deferred (J []))->KR P (R.mark D) k n σ W)
 (j:∀(D:Y) (c:AM) (pre:Ae α) (W:Ad),w.heap.size<=D->Sp pre->Ix c pre W->W.heap[D]? =J (.deferred (J []))->KR P (R.mark D) (.code c::k) n σ W):
 KR P R (.code (.rangeFunc g #[p] (.region id #[⟨J d,op,ty,pos,after,Aa⟩] Aj) body)::k) n σ w:=fun a E=>by
 obtain⟨ro,m,ds,a0⟩:=R;subst hr;have ai:=E.ev hg;have ab:p<a.tmps.size:=by have:=E.fr.size;rw[this];simpa[Nat.blt_eq]using hp
 refine wpIn_rangeFunc_ownF (F:=Fence.wide) (n:=m) Z hm (lb:=lb.toArray) ai AB (fun i w=>Rh hf hn i) G aj al (Below.refl _ _) (fun _=>rfl) I Ix hI ao h0
  (fun x=>{ tmps:=(a.tmps.setIfInBounds p (enc x)).setIfInBounds d (enc x),defers:=[] }) ?_ ?_ ?_ ?_
 .intro l x W K hK;refine wpIn_region_lit ?_;have ez:∀f,((#[p]:Ap Tmp).zip #[enc x]).foldl f a.tmps=f a.tmps (p,enc x):=Bi;rw[ez];unfold wpListIn;refine⟨fun _ _=>trivial,?_⟩;rw[Oper.semAt_eq _ _ _ L,af];have e:(({ tmps:=a.tmps.setIfInBounds p (enc x),defers:=[] }:AE).eval (.tmp p))=enc x:=by simp[Act.eval,ab]
  rwa[e]
 .intro l pre x W V hl;exact r l _ x W V hl _ ⟨(E.fr.put hp _).put hd _,Z⟩
 .intro D xs W hD hS V hK;have h:=q D _ W hD hS V hK { a with defers:={ target:=.collected D,args:=#[] }::a.defers } ⟨E.fr,by show _::a.defers=_::ds;rw[E.df]⟩;rwa[Pu]at h
 .intro D c pre W hD hS V hK;have h:=j D c _ W hD hS V hK { a with defers:={ target:=.collected D,args:=#[] }::a.defers } ⟨E.fr,by show _::a.defers=_::ds;rw[E.df]⟩;rwa[Pu]at h
end
def Sc{P:AD}{f:FuncId}{fn:Func}{c:AM}{args:Bm}{w:Ad}{Q:Ah->Ad->Prop}{n:Y}(m:Y)(hf:P.funcs[f]? =J fn)(j:fn.body=J c)(g:fn.ntmps=n)
 (o:(!(fn.name== "runtime.NumGoroutine") && fn.body.isSome)=Af) (hl:Ajb args+(n-Ajb args)=n)
 (h:KR P ⟨Aa,m,[],bodyPostM Fence.wide m P fn (fun e w'=>∃v,e=.returned v/\Q v w')⟩ [.code c] n (Ln 0 args) w):Bn P f args w Q:=by
 refine⟨Bg,(callsIn_wide (n:=m)).1 (callsIn_of_wp_marks hf j AB ?_)⟩
 have i:Fr n (Ln 0 args) { tmps:=args.toArray++JX (fn.ntmps-args.toArray.size) undef,defers:=[] }:=by
  have:=Fr.start args (n-Ajb args);rw[hl]at this;simpa[g]using this
 exact h _ ⟨i,Z⟩
section
variable{P:AD}{fn:Func}{Q:Ah->Ad->Prop}{n m D:Y}{σ:BH}{w:Ad}{R:RP}
def mg{v:Ah}{e:AP}(he:e=.normal∨e=.ret)(f:R.ds=[])(j:R.post=bodyPostM Fence.wide m P fn (fun e w'=>∃v,e=.returned v/\Q v w'))(h:∀a,FrD R n σ a->(results fn a.tmps).run P w=.ok v w)(i:Q v w):
 ∀a,FrD R n σ a->R.post e a w:=fun a g=>by
 rw[j]
 have o:LeavesInM Fence.wide m P fn a.tmps (fun e w'=>∃v,e=.returned v/\Q v w') a.defers .returning w:=by
  rw[g.df,f];exact⟨v,h a g,v,Z,i⟩
 rcases he with rfl|rfl<;>exact o
def Aac{v:Ah}{e:AP}(he:e=.normal∨e=.ret)(f:R.ds=[{ target:=.collected D,args:=#[] }])(j:R.post=bodyPostM Fence.wide m P fn (fun e w'=>∃v,e=.returned v/\Q v w'))(o:w.heap[D]? =J (.deferred (J [])))
 (h:∀a w,FrD R n σ a->(results fn a.tmps).run P w=.ok v w) (i:Q v (w.putObj D (.deferred Aa))):
 ∀a,FrD R n σ a->R.post e a w:=fun a g=>by
 rw[j]
 have p:LeavesInM Fence.wide m P fn a.tmps (fun e w'=>∃v,e=.returned v/\Q v w') a.defers .returning w:=by
  rw[g.df,f];exact⟨Bi,.inl ⟨D,_,Z,run_takeDeferred o,v,h a _ g,v,Z,i⟩⟩
 rcases he with rfl|rfl<;>exact p
def SY{e:AP}(he:e=.normal∨e=.ret)(hds:R.ds=[])(hp:R.post=bodyPostM Fence.wide m P fn (fun e w'=>∃v,e=.returned v/\Q v w'))(hs:fn.results=#[])(hq:Q (.tuple #[]) w):∀a,FrD R n σ a->R.post e a w:=
 mg he hds hp (fun _ _=>results_none hs _ _ _) hq
def me{e:AP}(he:e=.normal∨e=.ret){t u:Y}{v x:Ah}(hds:R.ds=[])(hp:R.post=bodyPostM Fence.wide m P fn (fun e w'=>∃v,e=.returned v/\Q v w'))(hs:fn.results=#[.tmp t,.tmp u])(hv:lk σ t=J v)(hx:lk σ u=J x)(hq:Q (.tuple #[v,x]) w):
 ∀a,FrD R n σ a->R.post e a w:=
 mg he hds hp (fun a ha=>by rw[results_tmp2 hs];have h1:=ha.fr.val t v hv;have h2:=ha.fr.val u x hx;simp_all) hq
def Vz{e:AP}(he:e=.normal∨e=.ret){t u:Y}{v x:Ah}(hds:R.ds=[{ target:=.collected D,args:=#[] }])(hp:R.post=bodyPostM Fence.wide m P fn (fun e w'=>∃v,e=.returned v/\Q v w'))(hK:w.heap[D]? =J (.deferred (J [])))(hs:fn.results=#[.tmp t,.tmp u])(hv:lk σ t=J v)(hx:lk σ u=J x)(hq:Q (.tuple #[v,x]) (w.putObj D (.deferred Aa))):
 ∀a,FrD R n σ a->R.post e a w:=
 Aac he hds hp hK (fun a w ha=>by rw[results_tmp2 hs];have h1:=ha.fr.val t v hv;have h2:=ha.fr.val u x hx;simp_all) hq
end
def Bf.putObj{w W:Ad}(h:Bf w W){D:Y}(hD:w.heap.size<=D)(o:Obj):Bf w (W.putObj D o):=
 ⟨h.os,h.tape,h.output,by simpa using h.size,fun k hk=>(World.putObj_heap_other X).trans (h.block k hk)⟩
def Bk.putObj{w:Ad}{b D:Y}{T:Ay}{l:Bm}(h:Bk w b T l)(hD:b≠D)(o:Obj):Bk (w.putObj D o) b T l:=h.of_block (World.putObj_heap_other hD)
section
variable{P:AD}{R:RP}{ops:Ap AG}{rest:Ae AG}{k:Ae KI}{n:Y}{σ:BH}{w w0:Ad}{x y t:AF}{T T' e ty ty1:Ay}{pos pos1:AJ}{after after1:Ap Edge}{gd gd1:Aw (Y×Ar)}{d d1:Y}{v z:Ah}{s bs:Y}{l:Bm}
def qk{b o:Y}{vs:Bm}(j:BK ops σ gd=J Af)(hi:TI P T z s bs)(hx:ev σ x=J (.pointer (J ⟨b,o,Aa⟩)))(g:ev σ y=J (.agg vs.toArray))(i:Ajb vs=s)(h1:vs.all (·.oneCell')=Af)(q:Bk w b T' l)(hlt:o+Ajb vs<=Ajb l)
 (h:∀w',Bk w' b T' (l.take o++vs++l.drop (o+Ajb vs))->Mo w w' [b]->OR P R ops rest k n σ w'):
 OR P R ops (⟨Aa,.store T x y,ty,pos,after,gd⟩::rest) k n σ w:=by
 obtain⟨w',p,f,a⟩:=Tv (P:=P) (n:=n) (ty:=ty) hi hx g i h1 q hlt;exact dz j p (h _ f (Mo.grown a Bi))
def qj{t e:Ay}(B:Y){z:Ah}(p:BK ops σ gd1=J Af)(r:BL d1 n=Af)(I:∀u,BK ops ((d1,u)::σ) gd=J Af)(K:BL d n=Af)(ht:P.underlying t=J (.slice e))(hi:TI P e z s bs)(i:z.cells.size=s)(f:0<s)(G:s<=16777216)
 {v:Ah} {vs:Bm} {l:Y} {xs:Bm} (E:ev σ y=J (.agg vs.toArray)) (hl:Ajb vs=s) (hx:∀q,ev ((d1,q)::σ) x=J v) (W:vs.all (·.oneCell')=Af) (L:B<=w.heap.size) (j:Bo w B e s v l xs)
 (A:l+1<=maxLen) (a:(l+1)*bs<=140737488355328)
 (h:∀q v' w',Bo w' B e s v' (l+1) (xs++vs)->Mo w w' v.ownBlock.toList->(v'.ownBlock=v.ownBlock∨∃g,v'.ownBlock=J g/\w.heap.size<=g)->OR P R ops rest k n ((d,v')::(d1,q)::σ) w'):
 OR P R ops (⟨J d1,.buildSlice t 1 #[(0,y)],ty1,pos1,after1,gd1⟩::⟨J d,.call { callee:=.builtin .append,args:=#[x,.tmp d1],argTypes:=#[t,t] },ty,pos,after,gd⟩::rest) k n σ w:=by
 refine OR.val p r (Wk ht hi i f G E hl) ?_;have o:Bf w (w.alloc (.cells vs.toArray e)):=Bf.alloc w _;have C:=Bk.new w e vs;refine OR.append B (I _) K ht hi i f (hx _) (Pd _ _ _) (j.alloc _) (Src.Agn ht (Sl.Agl C C.lt) X Bg f) A a (BC L Bi) ?_;intro v' w' V S N;exact h _ _ _ V (Mo.append o S) (N.imp id fun e=>⟨_,e,Bi⟩)
end
section
variable{P:AD}{fn:Func}{Q:Ah->Ad->Prop}{n m D:Y}{σ:BH}{w:Ad}{R:RP}
def QM{T T':Ay}{b:Y}{v:Ah}{d:TypeDesc}(a:P.underlying T=J d)(f:flat d=Af)(h:Bk w b T' [v]):(loadVar T ⟨b,0,Aa⟩).run P w=.ok v w:=by
 have g:=h.cell_of (i:=0) Z;simp[loadVar,MG a,f,Sem.run,g]
def zZ{t u:Y}{T f:Ay}(h:fn.results=#[.cell t T,.cell u f])(tmps:Ap Ah)(P:AD)(w:Ad):
 (results fn tmps).run P w=((asAddr (tmps.getD t undef)).run P w).andThen fun a w₁=>((loadVar T a).run P w₁).andThen fun v w₂=>((asAddr (tmps.getD u undef)).run P w₂).andThen fun a' w₃=>((loadVar f a').run P w₃).andThen fun v' w₄=>.ok (.tuple #[v,v']) w₄:=by
 simp only[results,h];simp
def Abl{t u:Y}{T h T' E:Ay}{b c:Y}{v x:Ah}{d j:TypeDesc}(p:fn.results=#[.cell t T,.cell u h])(o:P.underlying T=J d)(q:flat d=Af)(f:P.underlying h=J j)(g:flat j=Af)
 (hv:lk σ t=J (.pointer (J ⟨b,0,Aa⟩))) (hx:lk σ u=J (.pointer (J ⟨c,0,Aa⟩))) (A:Bk w b T' [v]) (r:Bk w c E [x]) (a:AE) (i:FrD R n σ a):(results fn a.tmps).run P w=.ok (.tuple #[v,x]) w:=by
 rw[zZ p];have C:=i.fr.val t _ hv;have B:=i.fr.val u _ hx;simp[C,B,asAddr,QM o q A,QM f g r]
def Aab{e:AP}(he:e=.normal∨e=.ret){t u:Y}{T j T' L:Ay}{b c:Y}{v x:Ah}{d A:TypeDesc}(g:R.ds=[{ target:=.collected D,args:=#[] }])(G:R.post=bodyPostM Fence.wide m P fn (fun e w'=>∃v,e=.returned v/\Q v w'))(K:w.heap[D]? =J (.deferred (J [])))(C:fn.results=#[.cell t T,.cell u j])(B:P.underlying T=J d)(I:flat d=Af)(f:P.underlying j=J A)(i:flat A=Af)
 (hv:lk σ t=J (.pointer (J ⟨b,0,Aa⟩))) (hx:lk σ u=J (.pointer (J ⟨c,0,Aa⟩))) (p:Bk w b T' [v]) (o:Bk w c L [x]) (E:Q (.tuple #[v,x]) (w.putObj D (.deferred Aa))):∀a,FrD R n σ a->R.post e a w:=fun a q=>by
 have nb:∀{b:Y} {T:Ay} {l:Bm},Bk w b T l->b≠D:=fun {b T l} h e=>by
  obtain⟨N,r,_⟩:=h;grind
 rw[G]
 have r:LeavesInM Fence.wide m P fn a.tmps (fun e w'=>∃v,e=.returned v/\Q v w') a.defers .returning w:=by
  rw[q.df,g];exact⟨Bi,.inl ⟨D,_,Z,run_takeDeferred K,_,Abl C B I f i hv hx (p.putObj (nb p) _) (o.putObj (nb o) _) a q,_,Z,E⟩⟩
 rcases he with rfl|rfl<;>exact r
end
def NI{n:Y}{σ:BH}{w:Ad}{P:AD}{fn:Func}{Q:Ah->Ad->Prop}{t u q:Y}{T T':Ay}{b s bs:Y}{z x y:Ah}{d:TypeDesc}{l:Bm}(i:fn.results=#[.cell t T,.tmp u,.tmp q])(g:P.underlying T=J d)(o:flat d=Aj)(hi:TI P T z s bs)(hv:lk σ t=J (.pointer (J ⟨b,0,Aa⟩)))(hx:lk σ u=J x)(f:lk σ q=J y)
 (p:Bk w b T' l) (hl:Ajb l=s) (j:Q (.tuple #[.agg l.toArray,x,y]) w):∀a,Fr n σ a->bodyPost P fn (fun e w'=>∃v,e=.returned v/\Q v w') .ret a w:=
 ME (fun a ha=>by
  have h:=Jp (x:=.tmp t) (ty:=0) g o hi hv p hl a ha Aa "" #[] Aa
  have h1:(loadVar T ⟨b,0,Aa⟩).run P w=.ok (.agg l.toArray) w:=by
   have C:=ha.ev (x:=.tmp t) hv;simp[execOp,Instr.loadAt,Instr.sureAddr,Sem.run_pure]at h;cases hr:(loadVar T _).run P w with
   |ok v w'=>simp_all
   |halt q w'=>simp_all
  have B:=ha.val t _ hv;have A:=ha.val u _ hx;have r:=ha.val q _ f;simp only[results,i];simp[B,A,r,asAddr,h1]) j
section
variable{P:AD}{R:AE->Ad->Prop}{k:Ae KI}{n:Y}{σ:BH}{w:Ad}{c c':AM}
end
def Abd{β:Type}(S:Bj)(B:Y)(I:β->Ad->Prop):Prop:=∀s W W' T,I s W->Mo W W' T->(∀k∈T,k∈S∨(B<=k/\∃o:Obj,W.heap[k]? =J o/\o.isCells=Aj))->I s W'
def AbS{β:Type}(S:Bj)(j6:β->Ad->Prop):Prop:=∀s W W',j6 s W->Mo W W' S->j6 s W'
def SeqM{α:Type}(n:Y)(P:AD)(g:Y)(lb:Bm)(encs:α->Bm)(S:Bj)(G:Ad->Prop)(Fin Stop:Ae α->Prop)(N:Y)(w:Ad):Prop:=
 ∀(l:Y) (j6 Jx:Ae α->Ad->Prop) (W:Ad),Bf w W->AbS S j6->AbS S Jx->(∀pre W1,j6 pre W1->G W1)->
  (∀pre x W1,j6 pre W1->Ajb pre<N->Ui P (n-1) l (encs x) W1 fun v W'=>(v=.bool Af/\j6 (pre++[x]) W'/\∀k∈S,W'.heap[k]? =W1.heap[k]?)∨(v=.bool Aj/\Jx (pre++[x]) W'))->
  j6 [] W->CallsIn Fence.wide n P g (#[.func (.yield l) #[] #[]]++lb.toArray) W fun e W'=>(∃v,e=.returned v)/\((∃xs,Fin xs/\j6 xs W')∨(∃pre,Stop pre/\Jx pre W'))
def NC(w:Ad)(l:Y)(o:Obj):Mo w (w.putObj l o) [l]:=⟨Z,Z,Z,Bi,fun k _ hk=>World.putObj_heap_other Bg⟩
def Bk.abd{W W':Ad}{S T:Bj}{b B:Y}{j8:Ay}{l:Bm}(h:Bk W b j8 l)(hm:Mo W W' T)(hT:∀k∈T,k∈S∨(B<=k/\∃o:Obj,W.heap[k]? =J o/\o.isCells=Aj))(hb:b∉S):Bk W' b j8 l:=
 h.mo hm fun hk=>by
  rcases hT b hk with q|⟨_,o,ho,hc⟩
  .grind
  .obtain⟨fr,h1,_⟩:=h;rw[h1]at ho;cases ho;cases hc
def Bo.abd{W W':Ad}{S T:Bj}{B B0 s n:Y}{j8:Ay}{v:Ah}{xs:Bm}(h:Bo W B0 j8 s v n xs)(hm:Mo W W' T)(hT:∀k∈T,k∈S∨(B<=k/\∃o:Obj,W.heap[k]? =J o/\o.isCells=Aj))(hb:∀k,v.ownBlock=J k->k∉S):Bo W' B0 j8 s v n xs:=
 h.mo hm fun k hk hkT=>by
  rcases hT k hkT with q|⟨_,o,ho,hc⟩
  .grind
  .obtain⟨_,l,fr,h1,_⟩:=h.blkT k hk;rw[h1]at ho;cases ho;cases hc
section
variable{P:AD}{R:RP}{ops:Ap AG}{rest:Ae AG}{k:Ae KI}{n:Y}{σ:BH}{w:Ad}
def Vp{ds:Ae Deferred}:∀(k:Ae KI) (e:AP),CD P { R with ds:=ds } k e=CD P R k e
 |[],e=>rfl
 |.code c::k,e=>by
  have ih:CD P { R with ds:=ds } k=CD P R k:=funext (Vp k);cases e<;>(simp[CD,ih];try rfl)
 |.blk id::k,e=>by
  have ih:CD P { R with ds:=ds } k=CD P R k:=funext (Vp k);cases e<;>simp[CD,ih]
 |.asr I::k,e=>by
  have ih:CD P { R with ds:=ds } k=CD P R k:=funext (Vp k);cases e<;>simp[CD,ih]
def qi{t:Y}{f:FuncId}{cap:Ap Ah}{ty:Ay}{pos:AJ}{after:Ap Edge}{g:Aw (Y×Ar)}(l:R.round=Aa)(o:BK ops σ g=J Af)(ht:lk σ t=J (.func (.func f) #[] cap))
 (h:OR P { R with ds:={ target:=.fn (.func f) cap,args:=#[] }::R.ds } ops rest k n σ w):OR P R ops (⟨Aa,.defer { callee:=.value (.tmp t),args:=#[],argTypes:=#[] },ty,pos,after,g⟩::rest) k n σ w:=fun a e=>by
 have j:=e.ev (x:=.tmp t) ht;unfold wpListIn;rw[Ai (Rv e o)];refine⟨fun _ _=>trivial,?_⟩
 have q:((⟨Aa,.defer { callee:=.value (.tmp t),args:=#[],argTypes:=#[] },ty,pos,after,g⟩:AG).semAt R.F.round a.eval).run P w=.ok (.defer { target:=.fn (.func f) cap,args:=#[] }) w:=by
  rw[show R.F.round=Aa from l,Oper.semAt_none];simp[execOp,resolve,j,Deferred.ofValue]
 rw[q];have p:=h { a with defers:={ target:=.fn _ _,args:=#[] }::a.defers } ⟨e.fr,by rw[e.df]⟩;rwa[show CD P { R with ds:={ target:=.fn (.func f) cap,args:=#[] }::R.ds } k=CD P R k from funext (Vp k)]at p
end
def py{P:AD}{n:Y}{σ:BH}{w:Ad}{x:AF}{t T ty:Ay}(hd:∀d,(Op.equalIn (d+1) t .nilIface .nilIface).run P w=.ok Af w)(hx:ev σ x=J .nilIface):EX P n σ (.binOp .neq t x (.const .nilIface) T) ty w (.bool Aj) w:=
 FY hx Z (by unfold eqGuard;simp) (aC Z hd)
section
variable{m n:Y}{P:AD}{ops:Ap AG}{Q:AP->AE->Ae Frame->Ad->Prop}{rest:Bj}{a:AE}{cs:Ae Frame}{w w':Ad}{i d:Y}{ty:Ay}{pos:AJ}{after:Ap Edge}{σ:BH}{v:Ah}
def Afm(g:ops[i]? =J ⟨J d,.call { callee:=.builtin .recover,args:=#[],argTypes:=#[] },ty,pos,after,Aa⟩)(j:recoverD cs=Aa)(h:wpOpsSIn Fence.wide m P ops Q rest (a.put (J d) .nilIface) cs w):wpOpsSIn Fence.wide m P ops Q (i::rest) a cs w:=by
 unfold wpOpsSIn;simp[g];refine⟨fun _ _=>trivial,?_⟩;have f:Region.wanted (⟨J d,.call { callee:=.builtin .recover,args:=#[],argTypes:=#[] },ty,pos,after,Aa⟩) (yielded ops a.tmps)=Af:=rfl;have e:(execOp a.eval ⟨J d,.call { callee:=.builtin .recover,args:=#[],argTypes:=#[] },ty,pos,after,Aa⟩).run P w=.ok .recover w:=by simp[execOp,resolve,invoke,builtin]
 grind
def bG{op:Op}(hf:Fr n σ a)(f:ops[i]? =J ⟨J d,op,ty,pos,after,Aa⟩)(he:EX P n σ op ty w v w')(h:wpOpsSIn Fence.wide m P ops Q rest (a.put (J d) v) cs w'):wpOpsSIn Fence.wide m P ops Q (i::rest) a cs w:=by
 unfold wpOpsSIn;simp[f];refine⟨fun _ _=>trivial,?_⟩;have e:Region.wanted (⟨J d,op,ty,pos,after,Aa⟩) (yielded ops a.tmps)=Af:=rfl;rw[Ai e,he a hf];omega
end
section
variable{P:AD}{fn:Func}{Q:Ah->Ad->Prop}{n m:Y}{σ:BH}{w:Ad}{R:RP}
def Abm{V T N L:Y}{T1 T2 T3 T4 U1 U2 U3 U4:Ay}{b1 b2 b3 b4:Y}{v1 I G E:Ah}{d1 d2 W d4:TypeDesc}(hs:fn.results=#[.cell V T1,.cell T T2,.cell N T3,.cell L T4])(q:P.underlying T1=J d1)(y:flat d1=Af)(p:P.underlying T2=J d2)(x:flat d2=Af)(o:P.underlying T3=J W)(t:flat W=Af)(l:P.underlying T4=J d4)(r:flat d4=Af)
 (j:lk σ V=J (.pointer (J ⟨b1,0,Aa⟩))) (h:lk σ T=J (.pointer (J ⟨b2,0,Aa⟩))) (g:lk σ N=J (.pointer (J ⟨b3,0,Aa⟩))) (f:lk σ L=J (.pointer (J ⟨b4,0,Aa⟩))) (D:Bk w b1 U1 [v1]) (C:Bk w b2 U2 [I]) (B:Bk w b3 U3 [G]) (A:Bk w b4 U4 [E]) (a:AE) (e:FrD R n σ a):(results fn a.tmps).run P w=.ok (.tuple #[v1,I,G,E]) w:=by
 have e1:=e.fr.val _ _ j;have e2:=e.fr.val _ _ h;have e3:=e.fr.val _ _ g;have e4:=e.fr.val _ _ f;simp only[results,hs];simp[e1,e2,e3,e4,asAddr,QM q y D,QM p x C,QM o t B,QM l r A]
def Aaa {v:Ah} {e:AP} {f:FuncId} {cap:Ap Ah} {p:Func} (j:P.funcs[f]? =J p) (g:(!(p.name== "runtime.NumGoroutine") && p.body.isSome)=Af) (he:e=.normal∨e=.ret) (l:R.ds=[{ target:=.fn (.func f) cap,args:=#[] }]) (x:R.post=bodyPostM Fence.wide m P fn (fun e w'=>∃v,e=.returned v/\Q v w')) (r:∀a,FrD R n σ a->(results fn a.tmps).run P w=.ok v w)
 (y:CallsDIn Fence.wide (m-1) P f cap .returning w fun e u' w'=>e=.returned (.tuple #[])/\u'=.returning/\w'=w) (t:Q v w):∀a,FrD R n σ a->R.post e a w:=fun a q=>by
 rw[x]
 have o:LeavesInM Fence.wide m P fn a.tmps (fun e w'=>∃v,e=.returned v/\Q v w') a.defers .returning w:=by
  rw[q.df,l];refine⟨Bi,.inr ⟨fun h=>by simp[Fence.wide]at h,.func f,cap,f,cap,Z,by simp[invoke,Rh j g],fun _ _=>trivial,y.mono fun e u' w'⟨o,B,A⟩=>?_⟩⟩;subst o B A;exact⟨v,r a q,v,Z,t⟩
 rcases he with rfl|rfl<;>exact o
end
def ret4{P:AD}{fn:Func}{Q:Ah->Ad->Prop}{n:Y}{σ:BH}{w:Ad}{t u s q:Y}{v x y z:Ah}(hs:fn.results=#[.tmp t,.tmp u,.tmp s,.tmp q])(hv:lk σ t=J v)(hx:lk σ u=J x)(hy:lk σ s=J y)(hz:lk σ q=J z)(hq:Q (.tuple #[v,x,y,z]) w):
 ∀a,Fr n σ a->bodyPost P fn (fun e w'=>∃v,e=.returned v/\Q v w') .ret a w:=
 ME (fun a ha=>by simp only[results,hs];simp[ha.val t v hv,ha.val u x hx,ha.val s y hy,ha.val q z hz]) hq
def Act.more(ds:Ae Deferred)(a:AE):AE:={ a with defers:=a.defers++ds }
section
variable{P:AD}{ops:Ap AG}{S:Ad->Prop}{Q0 Q:AP->AE->Ad->Prop}{K0 K:AE->Ad->Prop}{ds:Ae Deferred}{a:AE}{w:Ad}
def Zy(d:Aw Y)(v:Ah):Act.more ds (a.put d v)=(Act.more ds a).put d v:=by cases d<;>rfl
def xM:(Act.more ds a).eval=a.eval:=by rfl
def Aft{o:AG}(p:∀a w,K0 a w->K (Act.more ds a) w)(l:∀e a w,Q0 e a w->Q e (Act.more ds a) w)(h:o.wp P a w K0 Q0):o.wp P (Act.more ds a) w K Q:=by
 unfold Oper.wp at*;rw[xM];generalize(execOp _ o).run P w=r at*;have t:LetsOut Q0->LetsOut Q:=fun⟨b,g,q⟩=>⟨_,g,l _ b g q⟩;have j:∀v w',K0 (a.put o.dst v) w'->K ((Act.more ds a).put o.dst v) w':=fun v w' q=>by rw[<-Zy];grind
 cases r with
 |ok x w'=>
  cases x with
  |value v=>exact j _ _ h
  |skip=>exact j _ _ h
  |defer d=>
   have e:Act.more ds _=({ Act.more ds a with defers:=d::(Act.more _ a).defers }.put _ undef):=Zy (a:={ a with defers:=d::a.defers }) o.dst _;show K _ _;rw[<-e];exact p _ _ h
  |enter f args=>
   refine Calls.mono h fun e g q=>?_;grind
  |row r args=>exact Rows.mono h X
  |_=>exact h.elim
 |halt x w'=>
  cases x with
  |panic v=>exact l _ _ _ h
  |_=>exact h.elim
def Afr{i:Y}(g:∀a w,K0 a w->K (Act.more ds a) w)(f:∀e a w,Q0 e a w->Q e (Act.more ds a) w)(h:wpOp P ops Q0 i K0 a w):wpOp P ops Q i K (Act.more ds a) w:=by
 unfold wpOp at*;split
 .grind
 .rename_i o e;rw[e]at h;simp at h;have l:(Act.more ds a).tmps=a.tmps:=rfl;rw[l];split
  .rename_i q;rw[Ai q]at h;rcases h with h|⟨r,b,p,j⟩
   .exact .inl (Aft g f h)
   .refine .inr ⟨?_,_,_,f _ b _ j⟩;assumption
  .rename_i q;rw[<-Zy];grind
def oN(hQ:∀e a w,Q0 e a w->Q e (Act.more ds a) w):∀(fuel:Y) (listed:Ap Ar) (a:AE) (w:Ad),wpAnyH P .any ops Q0 S fuel listed a w->wpAnyH P .any ops Q S fuel listed (Act.more ds a) w
 |0,_,a,w,h=>⟨h.1,hQ _ _ _ h.2⟩
 |fuel+1,_,a,w,h=>⟨fun e=>hQ _ _ _ (h.1 e),fun i hi=>Afr (fun a w q=>⟨q.1,oN hQ fuel _ a w q.2⟩) hQ (h.2 i hi)⟩
end
section
variable{P:AD}{R:RP}{k:Ae KI}{n:Y}{σ:BH}{w:Ad}
def onR(P:AD)(R:RP)(k:Ae KI):Ae KI:=[.asr fun a w=>CD P R k .normal (Act.more R.ds a) w]
def dh{id N:Y}{l:Ae AG}(S:Ad->Prop)(hm:P.follows .mixedOrders=Af)(o:l.toArray.size=N)(h:GW P (fun _ _=>False) l.toArray S N (JX N Aj) (onR P R k) n σ w.drew)(j:R.round=Aa:=by rfl):KR P R (.code (.region id l.toArray Af)::k) n σ w:=fun a f=>by
 subst o;have p:R.F=Fence.wide:=by unfold RP.F;rw[j];rfl
 show(Code.region _ _ _).wpIn _ _ P _ a w;rw[p,wpIn_wide];have g:=oN (fun e a w q=>by cases e<;>first|exact q|exact q.elim) _ _ _ _ (h _ f.fr)
 have e:Act.more R.ds { a with defers:=[] }=a:=by
  unfold Act.more;rw[EP,<-f.df]
 rw[e]at g;exact wp_region_held hm g
def LN(h:KR P R k n σ w):KW P (fun _ _=>False) (onR P R k) n σ w:=fun a e=>h (Act.more R.ds a) ⟨⟨e.size,e.val,Z⟩,by unfold Act.more;rw[e.df];rfl⟩
end
section
variable{P:AD}{n:Y}{σ:BH}{w w0:Ad}{x y:AF}{t e ty T:Ay}{s bs:Y}{R:RP}{ops:Ap AG}{rest:Ae AG}{k:Ae KI}{pos:AJ}{after:Ap Edge}{g:Aw (Y×Ar)}{d:Y}
def qh{z:Ah}{BO:Ap (Y×AF)}(len:Y)(vss:Ae (Bm))(hg:BK ops σ g=J Af)(hd:BL d n=Af)(ht:P.underlying T=J (.slice e))(hi:TI P e z s bs)(hzs:z.cells.size=s)(hs0:0<s)
 (hv:evs σ (BO.toList.map (·.2))=J (vss.map fun v=>Value.agg v.toArray)) (hp:BO.toList.map (·.1)=Ha 0 (Ajb BO.toList)) (hl:Ajb vss=len) (h1:∀v∈vss,Ajb v=s) (hlen:len*s<=16777216)
 (h:∀b w',w.heap.size<=b->Bk w' b e vss.flatten->Bf w w'->OR P R ops rest k n ((d,.slice (J ⟨b,0,Aa⟩) len len)::σ) w'):OR P R ops (⟨J d,.buildSlice T len BO,ty,pos,after,g⟩::rest) k n σ w:=
 OR.val hg hd (Tw len vss ht hi hzs hs0 hv hp hl h1 hlen) (h _ _ X (Bk.new w e _) (Bf.alloc w _))
end
section
variable{P:AD}{ops:Ap AG}{Q0 Q:AP->AE->Ad->Prop}{K0 K:AE->Ad->Prop}{a:AE}{w:Ad}{l m:Y}
def Afs(E:∀o∈ops.toList,∀c,o.op≠.defer c)(A:∀e a w,Q0 e a w->e=.normal){i:Y}(j:∀a w,K0 a w->K a w)(h:wpOp P ops Q0 i K0 a w):wpOpIn (Fence.wide.inRound l) m P ops Q i K a w:=by
 unfold wpOp at h;unfold wpOpIn;split
 .grind
 .rename_i o e;rw[e]at h;simp at h;have D:∀c,o.op≠.defer c:=Bg;have I:¬LetsOut Q0:=fun⟨b,_,q⟩=>by cases A _ _ _ q
  split
  .rename_i q;rw[Ai q]at h;rcases h with h|⟨_,h⟩
   .unfold Oper.wp at h;refine⟨fun _ _=>trivial,?_⟩;rw[Oper.semAt_eq _ _ _ D];generalize(execOp _ o).run P w=r at*;cases r with
    |ok x p=>
     cases x with
     |value v=>exact j _ _ h
     |skip=>exact j _ _ h
     |defer d=>exact j _ _ h
     |enter f args=>
      refine⟨fun z=>(by cases z),eH (Calls.mono h fun e B q=>?_)⟩;grind
     |row r args=>
      refine⟨fun z=>(by cases z),fun c G _=>?_⟩;obtain⟨v,p,q,C⟩:=Rows.mono h (fun v B q=>j _ _ q) c G;exact⟨v,_,q,stepsIn_wide.2 C⟩
     |_=>exact h.elim
    |halt x p=>
     cases x with
     |panic v=>cases A _ _ _ h
     |_=>exact h.elim
   .grind
  .rename_i q;rw[Ag q]at h;exact⟨fun _ _=>trivial,j _ _ h⟩
def oP{md:Region.Mode}(hno:∀o∈ops.toList,∀c,o.op≠.defer c)(hQ:∀e a w,Q0 e a w->e=.normal/\Q .normal a w):∀(fuel:Y) (listed:Ap Ar) (a:AE) (w:Ad),wpAny P md ops Q0 fuel listed a w->wpAnyIn (Fence.wide.inRound l) m P md ops Q fuel listed a w
 |0,_,a,w,h=>⟨h.1,(hQ _ _ _ h.2).2⟩
 |fuel+1,_,a,w,h=>⟨fun e=>(hQ _ _ _ (h.1 e)).2,fun i hi=>Afs hno Bg (fun a w q=>oP hno hQ fuel _ a w q) (h.2 i hi)⟩
end
section
variable{P:AD}{R:RP}{k:Ae KI}{n:Y}{σ:BH}{w:Ad}
def pW{id N i:Y}{l:Ae AG}(S:Ad->Prop)(hm:P.follows .mixedOrders=Af)(v:l.toArray.size=N)(r:(l.all fun o=>match o.op with|.defer _=>Aj|_=>Af)=Af)(h:GW P (fun _ _=>False) l.toArray S N (JX N Aj) (onR P R k) n σ w.drew)(p:R.round=J i:=by rfl)(hds:R.ds=[]:=by rfl):KR P R (.code (.region id l.toArray Af)::k) n σ w:=fun a j=>by
 subst v;have A:R.F=Fence.wide.inRound i:=by unfold RP.F;rw[p];rfl
 show(Code.region _ _ _).wpIn _ _ P _ a w;rw[A];have f:∀o∈l.toArray.toList,∀c,o.op≠.defer c:=Bg;have C:∀b,Act.more R.ds b=b:=fun b=>by unfold Act.more;simp_all
 have B:({ a with defers:=[] })=a:=by rw[<-hds,<-j.df]
 refine wpIn_region_any hm (oP f (fun e a w q=>?_) _ _ _ _ (wpAny_of_held _ _ _ _ (h a (B▸j.fr))));cases e with
 |normal=>exact⟨Z,C a▸q⟩
 |_=>exact q.elim
end
section
variable{P:AD}{R:RP}{k:Ae KI}{n:Y}{σ:BH}{w:Ad}
def pV{α:Type}(hr:R.round=Aa)(hm:1<=R.m){g:AF}{p d id:Y}{ty:Ay}{pos:AJ}{af:Ap Edge}{body:AM}{gf:Y}{lb:Bm}{fn:Func}
 (hf:P.funcs[gf]? =J fn) (hn:(!(fn.name== "runtime.NumGoroutine") && fn.body.isSome)=Af)
 (hg:ev σ g=J (.func (.func gf) #[] lb.toArray)) (hp:BL p n=Af) (hd:BL d n=Af)
 (val:α->Ah)
 {S:Bj} {G:Ad->Prop} {b0 Stop:Ae α->Prop} {N:Y} (hS:∀k∈S,k<w.heap.size) (ba:SeqM (R.m-1) P gf lb (fun x=>[val x]) S G b0 Stop N w)
 (I:Ae α->Ad->Prop) (Ix:AM->Ae α->Ad->Prop) (hI:Abd S w.heap.size I) (V:∀c,Abd S w.heap.size (Ix c)) (cc:∀pre W,I pre W->G W) (h0:I [] w)
 (a6:∀(l:Y) (pre:Ae α) (x:α) (W:Ad),I pre W->Ajb pre<N->w.heap.size<=W.heap.size->KR P ⟨J l,R.m-1-1,[],ownPostK (fun A B=>∀k∈S,B.heap[k]? =A.heap[k]?) I Ix (pre++[x]) W⟩ [.code body] n ((d,val x)::(p,val x)::σ) W)
 (a5:∀(D:Y) (xs:Ae α) (W:Ad),w.heap.size<=D->b0 xs->I xs W->W.heap[D]? =J (.deferred (J []))->KR P (R.mark D) k n σ W)
 (a4:∀(D:Y) (c:AM) (pre:Ae α) (W:Ad),w.heap.size<=D->Stop pre->Ix c pre W->W.heap[D]? =J (.deferred (J []))->KR P (R.mark D) (.code c::k) n σ W):
 KR P R (.code (.rangeFunc g #[p] (.region id #[⟨J d,.assign (.tmp p),ty,pos,af,Aa⟩] Aj) body)::k) n σ w:=fun a ha=>by
 obtain⟨ro,m,ds,cd⟩:=R;subst hr;have b8:=ha.ev hg;refine wpIn_rangeFunc fun ao b9=>?_;generalize bn:Code.region _ _ _=asg;obtain⟨rec,hrec⟩:∃rec:LoopState->Aw AM->Loop,rec=fun st pe=>{ state:=st,pending:=pe,fn:=ao,tmps:=a.tmps,params:=#[p],assign:=asg,body:=body,defers:=w.heap.size }:=Bi;obtain⟨l,hl⟩:∃l,l=w.heap.size+1:=Bi;have b2:Bf w (w.alloc (.deferred (J []))):=Bf.alloc w _;have a2:Bf _ ((w.alloc (.deferred (J []))).alloc (.loop (rec .ready Aa))):=Bf.alloc _ _
 have bq:=by
  have:=World.alloc_heap_new (w.alloc (.deferred (J []))) (.loop (rec .ready Aa));rwa[World.size_alloc,<-hl]at this
 have bx:=
  (a2.block _ Bi).trans (World.alloc_heap_new w _)
 have a7:=run_enterLoop_outer (P:=P) (w:=w) ao a.tmps #[p] asg body;rw[show({ state:=.ready,pending:=Aa,fn:=ao,tmps:=a.tmps,params:=#[p],assign:=asg,body:=body,defers:=w.heap.size })=rec _ _ by rw[hrec],<-hl]at a7;generalize((w.alloc _).alloc _)=W1 at a2 bq bx a7;have a9:=b2.trans a2;have nS:∀j,w.heap.size<=j->j∉S:=Bg
 have keep:∀{A B:Ad} {T':Ae _} {j:Y} {o:Obj},Mo A B _->j∉T'->A.heap[j]? =J o->B.heap[j]? =J o:=fun {A B T' j o} hm hj ho=>
  (hm.block j Bg hj).trans ho
 have nl:∀{A:Ad} {q:Loop},A.heap[l]? =J (.loop q)->∀k∈[l],k∈S∨(w.heap.size<=k/\∃o:Obj,A.heap[k]? =J o/\o.isCells=Aj):=fun {A q} h k C=>by
  simp at C;subst C;exact .inr ⟨X,_,h,Z⟩
 have ab:∀{T':Ae _} {A:Ad},(∀k∈T',k∈S)->∀k∈T',k∈S∨(w.heap.size<=k/\∃o:Obj,A.heap[k]? =J o/\o.isCells=Aj):=fun h k C=>.inl (h k C);have al:w.heap.size≠l:=X;refine⟨l,[{ target:=.collected w.heap.size,args:=#[] }],W1,{ target:=.fn (.func gf) lb.toArray,args:=#[.func (.yield l) #[] #[]] },W1,gf,#[.func (.yield l) #[] #[]]++lb.toArray,W1,a7,?_,fun _ _=>trivial,?_,fun _=>hm,?_⟩
 .simp only[resolve,b8];simp[go_sem]
 .have eg:∀i w,(callFunc _ i).run P w=.ok _ w:=fun i w=>Rh hf hn _;simp[go_sem,eg]
 .refine(ba l (fun pre W=>I pre W/\W.heap[l]? =J (.loop (rec .ready Aa))/\W.heap[w.heap.size]? =J (.deferred (J [])))
   (fun pre W=>∃c,Ix c pre W/\W.heap[l]? =J (.loop (rec .done (J c)))/\W.heap[w.heap.size]? =J (.deferred (J []))) W1 a9
   (fun q A B h hm=>⟨hI q A B S h.1 hm Bg,keep hm (nS _ X) h.2.1,keep hm (nS _ X) h.2.2⟩)
   (fun q A B h hm=>by
    obtain⟨c,h1,h2,h3⟩:=h;exact⟨c,V c q A B S h1 hm (ab fun _ C=>C),keep hm (nS _ X) h2,keep hm (nS _ X) h3⟩)
   (fun q A h=>cc q A h.1) ?_ ⟨hI [] w W1 [] h0 (Mo.Agk a9 _) (fun _ C=>by cases C),bq,bx⟩).mono ?_
  .rintro pre x W⟨b7,aj,b6⟩bc;have hy:=run_yield (P:=P) (args:=#[val x]) aj Bg;rw[hrec]at hy;refine⟨ao,_,asg,body,hy,roundIn_of_wpIn b9 ?_⟩;have ez:((#[p]:Ap Tmp).zip #[val x]).foldl (fun t(p,v)=>t.setIfInBounds p v) a.tmps=a.tmps.setIfInBounds p (val x):=Bi;rw[ez];generalize cb:(Exit.then (fun a₁ w₁=>∃w₂,(Instr.beginRound l).run P w₁=.ok () w₂/\body.wpIn (Fence.wide.inRound l) (m-1-1) P (roundPost P l fun e W'=>∃v,e=.returned v/\((v=.bool Af/\(I (pre++[x]) W'/\W'.heap[l]? =J (.loop (rec .ready Aa))/\W'.heap[w.heap.size]? =J (.deferred (J [])))/\∀k∈S,W'.heap[k]? =W.heap[k]?)∨(v=.bool Aj/\∃c,Ix c (pre++[x]) W'/\W'.heap[l]? =J (.loop (rec .done (J c)))/\W'.heap[w.heap.size]? =J (.deferred (J []))))) a₁ w₂) (fun _ _ _=>False):AP->AE->Ad->Prop)=PQ
   have b1:KR P ⟨J l,m-1-1,[],PQ⟩ [.code asg] n ((p,val x)::σ) W:=by
    subst bn;refine KR.region ?_;refine OR.val (v:=val x) Z hd (CI (by simp[ev,Pc])) ?_;refine OR.nil (KR.done fun a₁ bm=>?_);obtain⟨Wb,hWb⟩:∃Wb,Wb=W:=⟨_,Z⟩;have ai:Mo W Wb []:=by rw[hWb];exact Mo.refl _ _
    have r:=keep ai Bi aj;have E:=keep ai Bi b6;have L:=hI _ _ _ _ b7 ai (fun _ C=>by cases C);have b3:l<Wb.heap.size:=(PM.1 r).1;have bl:=run_beginRound (P:=P) r (by rw[hrec]);have bj:=hI _ _ _ _ L (NC Wb l (.loop { rec .ready Aa with state:=.busy })) (nl r);have bh:(Wb.putObj l (.loop { rec .ready Aa with state:=.busy })).heap[l]? =J (.loop { rec .ready Aa with state:=.busy }):=World.putObj_heap_same b3;have bi:(Wb.putObj l (.loop { rec .ready Aa with state:=.busy })).heap[w.heap.size]? =J (.deferred (J [])):=(World.putObj_heap_other al).trans E
    have bb:∀k∈S,(Wb.putObj l (.loop { rec .ready Aa with state:=.busy })).heap[k]? =W.heap[k]?:=fun k C=>by
     have b5:=hS k C;have b4:l<W.heap.size:=(PM.1 aj).1;exact(World.putObj_heap_other X).trans (ai.block k X Bi)
    have b4:l<W.heap.size:=(PM.1 aj).1;have a8:w.heap.size<=(Wb.putObj l (.loop { rec .ready Aa with state:=.busy })).heap.size:=BC X (NC Wb l _).size;generalize Wb.putObj l (.loop { rec .ready Aa with state:=.busy })=Wc at bl bj bh bi bb a8;rw[<-hWb];show PQ .normal a₁ Wb;subst cb;refine⟨Wc,bl,?_⟩;have hb:=a6 l pre x Wc bj bc a8 a₁ ⟨bm.fr,bm.df⟩;have ca:body.wpIn (Fence.wide.inRound l) (m-1-1) P (ownPostK (fun A B=>∀k∈S,B.heap[k]? =A.heap[k]?) I Ix (pre++[x]) Wc) a₁ Wc:=Code.wpIn_mono (fun e a' w' q=>by assumption) hb;refine Code.wpIn_mono ?_ ca
    have a0:∀(f:Aw AM) (W3:Ad),KeepsOthers Wc W3->
     (Instr.endRound l f).run P W3=.ok (.bool f.isNone) (W3.putObj l (.loop (rec (if f.isNone then .ready else .done) f)))/\W3.heap[l]? =J (.loop { rec .ready Aa with state:=.busy })/\
     (W3.putObj l (.loop (rec (if f.isNone then .ready else .done) f))).heap[l]? =J (.loop (rec (if f.isNone then .ready else .done) f))/\
     (W3.putObj l (.loop (rec (if f.isNone then .ready else .done) f))).heap[w.heap.size]? =J (.deferred (J [])):=fun f W3 a1=>by
     have bf:=a1.same _ _ bh Z;have hr:=run_endRound (P:=P) f bf;rw[hrec]at hr ⊢;exact⟨hr,Bg,World.putObj_heap_same (PM.1 bf).1,(World.putObj_heap_other al).trans (a1.same _ _ bi Z)⟩
    rintro e a3 W3 hp;cases e with
    |normal=>
     obtain⟨h1,h2,h3⟩:=hp;obtain⟨g1,g2,g3,g4⟩:=a0 Aa W3 h1;refine⟨_,_,g1,_,Z,.inl ⟨Z,⟨hI _ _ _ _ h3 (NC _ _ _) (nl g2),g3,g4⟩,fun k C=>?_⟩⟩;have b5:=hS k C;exact(World.putObj_heap_other X).trans ((h2 k C).trans (bb k C))
    |ret=>
     obtain⟨h1,h3⟩:=hp;obtain⟨g1,g2,g3,g4⟩:=a0 (J .ret) W3 h1;exact⟨_,_,g1,_,Z,.inr ⟨Z,.ret,V _ _ _ _ _ h3 (NC _ _ _) (nl g2),g3,g4⟩⟩
    |exit id=>
     obtain⟨h1,h3⟩:=hp;obtain⟨g1,g2,g3,g4⟩:=a0 (J (.exit id)) W3 h1;exact⟨_,_,g1,_,Z,.inr ⟨Z,.exit id,V _ _ _ _ _ h3 (NC _ _ _) (nl g2),g3,g4⟩⟩
    |goto t=>
     obtain⟨h1,h3⟩:=hp;obtain⟨g1,g2,g3,g4⟩:=a0 (J (.goto t)) W3 h1;exact⟨_,_,g1,_,Z,.inr ⟨Z,.goto t,V _ _ _ _ _ h3 (NC _ _ _) (nl g2),g3,g4⟩⟩
    |panic ch=>exact hp.elim
    |outgrown=>exact hp.elim
   exact b1 _ ⟨ha.fr.put hp _,Z⟩
  .rintro e W2⟨⟨v,rfl⟩,(⟨xs,hF,L,r,E⟩|⟨pre,hP,c,L,r,E⟩)⟩
   .obtain⟨o,he⟩:∃o,(Instr.endLoop l).run P W2=.ok Aa (W2.putObj l o):=by
     have he:=run_endLoop (P:=P) r (by rw[hrec];simp);grind
    have h:=a5 w.heap.size xs _ (Bv _) hF (hI _ _ _ _ L (NC W2 l o) (nl r)) ((World.putObj_heap_other al).trans E) { a with defers:={ target:=.collected w.heap.size,args:=#[] }::a.defers } ⟨ha.fr,by show _::a.defers=_::ds;rw[ha.df]⟩;rw[Pu]at h;exact⟨Aa,_,he,h⟩
   .obtain⟨o,he⟩:∃o,(Instr.endLoop l).run P W2=.ok (J c) (W2.putObj l o):=by
     have he:=run_endLoop (P:=P) r (by rw[hrec];simp);grind
    have h:=a4 w.heap.size c pre _ (Bv _) hP (V c _ _ _ _ L (NC W2 l o) (nl r)) ((World.putObj_heap_other al).trans E) { a with defers:={ target:=.collected w.heap.size,args:=#[] }::a.defers } ⟨ha.fr,by show _::a.defers=_::ds;rw[ha.df]⟩;rw[Pu]at h;exact⟨J c,_,he,h⟩
end
section
variable{P:AD}{n:Y}{σ:BH}{w w':Ad}{t e ty T src dst:Ay}{x y:AF}
def Bk.shape{b:Y}{l:Bm}(h:Bk w b T l):w.shape? b=J (T,Ajb l):=by
 obtain⟨a,h,_⟩:=h;simp[World.shape?,h]
def pF{a:AC}{s cells:Y}(i:P.underlying src=J (.pointer t))(m:P.underlying dst=J .unsafePointer)(h:(P.info? t).map (·.size)=J (s+1))(hsh:w.shape? a.block=J (e,cells))(d:a.off<cells)(hx:ev σ x=J (.pointer (J a))):
 EX P n σ (.convert src dst x) ty w (.pointer (J a)) w:=fun A o dd f after g=>by
 obtain⟨j,l,k⟩:=Ni.1 h;simp only[execOp,o.ev hx,Lib.run_to_unsafe w a i m l X hsh d,Sem.run_bind,Result.andThen_ok];rfl
def pc{a:AC}{u:Ay}{cells:Y}{z:Y}(h:P.underlying src=J .unsafePointer)(l:P.underlying dst=J (.pointer u))(f:(P.info? u).map (·.size)=J z)(hsh:w.shape? a.block=J (e,cells))(hl:liesAt P P.depth e (cells/P.cellsOf e) a.off u 1=Af)(hx:ev σ x=J (.pointer (J a))):
 EX P n σ (.convert src dst x) ty w (.pointer (J a)) w:=fun A m dd d after g=>by
 obtain⟨j,k,i⟩:=Ni.1 f;simp only[execOp,m.ev hx,Lib.run_from_unsafe w a h l k hsh hl,Sem.run_bind,Result.andThen_ok];rfl
def pz{a:AC}{z:Y}(g:P.underlying t=J (.pointer e))(d:(P.info? e).map (·.size)=J z)(hx:ev σ x=J (.pointer (J a)))(f:ev σ y=J (.pointer (J a))):EX P n σ (.binOp .neq t x y T) ty w (.bool Aj) w:=by
 obtain⟨j,i,h⟩:=Ni.1 d;exact FY hx f (YN _ _ _) (Lib.run_neq_ptr_same w a g i)
def pa {f:FuncId} {fn:Func} {xs:Ae AF} {vs:Bm} {h:Ap Ay} {E:Ap Ah->Sem Ah} {v:Ah} (hf:P.funcs[f]? =J fn) (d:(fn.name== "runtime.NumGoroutine")=Aj) (l:fn.body.isNone=Af) (k:Extern.findNext fn=Aa) (he:Extern.find fn=J E)
 (hx:evs σ xs=J vs) (j:(E vs.toArray).run P w=.ok v w'):EX P n σ (.call { callee:=.value (.func f),args:=xs.toArray,argTypes:=h }) ty w v w':=fun a m dd i after g=>by
 rw[execOp_call_go];have:#[]++xs.toArray.map a.eval++#[]=vs.toArray:=by simp[m.evs hx]
 rw[this,run_callFunc_extern hf d l k he,j];rfl
def cS{a:AC}{m c:Y}(f:c≠0)(hx:ev σ x=J (.slice (J a) m c)):EX P n σ (.call { callee:=.builtin .unsafeSliceData,args:=#[x],argTypes:=#[t] }) ty w (.pointer (J a)) w:=fun A h dd d after g=>by
 simp[execOp,resolve,invoke,builtin,Sem.run_bind,Sem.run_pure,Result.andThen_ok,GC,Co,Ep,h.ev hx,Lib.run_unsafeSliceData_row w _ _ a m c f]
def pE{m c:Y}(hx:ev σ x=J (.slice Aa m c)):EX P n σ (.call { callee:=.builtin .unsafeSliceData,args:=#[x],argTypes:=#[t] }) ty w (.pointer Aa) w:=fun A d dd a after g=>by
 simp[execOp,resolve,invoke,builtin,Sem.run_bind,Sem.run_pure,Result.andThen_ok,GC,Co,Ep,d.ev hx,Lib.run_unsafeSliceData_nil]
def cU{g:Y}{l:Bh}{rest:Bm}{t':Ay}(m:P.underlying t=J (.pointer e))(p:P.cellsOf e=1)(d:Bk w g e (BI l++rest))(h0:l≠[])(a:Ajb l<=9223372036854775807)
 (hx:ev σ x=J (.pointer (J ⟨g,0,Aa⟩))) (k:ev σ y=J (.int .i64 (Ajb l:H))):EX P n σ (.call { callee:=.builtin .unsafeString,args:=#[x,y],argTypes:=#[t,t'] }) ty w (Bl l) (w.freeze ⟨g,0,Aa⟩ (Ajb l)):=fun A f dd i after r=>by
 have h:=Lib.run_unsafeString_row w t t' ty e m p g _ d.shape l h0 (by simp[BI]) a (by
  intro j u o
  have:(BI l++rest)[j]? =J (.int .u8 u.toNat):=by
   rw[FN (by simp[BI];grind)];simp[BI,o]
  have q:=d.cell_of this;rw[show(⟨g,0,_⟩:AC).add j=⟨g,j,Aa⟩ by unfold Addr.add;grind];omega)
 simp[execOp,resolve,invoke,builtin,Sem.run_bind,Sem.run_pure,Result.andThen_ok,GC,Co,Ep,f.ev hx,f.ev k,h]
def pG{t':Ay}{p:Aw AC}(hx:ev σ x=J (.pointer p))(f:ev σ y=J (.int .i64 ((0:Y):H))):EX P n σ (.call { callee:=.builtin .unsafeString,args:=#[x,y],argTypes:=#[t,t'] }) ty w (Bl []) w:=fun A a dd d after i=>by
 have h:=Lib.run_unsafeString_none (P:=P) w t t' ty p;have g:(((0:Y):H))=0:=rfl;simp only[execOp,resolve,invoke,builtin,Sem.run_bind,Sem.run_pure,Result.andThen_ok,GC,Co,Ep,a.ev hx,a.ev f,g,h];rfl
end
section
variable{P:AD}{n:Y}{σ:BH}{w:Ad}{x y:AF}{t e ty T:Ay}{z:Ah}{bs:Y}
def EX.arrayAt{m len cap:Y}{A:Aw AC}(ht:P.underlying t=J (.array m e))(hx:ev σ x=J (.slice A len cap))(h:m<=len):EX P n σ (.sliceToArrayPointer t x) ty w (.pointer A) w:=fun a j k d after g=>by
 have i:¬len<m:=X
 have f:(Instr.arrayAt t (.slice A len cap)).run P w=.ok (.pointer A) w:=by
  simp[Instr.arrayAt,run_underlying ht,i]
 simp only[execOp,j.ev hx,Sem.run_bind,f];rfl
def Abo{a0 a1 p o m b0 l j i h:Ah}{q0 q1 g f a:Ar}{d:TypeDesc}(ht:P.underlying t=J (.array 5 e))(he:P.underlying e=J d)(hf:flat d=Af)(hi:TI P e z 1 bs)
 (h0:∀k,(Op.equalIn (k+1) e a0 b0).run P w=.ok q0 w) (h1:∀k,(Op.equalIn (k+1) e a1 l).run P w=.ok q1 w) (A:∀k,(Op.equalIn (k+1) e p j).run P w=.ok g w) (v:∀k,(Op.equalIn (k+1) e o i).run P w=.ok f w) (r:∀k,(Op.equalIn (k+1) e m h).run P w=.ok a w) (k:Y):
 (Op.equalIn (k+1+1) t (.agg #[a0,a1,p,o,m]) (.agg #[b0,l,j,i,h])).run P w=.ok (q0 && (q1 && (g && (f && a)))) w:=by
 have q:Ha 0 5=[0,1,2,3,4]:=rfl;rw[Op.equalIn];simp only[Sem.run_bind,run_underlying ht,Result.andThen_ok,Fz hi];cases q0<;>cases q1<;>cases g<;>cases f<;>cases a<;>simp[Std.Legacy.Range.forIn_eq_forIn_range',Std.Legacy.Range.size,q,part,MG he,hf,h0 k,h1 k,A k,v k,r k,Sem.run_bind]
def pq{i s1 g f d r0 r1 m l j:Bh}(ht:P.underlying t=J (.array 5 e))(he:P.underlying e=J .string)(hi:TI P e z 1 bs)(hm:P.eqGuardType P.depth t=Aj)(hx:ev σ x=J (.agg [Bl i,Bl s1,Bl g,Bl f,Bl d].toArray))(o:ev σ y=J (.agg [Bl r0,Bl r1,Bl m,Bl l,Bl j].toArray)):
 EX P n σ (.binOp .neq t x y T) ty w (.bool (decide ([i,s1,g,f,d]≠[r0,r1,m,l,j]))) w:=by
 refine FY hx o (run_eqGuard_agg w _ t x y _ _ hm) ?_;have h:=Abo (w:=w) ht he Z hi (fun k=>QF (a:=i) (b:=r0) he k) (fun k=>QF (a:=s1) (b:=r1) he k) (fun k=>QF (a:=g) (b:=m) he k) (fun k=>QF (a:=f) (b:=l) he k) (fun k=>QF (a:=d) (b:=j) he k) 9998;rw[run_neq_struct];simp_all
end
end
section
open Go.MapKept
section
variable{P:AD}{w:Ad}{b c:Y}{es:Ap MapEntry}{n:Y}{σ:BH}{x y:AF}{ty t k e:Ay}
def NO(ks:Ae (Bh)):Ae (Bh×Ah):=ks.map fun s=>(s,.bool Af)
def mP(ks:Ae (Bh)):(NO ks).map (·.1)=ks:=by
 unfold NO;rw[EO];exact List.map_id' ks
def Abr{bs:Y}(ht:P.underlying t=J (.map k e))(hk:P.underlying k=J .string)(hi:TI P e (.bool Aj) 1 bs){ks:Ae (Bh)}(h:Mp w b es c (NO ks))(s:Bh):
 (Instr.lookup t (.map (J b)) (Bl s) Aj).run P w=.ok (.bool (decide (s∈ks))) w:=by
 have a:IsKey .string (Bl s):=trivial;rcases findNow_spec a es.toList 0 h.isKey with⟨m,l⟩|⟨j,A,m,l,v⟩
 .have i:s∉ks:=by
   have:=Zp h.kv l;rwa[mP]at this
  rw[AN i];simp[Instr.lookup,run_underlying ht,MapKept.run_getObj_map h.blk,run_checkKey hk a,run_findKey hk m,NN hi,Result.andThen]
 .obtain⟨p,r,g,f⟩:=h.at l;obtain rfl:=aS (v.symm.trans g);obtain⟨o,d,rfl⟩:=Cr.1 (WI r);rw[AL (show(o,Value.bool Af).1∈ks from d)];have q:A.val=.bool Af:=f;simp[Instr.lookup,run_underlying ht,MapKept.run_getObj_map h.blk,run_checkKey hk a,run_findKey hk m,q,Result.andThen]
def pg{bs:Y}{s:Bh}(ht:P.underlying t=J (.map k e))(hk:P.underlying k=J .string)(hi:TI P e (.bool Aj) 1 bs){ks:Ae (Bh)}(hx:ev σ x=J (.map (J b)))(i:ev σ y=J (Bl s))(h:Mp w b es c (NO ks)):
 EX P n σ (.lookup t x y Aj) ty w (.bool (decide (s∈ks))) w:=fun a d j f after g=>by
 simp only[execOp,d.ev hx,d.ev i,Abr ht hk hi h s,Sem.run_bind,Result.andThen_ok,Sem.run_pure]
end
end
namespace Fld
open Go.Proofs.YtkmlafmjaeeanaaGreatDoor
def Fi(c:AH):Ar:=decide (48<=c.toNat) && decide (c.toNat<=55)
def DY(c:AH):Ar:=decide (48<=c.toNat) && decide (c.toNat<=57)
def HV(a b:Y)(c:AH):Ar:=decide (c.toNat=a)||decide (c.toNat=b)
def Fw(base:Y):Y->Bh->Y
 |n,[]=>n
 |n,c::l=>Fw base (if n<=9007199254740992 then base*n+(c.toNat-48)else n) l
def gQ(base:Y):∀(l m:Bh) (n:Y),Fw base n (l++m)=Fw base (Fw base n l) m
 |[],_,_=>rfl
 |c::l,m,n=>by exact gQ _ l m _
def YF(base:Y)(l:Bh)(c:AH)(n:Y):Fw base n (l++[c])=if Fw base n l<=9007199254740992 then base*Fw base n l+(c.toNat-48)else Fw base n l:=by
 rw[gQ];rfl
def num(s:Bh):Y×Y:=
 let s1:=s.dropWhile (HV 32 32)
 if(s1.dropWhile Fi).dropWhile (HV 32 0)≠[]then(0,150)
 else if 9007199254740992<Fw 8 0 (s1.takeWhile Fi)then(0,3)else(Fw 8 0 (s1.takeWhile Fi),0)
def dec(s:Bh):Y×Y:=
 if s=[]∨(s.head? =J 48/\s≠[48])then(0,150)
 else if s.all DY then(if 9007199254740992<Fw 10 0 s then(0,3)else(Fw 10 0 s,0))else(0,150)
def Ml(d:Y):AH:=BU (48+d)
def Dm(n:Y):Y->Bh
 |0=>[]
 |k+1=>Dm (n/8) k++[Ml (n%8)]
def QS:∀(k n:Y),Ajb (Dm n k)=k
 |0,_=>rfl
 |k+1,n=>by simp[Dm,QS]
def El(n width:H):Bh×Y:=
 if width<2∨20<width then([],2)
 else if n<0∨n/8 ^ (width.toNat-1)≠0 then([],150)
 else(Dm n.toNat (width.toNat-1)++[0],0)
def Vh:∀(k n:Y),Dm n (k+1)=Ml (n/8 ^ k%8)::Dm n k
 |0,n=>by simp[Dm]
 |k+1,n=>by
  rw[Dm,Vh];simp[Dm,Gi,RM.injEq,and_true];rw[WR,Kt,Qi]
def Cu(n:Y):Bh:=BJ n 0
def cut(s:Bh):Bh:=s.takeWhile (· !=0)
def text(s:Bh)(width:H):Bh×Y:=
 if width<0∨512<width then([],2)
 else if width<Ajb s∨cut s≠s then([],150)
 else(s++Cu (width.toNat-Ajb s),0)
def OV:∀(s:Bh) (c:AH),Lib.indexByte s c=-1/\c∉s∨∃i:Y,Lib.indexByte s c=i/\i<Ajb s/\s.takeWhile (· !=c)=s.take i/\c∈s
 |[],c=>.inl ⟨Z,Bi⟩
 |b::s,c=>by
  unfold Lib.indexByte;by_cases h:b=c
  .simp_all
  .rcases OV s c with⟨h1,h2⟩|⟨i,h1,h2,h3,h4⟩
   .grind
   .right;refine⟨i+1,?_,Bg,by simp_all,Bg⟩;grind
def Uz(s:Bh):cut s=s↔(0:AH)∉s:=by
 unfold cut
 induction s with
 |nil=>simp
 |cons b s ih=>
  by_cases h:b=0
  .simp_all
  .simp[h,ih,Ne.symm]
def fD(s:Bh):Ajb (cut s)<=Ajb s:=by
 exact(List.takeWhile_prefix _).length_le
def UA{s:Bh}(h:(0:AH)∉s):cut s=s:=(Uz s).2 h
def Fm(s:Bh):Y->Y
 |0=>0
 |i+1=>Fm s i+if 148<=i/\i<156 then 32 else(s.getD i 0).toNat
def VM(s:Bh):∀i,Fm s i<=255*i
 |0=>by simp[Fm]
 |i+1=>by
  have:=VM s i;have hc:(s.getD i 0).toNat<256:=(s.getD i 0).toNat_lt;simp only[Fm];grind
def sum(s:Bh):Y×Y:=if Ajb s≠512 then(0,2)else(Fm s 512,0)
def OK{x:Y}(h:¬x<10):Lib.decDigits x=Lib.decDigits (x/10)++[Ml (x%10)]:=by
 rw[Lib.decDigits,dif_neg h];rfl
def Ls{x:Y}(h:x<10):Lib.decDigits x=[Ml x]:=by rw[Lib.decDigits,AQ h];rfl
def QB(n:H):Bh:=if n<0 then[]else Lib.decDigits n.toNat
def nL(s:Bh)(k:Y)(h:k<Ajb s):s.take (k+1)=s.take k++[s[k]]:=by
 simp
def XX(s:Bh)(k:Y)(h:k<Ajb s):s.drop k=s[k]::s.drop (k+1):=Bi
end Fld
namespace Fld
open Go.Proofs.YtkmlafmjaeeanaaGreatDoor
def Nu{d:Y}(h:d<10):(Ml d).toNat=48+d:=by simp[Ml];omega
def SO:∀(k n:Y) (c:AH),c∈Dm n k->Fi c=Af
 |0,n,c,h=>by simp[Dm]at h
 |k+1,n,c,h=>by
  simp[Dm,Dx,CF]at h;rcases h with h|rfl
  .exact SO k _ c h
  .simp[Fi,Bool.and_eq_true,decide_eq_true_eq];rw[Nu X];omega
def YE:∀(k n:Y),n/8 ^ k=0->n<=9007199254740992->Fw 8 0 (Dm n k)=n
 |0,n,h,hn=>by simp at h;simp[Dm,Fw,h]
 |k+1,n,h,hn=>by
  have ih:=YE k (n/8) (by simp_all;omega) X;rw[Dm,YF,ih,Ai X,Nu X];omega
def yn{k n:Y}(hk:1<=k)(h:n/8 ^ k=0)(e:n<=9007199254740992):num (Dm n k++[0])=(n,0):=by
 obtain⟨j,rfl⟩:∃j,k=j+1:=⟨k-1,X⟩
 have i:(Dm n (j+1)++[0]).dropWhile (HV 32 32)=Dm n (j+1)++[0]:=by
  rw[Vh,Gi,dm];simp[HV,RB];rw[Nu X];omega
 have g:(Dm n (j+1)++[0]).takeWhile Fi=Dm n (j+1):=by
  rw[dt (fun a d=>SO _ _ a d)];simp[Fi]
 have f:(Dm n (j+1)++[0]).dropWhile Fi=[0]:=by
  rw[List.dropWhile_append_of_pos (fun a d=>SO _ _ a d)];decide
 unfold num;simp only[i,g,f,YE _ _ h e];rw[Ag Bc,Ag X]
def vf{l m:Bh}(h:l≠[]):(l++m).head? =l.head?:=by
 cases l with
 |nil=>grind
 |cons a l=>rfl
def XR(n:Y):Lib.decDigits n≠[]:=by
 by_cases h:n<10
 .rw[Ls h];simp
 .rw[OK h];simp
def fM(n:Y):∀c∈Lib.decDigits n,DY c=Af:=by
 induction n using RX with
 |ind n ih=>
  intro c e
  have a:∀d,d<10->DY _=Af:=fun d a=>by
   simp[DY,Bool.and_eq_true];rw[Nu a];omega
  by_cases h:n<10
  .rw[Ls h,CF]at e;grind
  .rw[OK h,Dx,CF]at e;grind
def sW(n:Y)(d:0<n):(Lib.decDigits n).head?≠J 48:=by
 induction n using RX with
 |ind n ih=>
  by_cases h:n<10
  .rw[Ls h];intro e;have:=Nu h;simp_all
  .rw[OK h];have a:=XR (n/10);rw[vf a];grind
def uA(n:Y)(a:n<=9007199254740992):Fw 10 0 (Lib.decDigits n)=n:=by
 induction n using RX with
 |ind n ih=>
  by_cases h:n<10
  .rw[Ls h];simp only[Fw];rw[Ai X,Nu h];omega
  .rw[OK h,YF,ih _ X X,Ai X,Nu X];omega
def sT(n:Y)(d:n<=9007199254740992):dec (Lib.decDigits n)=(n,0):=by
 unfold dec;rw[Ag,Ai (TG.2 (fM n)),uA n d,Ag X];rintro(h|⟨f,e⟩)
 .exact XR n h
 .rcases Jy n with rfl|a
  .exact e (by rw[Ls Bi];rfl)
  .exact sW n a f
def fE{s:Bh}(h:cut s=s)(k:Y):cut (s++Cu k)=s:=by
 have a:=(Uz s).1 h;unfold cut Cu
 rw[dt (by
  grind)]
 simp
end Fld
section
def good(p:Bh)(i:Y):Prop:=p[i]? =J 47/\1<=i/\i<=155/\i+2<=Ajb p/\Ajb p<=i+101
instance(p:Bh)(i:Y):Decidable (good p i):=by unfold good;infer_instance
def RH(p:Bh)(r:Bh×Bh×Ar):Prop:=
 (Ajb p<=100/\r=([],p,Af))∨(100<Ajb p/\∃i,good p i/\(∀j,j<i->¬good p j)/\r=(p.take i,p.drop (i+1),Af))∨(100<Ajb p/\(∀j,¬good p j)/\r=([],[],Aj))
def Acx{p:Bh}{r f:Bh×Bh×Ar}(h:RH p r)(e:RH p f):r=f:=by
 rcases h with⟨g,rfl⟩|⟨g,i,l,m,rfl⟩|⟨g,l,rfl⟩
 .rcases e with⟨_,rfl⟩|⟨a,_⟩|⟨a,_⟩
  .rfl
  .omega
  .omega
 .rcases e with⟨a,_⟩|⟨_,j,d,k,rfl⟩|⟨_,d,_⟩
  .omega
  .grind
  .grind
 .rcases e with⟨a,_⟩|⟨_,j,d,_⟩|⟨_,_,rfl⟩
  .omega
  .grind
  .rfl
def uR{p:Bh}{i:Y}(h:i<Ajb p):good p i↔p[i].toNat=47/\1<=i/\i<=155/\i+2<=Ajb p/\Ajb p<=i+101:=by
 unfold good;rw[BR h,RZ.injEq];constructor
 .simp_all
 .rintro⟨d,a⟩;exact⟨Ll.1 d,a⟩
def BP(p:Bh):Bh×Bh×Ar:=
 if Ajb p<=100 then([],p,Af)else match (BF (Ajb p)).find? (fun i=>decide (good p i))with
  |some i=>(p.take i,p.drop (i+1),Af)
  |none=>([],[],Aj)
def ni(p:Bh):RH p (BP p):=by
 unfold BP;split
 .rename_i h;exact .inl ⟨h,Z⟩
 .rename_i h;split
  .rename_i i e;refine .inr (.inl ⟨X,i,?_,?_,Z⟩)
   .grind
   .simp_all
  .rename_i a;refine .inr (.inr ⟨X,?_,Z⟩);intro j d;rw[List.find?_range_eq_none]at a;have:=a j (by have:=d.2.2;omega);grind
def nj{p:Bh}{r:Bh×Bh×Ar}(h:RH p r):r=BP p:=Acx h (ni p)
def aP{p:Bh}(h:(BP p).2.2=Af)(l:p≠[]):
 Ajb (BP p).2.1<=100/\(BP p).2.1≠[]/\Ajb (BP p).1<=155/\(∀c∈(BP p).1,c∈p)/\(∀c∈(BP p).2.1,c∈p)/\(if(BP p).1≠[]then(BP p).1++[47]++(BP p).2.1 else(BP p).2.1)=p/\Ajb p<=256:=by
 rcases ni p with⟨f,e⟩|⟨f,i,d,m,e⟩|⟨f,d,e⟩
 .grind
 .rw[e];obtain⟨g,r,q,o,n⟩:=d;have a:i<Ajb p:=X;rw[BR a,RZ.injEq]at g
  have j:p.take i≠[]:=fun k=>by
   simp_all
  refine⟨Bx,fun k=>?_,Bx,Bg,Bg,?_,X⟩
  .simp_all;omega
  .have:=HJ i p;rw[DE a,g]at this;grind
 .grind
end
end Go.Proofs.YtkmlafmjaeeanaaGreatDoor
