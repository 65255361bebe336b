/- TopSalvage, part A: laws of the steps that the walks are made of. -/
import Derived.Carry
import Derived.ChangeMaps4
import Derived.Deep.AppendSrc
import Derived.Deep.Draws
import Derived.Deep.Grids
import Derived.Deep.Quiet
import Derived.Deep.Slices
import Derived.Ground.Names2Prog
import Derived.Ground.SlsfProg
import Derived.Laws.Externs
import Derived.Laws.ResultCell
import Derived.Laws.StructEq
import Derived.Lib.AppendIntMem
import Derived.Lib.AppendZerosOnto
import Derived.Lib.Builder
import Derived.Lib.Bytealg
import Derived.Lib.CountLaws
import Derived.Lib.Hide
import Derived.Lib.IndexBytes
import Derived.Lib.IndexLaws
import Derived.Lib.IndexMore
import Derived.Lib.ItoaLen
import Derived.Lib.ItoaNum
import Derived.Lib.Join
import Derived.Lib.LaidTab
import Derived.Lib.SlBytesConst
import Derived.Lib.Split
import Derived.Lib.SplitLaws
import Derived.Lib.UnsafeStr
import Derived.MapKept
import Derived.Maps.RangeRun
import Derived.OpenShut
import Derived.OrdersHeld
import Derived.OrdersIn
import Derived.ProofKit
import Derived.RangeFuncBound
import Derived.RangeFuncCalls
import Derived.RangeFuncFrom
import Derived.RangeFuncLeaves
import Derived.RecoverIn
import Derived.Scope
import Derived.Shelf.Bits.Mul64
import Derived.Shelf.LaysM
import Derived.Shelf.SlGeneric
import Derived.Shelf.SlSortCmp.HeapSort1
import Derived.Shelf.SlSortCmp.Insertion
import Derived.Shelf.SlSortCmp.Insertion1
import Derived.Shelf.SlSortCmp.Median1
import Derived.Shelf.SlSortCmp.NoneTotal
import Derived.Shelf.SlSortCmp.PartialInsertion1
import Derived.Shelf.SlSortCmp.Partition1
import Derived.Shelf.SlSortCmp.PartitionEqual1
import Derived.Shelf.SlSortCmp.Pdq1
import Derived.Shelf.SlSortCmp.Pivot1
import Derived.Shelf.SlSortCmp.ReverseRange1
import Derived.Shelf.SlSortCmp.SiftDown1
import Derived.Shelf.SlSortCmp.Whole1
import Derived.Shelf.Slices.Clone
import Derived.Shelf.Slices.Turned
import Derived.Shelf.Small.Bits
import Derived.Shelf.Small.Strs
import Derived.Shelf.Strconv.Itoa0
import Derived.Shelf.Strconv.Itoa1
import Derived.Shelf.Strconv.Itoa2
import Derived.Shelf.Strconv.Itoa3
import Derived.Shelf.Strings.Builder1
import Derived.Shelf.Strings.Builder2
import Derived.Shelf.Strings.Builder2Cap
import Derived.Shelf.Strings.BuilderF
import Derived.Shelf.Strings.Count
import Derived.Shelf.Strings.Cut
import Derived.Shelf.Strings.Explode
import Derived.Shelf.Strings.OnBuilder
import Derived.Shelf.Strings.Prefix
import Derived.Shelf.Strings.Repeat
import Derived.Shelf.Strings.RuneCount
import Derived.Shelf.Strings.Search1
import Derived.Shelf.Strings.Search2
import Derived.Shelf.Strings.Search3
import Derived.Shelf.Strings.Shaped
import Derived.Shelf.Strings.Split
import Derived.Shelf.Strings.SplitShaped
import Derived.Shelf.Unicode.Decode
import Derived.Shelf.Unicode.DecodeAny
import Derived.Shelf.Unicode.DecodeSlow
import Derived.Shelf.Utf8.RuneCount
import Derived.ShutString
import Derived.SizedLaws
import Derived.SliceStrings
import Derived.Sort.AssemblyPlain
import Derived.Sort.Defs
import Derived.Sort.LotC
import Derived.Sort.Statements
import Derived.Sort.Walk13a
import Derived.Sort.WalkA14
import Derived.Sort.WalkB3
import Derived.StillTail
import Derived.Stop.LaidErr
import Derived.WalkKit
import Derived.WalkLawsBesides
import Derived.WalkSpells
import Derived.Test.YtkmlafmjaeeanaaGreatDoorProg
import Derived.Test.YtkmlafmjaeeanaaGreatDoorRows
set_option linter.all false
set_option maxHeartbeats 2000000
set_option maxRecDepth 20000
open Go Go.RowKit Go.Proofs.Tryz
open _root_ renaming rfl→Z,Nat→Y,Int→H,List→Ae,if_neg→Ag,if_pos→Aj,Array→Ap,Bool→Ar,Option→Av,trivial→Ay,congrArg→AF,absurd→AH,UInt8→AI,String→AJ,decide_eq_true→AM,decide_eq_false→AN,of_decide_eq_true→AO,dif_pos→AQ,of_decide_eq_false→AR
open _root_.Array renaming replicate→Jv
open _root_.Bool renaming true→Af,false→Ai
open _root_.ByteArray renaming size→PK,toList→RA
open _root_.Go renaming World→Ad,Value→Ah,TypeId→Aw,Addr→AB,Program→AC,Operand→AD,Act→AE,Oper→AG,IntKind→AK,Code→AL,Exit→AP
open _root_.List renaming replicate→BH,length→DQ,range'→Hh,length→Alz
open _root_.Nat renaming blt→BK,beq→JE,strongRecOn→RY,reducePow→Xe
open _root_.Option renaming some→Qf,some→J,none→Aa
open _root_.UInt8 renaming ofNat→BV
open Go.Proofs.Tryz renaming prog→eD
open _root_.Go.Value renaming ownBlock→Pi
namespace Go.Proofs.YtkmlafmjaeeanaaGreatDoor
def eT:=@underlying9
def hU:=@underlying51
def im:=@underlying23
def io:=@underlying3
def ip:=@underlying31
def iq:=@underlying227
def ir:=@underlying258
def iu:=@underlying64
def iv:=@underlying118
def iw:=@underlying211
def iy:=@underlying367
def iz:=@underlying365
def iA:=@underlying376
def iB:=@underlying5
def iC:=@underlying210
def iD:=@underlying349
def iE:=@underlying192
def iF:=@underlying260
def iG:=@underlying324
def iH:=@underlying378
def iI:=@underlying93
def iJ:=@underlying180
def iK:=@underlying189
def iL:=@underlying36
def iM:=@underlying60
def iN:=@underlying58
def iO:=@underlying82
def iP:=@underlying102
def iQ:=@underlying149
def iR:=@underlying292
def iS:=@underlying343
def iT:=@underlying83
def iU:=@underlying56
def iV:=@underlying40
def iW:=@underlying34
def iX:=@underlying66
def iY:=@underlying139
def iZ:=@underlying97
def ko:=@underlying100
def li:=@underlying116
def lj:=@underlying140
def lr:=@underlying280
def mo:=@underlying296
def mp:=@underlying20
def mt:=@underlying26
def na:=@underlying38
def nn:=@underlying80
def nz:=@underlying121
def pw:=@underlying137
def ql:=@underlying133
def qr:=@underlying157
def qx:=@underlying178
def rg:=@underlying201
def rt:=@underlying194
def rx:=@underlying373
def se:=@underlying345
def sz:=@underlying364
def Bq:=@Nat.le_refl
def Bx:=@List.length_append
def BA:=@Nat.le_trans
def BC:=@Nat.zero_le
def BL:=@List.getElem_mem
def BQ:=@List.getElem?_eq_getElem
def BW:=@List.length_take
def Cd:=@List.getD_eq_getElem?_getD
def Cm:=@List.map_cons
def Cn:=@List.length_replicate
def Cp:=@List.mem_singleton
def Cq:=@List.append_assoc
def Cr:=@List.mem_map
def CA:=@List.length_drop
def CF:=@List.length_cons
def CL:=@List.length_singleton
def CM:=@Nat.lt_or_ge
def CW:=@List.mem_append
def CX:=@List.take_append_getElem
def Dd:=@Classical.not_not
def Dh:=@List.take_of_length_le
def Dl:=@List.length_map
def DD:=@List.drop_eq_getElem_cons
def DV:=@List.getElem?_map
def DW:=@List.map_append
def DX:=@List.mem_range
def DY:=@List.take_length
def Em:=@List.map_nil
def EE:=@Nat.zero_add
def ES:=@Int.eq_ofNat_of_zero_le
def ET:=@List.length_nil
def EV:=@List.map_map
def EW:=@List.nil_append
def EY:=@Nat.sub_self
def FG:=@Option.mem_toList
def FR:=@List.getElem?_append_left
def FT:=@List.range_succ
def FU:=@Option.map_some
def Gb:=@Nat.pow_le_pow_right
def Gi:=@List.cons_append
def Gj:=@List.drop_drop
def Gk:=@List.flatMap_cons
def Gl:=@List.mem_cons_of_mem
def GC:=@List.map_toArray
def GZ:=@Bool.and_true
def Hb:=@List.all_cons
def Hc:=@List.all_nil
def He:=@List.ext_getElem?
def Hf:=@List.length_range
def Hg:=@List.length_set
def Hi:=@Nat.min_eq_left
def Hu:=@Bool.true_and
def Hw:=@List.mem_iff_getElem
def Hx:=@List.take_append_drop
def Hy:=@List.take_left'
def Im:=@List.eq_nil_of_length_eq_zero
def Io:=@List.getElem?_append_right
def Ip:=@List.mem_cons_self
def Iq:=@List.pairwise_cons
def Ir:=@List.pairwise_iff_getElem
def IM:=@Classical.byContradiction
def IS:=@List.drop_length
def IT:=@List.flatMap_append
def IU:=@List.flatMap_def
def IV:=@List.getElem?_eq_none
def IW:=@List.set_cons_zero
def IX:=@Nat.mul_one
def JC:=@List.replicate_succ
def JD:=@Nat.add_zero
def JF:=@Nat.eq_zero_or_pos
def JG:=@Nat.mod_eq_of_lt
def Kl:=@List.map_congr_left
def Km:=@List.mem_filter
def Kn:=@List.mem_of_mem_take
def Ko:=@Nat.add_sub_cancel_left
def Kq:=@Nat.lt_of_lt_of_le
def Kr:=@Nat.pow_succ
def Ku:=@UInt8.toNat_inj
def La:=@List.drop_eq_nil_of_le
def Le:=@List.filter_append
def Lf:=@List.foldl_cons
def Lg:=@List.forall_mem_cons
def Lh:=@List.forall_mem_nil
def Li:=@List.getElem?_eq_some_iff
def Lj:=@List.set_cons_succ
def Lk:=@Nat.add_assoc
def LU:=@List.filter_cons
def LV:=@List.map_singleton
def LW:=@List.pairwise_map
def LX:=@List.set_append_right
def LY:=@List.take_add_one
def Ma:=@Nat.or_lt_two_pow
def MW:=@List.drop_zero
def MX:=@List.ext_getElem
def MY:=@List.getElem?_range
def MZ:=@List.getElem_inj
def Na:=@List.pairwise_append
def Nb:=@Nat.shiftRight_eq_div_pow
def Nc:=@Option.map_eq_some_iff
def Nd:=@Option.map_none
def NU:=@Array.getElem?_eq_some_iff
def NX:=@Classical.em
def Oc:=@Int.toNat_natCast
def Of:=@List.drop_of_length_le
def Og:=@List.getElem_map
def Oh:=@List.length_pos_iff
def Oi:=@List.mem_flatMap
def Oj:=@List.take_zero
def On:=@Nat.div_le_self
def Oo:=@Nat.le_add_right
def Oq:=@Nat.le_of_eq
def Ot:=@Nat.mul_le_mul
def Ou:=@Nat.xor_lt_two_pow
def PJ:=@Bool.toNat_le
def PS:=@List.flatten_cons
def PT:=@List.foldl_append
def PU:=@List.idxOf_lt_length_of_mem
def PW:=@List.replicate_succ'
def PY:=@Nat.le_succ
def PZ:=@Nat.lt_succ_self
def Qa:=@Nat.mod_lt
def Qb:=@Nat.mul_comm
def Qc:=@Nat.succ_mul
def Qd:=@Nat.testBit_lt_two_pow
def Rx:=@Bool.and_eq_false_iff
def Ry:=@Bool.eq_iff_iff
def Rz:=@Bool.or_eq_true
def RN:=@List.drop_left'
def RO:=@List.getElem?_cons_succ
def RQ:=@List.getElem?_set
def RR:=@List.nodup_range
def RS:=@List.range_eq_range'
def RT:=@List.singleton_append
def RU:=@Nat.add_mul
def RV:=@Nat.add_sub_cancel
def RW:=@Nat.le_of_lt
def RX:=@Nat.mul_le_mul_right
def TH:=@Int.toNat_of_nonneg
def TL:=@List.all_eq_true
def TM:=@List.drop_append_of_le_length
def TN:=@List.drop_succ_cons
def TO:=@List.eq_nil_or_concat
def TP:=@List.flatMap_nil
def TQ:=@List.getElem?_drop
def TR:=@List.getElem?_reverse
def TS:=@List.getElem_set
def TT:=@List.length_filter_le
def TU:=@List.length_zipIdx
def TV:=@List.map_take
def TW:=@List.mergeSort_perm
def TX:=@List.nodup_cons
def TY:=@List.replicate_zero
def TZ:=@List.set_append_left
def Ua:=@List.take_append_of_le_length
def Ub:=@List.take_succ_cons
def Ud:=@Nat.add_comm
def Ue:=@Nat.eq_of_testBit_eq
def Uf:=@Nat.le_succ_of_le
def Ug:=@Nat.le_total
def Uh:=@Nat.log2_lt
def Ui:=@Nat.lt_trichotomy
def Uj:=@Nat.not_lt_zero
def Uk:=@Nat.pow_add
def Ul:=@Nat.zero_mul
def Wo:=@Array.getElem?_modify
def WF:=@Int.natCast_mul
def WJ:=@List.append_inj_left
def WK:=@List.drop_take
def WL:=@List.eraseIdx_eq_take_drop_succ
def WM:=@List.filter_eq_self
def WN:=@List.foldl_map
def WO:=@List.getElem_append_left
def WP:=@List.length_flatten
def WQ:=@List.map_pmap
def WR:=@List.mem_append_left
def WS:=@List.nodup_append
def WT:=@List.nodup_nil
def WU:=@List.pairwise_lt_range
def WV:=@List.range'_succ
def WW:=@List.take_take
def WX:=@List.zipIdx_cons
def WY:=@List.zip_cons_cons
def Xa:=@Nat.add_le_add_left
def Xb:=@Nat.div_div_eq_div_mul
def Xc:=@Nat.lt_of_le_of_lt
def Xd:=@Nat.mul_assoc
def dG:=@List.dropWhile_cons_of_neg
def dH:=@List.eq_of_mem_replicate
def dI:=@List.getLast?_eq_getElem?
def dJ:=@List.pairwise_mergeSort
def dK:=@List.takeWhile_append_of_pos
def dL:=@List.take_succ_eq_append_getElem
def X{p:Prop}(h:p:=by omega):p:=h
def Bc{p:Prop}(h:p:=by decide):p:=h
def Bi{p:Prop}(h:p:=by kernel_rfl):p:=h
def Bv{p:Prop}(h:p:=by simp;omega):p:=h
def Bh{p:Prop}(h:p:=by simp):p:=h
def CB{p:Prop}(h:p:=by simp only[maxLen];omega):p:=h
def Ck{p:Prop}(h:p:=by assumption):p:=h
def Bf{p:Prop}(h:p:=by grind):p:=h
def Ozi{p:Prop}(h:p:=by intros;omega):p:=h
abbrev Bg:=Ae AI
abbrev Bl:=Ae Ah
abbrev Bj:=Ae Y
abbrev Bb(n:H):Ah:=.int .i64 n
section
abbrev BG:=Ae (Y×Ah)
def lk:BG->Y->Av Ah
 |[],_=>Aa
 |(i,v)::r,t=>match JE i t with|true=>J v|false=>lk r t
def ev(U:BG):AD->Av Ah
 |.tmp t=>lk U t
 |.const v=>J v
 |.global g=>J (.pointer (J ⟨g,0,Aa⟩))
 |.func f=>J (.func (.func f) #[] #[])
def evs(U:BG):Ae AD->Av (Bl)
 |[]=>J []
 |x::r=>match ev U x with
  |some v=>match evs U r with
   |some vs=>J (v::vs)
   |none=>Aa
  |none=>Aa
structure Fr(n:Y)(U:BG)(a:AE):Prop where
 size:a.tmps.size=n
 val:∀t v,lk U t=J v->a.tmps[t]? =J v
 df:a.defers=[]
def Fr.ev{n:Y}{U:BG}{a:AE}(h:Fr n U a){x:AD}{v:Ah}(hx:ev U x=J v):a.eval x=v:=by
 cases x with
 |tmp t=>
  have:=h.val t v hx;simp[Act.eval,this]
 |const u=>simpa[Go.Proofs.YtkmlafmjaeeanaaGreatDoor.ev,Act.eval]using hx
 |global g=>simpa[Go.Proofs.YtkmlafmjaeeanaaGreatDoor.ev,Act.eval]using hx
 |func f=>simpa[Go.Proofs.YtkmlafmjaeeanaaGreatDoor.ev,Act.eval]using hx
def Fr.evs{n:Y}{U:BG}{a:AE}(h:Fr n U a):∀{xs:Ae AD} {vs:Bl},evs U xs=J vs->xs.map a.eval=vs
 |[],vs,hx=>by simpa[Go.Proofs.YtkmlafmjaeeanaaGreatDoor.evs]using hx
 |x::xs,vs,hx=>by
  unfold Go.Proofs.YtkmlafmjaeeanaaGreatDoor.evs at hx;split at hx
  .rename_i v hv;split at hx
   .rename_i us hus;injection hx with hx;subst hx;simp[h.ev hv,h.evs hus]
   .cases hx
  .cases hx
def OX(U:BG)(d:Y)(v:Ah):lk ((d,v)::U) d=J v:=by simp[lk]
def OV(U:BG)(d t:Y)(v:Ah):lk ((d,v)::U) t=if d=t then J v else lk U t:=by
 by_cases h:d=t
 .subst h;simp[OX]
 .have:JE d t=Ai:=by
   cases hb:JE d t with
   |false=>rfl
   |true=>simp_all
  simp[lk,this,h]
def Fr.put{n:Y}{U:BG}{a:AE}(h:Fr n U a){d:Y}(i:BK d n=Af)(v:Ah):Fr n ((d,v)::U) (a.put (J d) v):=by
 have g:=by simpa[Nat.blt_eq]using i
 refine⟨by simpa[Act.put]using h.size,fun t u f=>?_,h.df⟩;rw[OV]at f;by_cases e:d=t
 .subst e;simp at f;subst f;simp[Act.put,h.size,g]
 .simp[e]at f;simp[Act.put];rw[Array.getElem?_setIfInBounds_ne e];exact h.val t u f
def DZ:BG->BG->Prop
 |[],_=>True
 |(t,v)::r,U=>lk U t=J v/\DZ r U
def DZ.lk{U:BG}:∀{U':BG},DZ U' U->∀{t:Y} {v:Ah},lk U' t=J v->lk U t=J v
 |[],_,_,_,h=>by simp[Go.Proofs.YtkmlafmjaeeanaaGreatDoor.lk]at h
 |(i,u)::r,hs,t,v,h=>by
  rw[OV]at h;by_cases e:i=t
  .subst e;simp at h;subst h;exact hs.1
  .simp[e]at h;exact hs.2.lk h
def Fr.sub{n:Y}{U U':BG}{a:AE}(h:Fr n U a)(hs:DZ U' U):Fr n U' a:=⟨h.size,fun t v ht=>h.val t v (hs.lk ht),h.df⟩
inductive KI where
 |code (c:AL)
 |blk (id:Y)
 |asr (I:AE->Ad->Prop)
def DP(P:AC)(R:AE->Ad->Prop):Ae KI->AP->AE->Ad->Prop
 |[],.normal=>R
 |[],.ret=>R
 |[],_=>fun _ _=>False
 |.code c::k,e=>match e with|.normal=>fun a w=>c.wp P (DP P R k) a w|e=>DP P R k e
 |.blk id::k,e=>match e with|.exit i=>fun a w=>if i=id then DP P R k .normal a w else DP P R k (.exit i) a w|e=>DP P R k e
 |.asr I::k,e=>match e with|.normal=>I|e=>DP P R k e
def GS(id:Y):Ae KI->Av (Ae KI)
 |[]=>Aa
 |.blk i::k=>match JE id i with|true=>J k|false=>GS id k
 |.code _::k=>GS id k
 |.asr _::k=>GS id k
def KW(P:AC)(R:AE->Ad->Prop)(k:Ae KI)(n:Y)(U:BG)(w:Ad):Prop:=∀a,Fr n U a->DP P R k .normal a w
section
variable{P:AC}{R:AE->Ad->Prop}{k:Ae KI}{n:Y}{U:BG}{w:Ad}
def Abt(c:AL)(k:Ae KI):DP P R (.code c::k)=Exit.then (fun a w=>c.wp P (DP P R k) a w) (DP P R k):=by
 funext e a w;cases e<;>simp[DP,Exit.then]
def Abs(id:Y)(k:Ae KI):DP P R (.blk id::k)=Exit.inBlock id (DP P R k):=by
 funext e a w;cases e<;>simp[DP,Exit.inBlock]
def VC{id:Y}:∀{k k':Ae KI},GS id k=J k'->∀a w,DP P R k (.exit id) a w=DP P R k' .normal a w
 |[],_,h,_,_=>by simp[GS]at h
 |.code c::k,k',h,a,w=>by simp[GS]at h;exact VC h a w
 |.asr I::k,k',h,a,w=>by simp[GS]at h;exact VC h a w
 |.blk i::k,k',h,a,w=>by
  simp[GS]at h;simp only[DP];by_cases e:id=i
  .simp_all
  .have:JE id i=Ai:=by
    cases hb:JE _ i with
    |false=>rfl
    |true=>simp_all
   rw[this]at h;rw[Ag e];exact VC h a w
def VE:∀(k:Ae KI) (a:AE) (w:Ad),DP P R k .ret a w=R a w
 |[],_,_=>rfl
 |.code _::k,a,w=>VE k a w
 |.blk _::k,a,w=>VE k a w
 |.asr _::k,a,w=>VE k a w
def El{x y:AL}(h:KW P R (.code x::.code y::k) n U w):KW P R (.code (.seq x y)::k) n U w:=fun a d=>by
 have:=h a d;refine wp_seq ?_;rwa[<-Abt]
def KW.block{id:Y}{c:AL}(h:KW P R (.code c::.blk id::k) n U w):KW P R (.code (.block id c)::k) n U w:=fun a d=>by
 have:=h a d;refine wp_block ?_;rwa[<-Abs]
def dE{id:Y}(h:KW P R k n U w):KW P R (.blk id::k) n U w:=Ck
def KW.skip(h:KW P R k n U w):KW P R (.code .skip::k) n U w:=fun a d=>wp_skip (h a d)
def ri{l:Y}(h:KW P R k n U w):KW P R (.code (.label l)::k) n U w:=fun a d=>wp_label (h a d)
def rh{id:Y}{k':Ae KI}(hk:GS id k=J k')(h:KW P R k' n U w):KW P R (.code (.exit id)::k) n U w:=fun a d=>
 wp_exit (by rw[VC hk];exact h a d)
def DC(h:∀a,Fr n U a->R a w):KW P R (.code .ret::k) n U w:=fun a d=>wp_ret (by rw[VE];grind)
def KW.done(h:∀a,Fr n U a->R a w):KW P R [] n U w:=h
def Ga{c:AD}{x y:AL}{b:Ar}(f:ev U c=J (.bool b))(ht:b=Af->KW P R (.code x::k) n U w)(hf:b=Ai->KW P R (.code y::k) n U w):
 KW P R (.code (.cond c x y)::k) n U w:=fun a d=>
 wp_cond_split (d.ev f) (fun e=>ht e a d) (fun e=>hf e a d)
def TK{c:AD}{x y:AL}{p:Prop}[Decidable p](hc:ev U c=J (.bool (decide p)))(ht:p->KW P R (.code x::k) n U w)(hf:¬p->KW P R (.code y::k) n U w):
 KW P R (.code (.cond c x y)::k) n U w:=
 Ga hc Bf Bf
def rc{c:AD}{x y:AL}(hc:ev U c=J (.bool Af))(h:KW P R (.code x::k) n U w):KW P R (.code (.cond c x y)::k) n U w:=
 Ga hc (fun _=>h) Bh
def ra{c:AD}{x y:AL}(hc:ev U c=J (.bool Ai))(h:KW P R (.code y::k) n U w):KW P R (.code (.cond c x y)::k) n U w:=
 Ga hc Bh (fun _=>h)
def Met{ι:Type}(n:Y)(I:ι->Prop)(S:ι->BG)(W:ι->Ad)(a:AE)(w:Ad):Prop:=∃i,I i/\Fr n (S i) a/\w=W i
def KW.cut{ι:Type}(I:ι->Prop)(S:ι->BG)(W:ι->Ad){c:AL}(h:KW P R (.code c::.asr (Met n I S W)::k) n U w)(h2:∀i,I i->KW P R k n (S i) (W i)):
 KW P R (.code c::k) n U w:=fun a j=>by
 have d:=h a j;simp[DP]at d ⊢;refine Code.wp_mono (fun e m w' q=>?_) d;cases e with
 |normal=>obtain⟨i,f,g,rfl⟩:=q;exact h2 i f _ g
 |_=>omega
def dF{ι:Type}{I:ι->Prop}{S:ι->BG}{W:ι->Ad}(i:ι)(hs:DZ (S i) U)(hw:w=W i)(hi:I i):KW P R (.asr (Met n I S W)::k) n U w:=
 fun _ ha=>⟨i,hi,ha.sub hs,hw⟩
def NW{ι:Type}(n:Y)(I:ι->Prop)(S:ι->BG)(W:ι->Ad)(μ:ι->Y)(i:ι)(a:AE)(w:Ad):Prop:=∃j,I j/\μ j<μ i/\Fr n (S j) a/\w=W j
def KW.back{ι:Type}{I:ι->Prop}{S:ι->BG}{W:ι->Ad}{μ:ι->Y}{i:ι}(j:ι)(d:DZ (S j) U)(a:w=W j)(hi:I j)(hm:μ j<μ i):
 KW P R (.asr (NW n I S W μ i)::k) n U w:=fun _ e=>⟨j,hi,hm,e.sub d,a⟩
def kj(M:Y->Prop):∀m,M m->∃m,M m/\∀m',M m'->m<=m':=by
 intro m
 induction m using RY with
 |_ m ih=>
  grind
def RL{ι:Type}(I:ι->Prop)(S:ι->BG)(W:ι->Ad)(μ:ι->Y){c:AL}(i:ι)(A:DZ (S i) U)(y:w=W i)(hi:I i)
 (d:∀i,I i->KW P R (.code c::.asr (NW n I S W μ i)::k) n (S i) (W i)):KW P R (.code (.loop c)::k) n U w:=fun a E=>by
 let M (a:AE) (w:Ad) (m:Y):=∃i,I i/\Fr n (S i) a/\w=W i/\μ i=m
 have o:∀a w,(∃m,M a w m)->∃m,M a w m/\∀m',M a w _->m<=m':=fun a w⟨m,g⟩=>kj _ m g
 let ν (a:AE) (w:Ad):=Classical.epsilon fun m=>M a w m/\∀m',M a w m'->m<=m'
 have v:∀a w,(∃m,M a w m)->M a w (ν a w)/\∀m',M a w _->ν a w<=m':=fun a w h=>Classical.epsilon_spec (o a w h);refine wp_loop (fun a w=>∃m,M a w m) ν ⟨_,i,hi,E.sub A,y,Z⟩ fun K w' g=>?_;obtain⟨⟨j,C,D,f,B⟩,_⟩:=v K w' g;have h:=d j C _ D;subst f;refine Code.wp_mono (fun e G x q=>?_) h;cases e with
 |normal=>
  obtain⟨L,t,T,r,p⟩:=q;refine⟨⟨_,_,t,r,p,Z⟩,?_⟩;have:=(v _ _ ⟨_,_,t,r,p,Z⟩).2 _ ⟨_,t,r,p,Z⟩;omega
 |_=>exact q
end
section
variable{P:AC}{R:AE->Ad->Prop}{k:Ae KI}{n:Y}{U:BG}{w:Ad}
def cG{α:Type}(n:Y)(I:α->Prop)(S:α->BG)(W:α->Ad)(μ:α->Y)(x0:α):AE->Ad->Prop:=
 NW n (fun p:α=>I p) (fun p=>S p) (fun p=>W p) (fun p=>μ p) x0
def KW.loop1{α:Type}(I:α->Prop)(S:α->BG)(W:α->Ad)(μ:α->Y){c:AL}(x0:α)(hs:DZ (S x0) U)(hw:w=W x0)(hi:I x0)
 (round:∀x0,I x0->KW P R (.code c::.asr (cG n I S W μ x0)::k) n (S x0) (W x0)):KW P R (.code (.loop c)::k) n U w:=
 RL (fun p:α=>I p) (fun p=>S p) (fun p=>W p) (fun p=>μ p) x0 hs hw hi fun p hp=>round p hp
def KW.back1{α:Type}{I:α->Prop}{S:α->BG}{W:α->Ad}{μ:α->Y}{d:α}(a:α)(f:DZ (S a) U)(e:w=W a)(hi:I a)(hm:μ a<μ d):
 KW P R (.asr (cG n I S W μ d)::k) n U w:=
 KW.back (I:=fun p:α=>I p) (S:=fun p=>S p) (W:=fun p=>W p) (μ:=fun p=>μ p) a f e hi hm
def cI{α β:Type}(n:Y)(I:α->β->Prop)(S:α->β->BG)(W:α->β->Ad)(μ:α->β->Y)(x0:α)(x1:β):AE->Ad->Prop:=
 NW n (fun p:α×β=>I p.1 p.2) (fun p=>S p.1 p.2) (fun p=>W p.1 p.2) (fun p=>μ p.1 p.2) (x0,x1)
def Met2{α β:Type}(n:Y)(I:α->β->Prop)(S:α->β->BG)(W:α->β->Ad):AE->Ad->Prop:=
 Met n (fun p:α×β=>I p.1 p.2) (fun p=>S p.1 p.2) (fun p=>W p.1 p.2)
def rj{α β:Type}(I:α->β->Prop)(S:α->β->BG)(W:α->β->Ad)(μ:α->β->Y){c:AL}(x0:α)(x1:β)(hs:DZ (S x0 x1) U)(hw:w=W x0 x1)(hi:I x0 x1)
 (round:∀x0 x1,I x0 x1->KW P R (.code c::.asr (cI n I S W μ x0 x1)::k) n (S x0 x1) (W x0 x1)):KW P R (.code (.loop c)::k) n U w:=
 RL (fun p:α×β=>I p.1 p.2) (fun p=>S p.1 p.2) (fun p=>W p.1 p.2) (fun p=>μ p.1 p.2) (x0,x1) hs hw hi fun p hp=>round p.1 p.2 hp
def qZ{α β:Type}{I:α->β->Prop}{S:α->β->BG}{W:α->β->Ad}{μ:α->β->Y}{f:α}{e:β}(d:α)(a:β)(h:DZ (S d a) U)(g:w=W d a)(hi:I d a)(hm:μ d a<μ f e):
 KW P R (.asr (cI n I S W μ f e)::k) n U w:=
 KW.back (I:=fun p:α×β=>I p.1 p.2) (S:=fun p=>S p.1 p.2) (W:=fun p=>W p.1 p.2) (μ:=fun p=>μ p.1 p.2) (d,a) h g hi hm
def KW.cut2{α β:Type}(I:α->β->Prop)(S:α->β->BG)(W:α->β->Ad){c:AL}(h:KW P R (.code c::.asr (Met2 n I S W)::k) n U w)
 (h2:∀x0 x1,I x0 x1->KW P R k n (S x0 x1) (W x0 x1)):KW P R (.code c::k) n U w:=
 KW.cut (fun p:α×β=>I p.1 p.2) (fun p=>S p.1 p.2) (fun p=>W p.1 p.2) h Bf
def KW.meet2{α β:Type}{I:α->β->Prop}{S:α->β->BG}{W:α->β->Ad}(d:α)(a:β)(f:DZ (S d a) U)(e:w=W d a)(hi:I d a):
 KW P R (.asr (Met2 n I S W)::k) n U w:=
 dF (I:=fun p:α×β=>I p.1 p.2) (S:=fun p=>S p.1 p.2) (W:=fun p=>W p.1 p.2) (d,a) f e hi
def cJ{α β γ:Type}(n:Y)(I:α->β->γ->Prop)(S:α->β->γ->BG)(W:α->β->γ->Ad)(μ:α->β->γ->Y)(x0:α)(x1:β)(x2:γ):AE->Ad->Prop:=
 NW n (fun p:α×β×γ=>I p.1 p.2.1 p.2.2) (fun p=>S p.1 p.2.1 p.2.2) (fun p=>W p.1 p.2.1 p.2.2) (fun p=>μ p.1 p.2.1 p.2.2) (x0,x1,x2)
def KW.loop3{α β γ:Type}(I:α->β->γ->Prop)(S:α->β->γ->BG)(W:α->β->γ->Ad)(μ:α->β->γ->Y){c:AL}(x0:α)(x1:β)(x2:γ)(hs:DZ (S x0 x1 x2) U)(hw:w=W x0 x1 x2)(hi:I x0 x1 x2)
 (round:∀x0 x1 x2,I x0 x1 x2->KW P R (.code c::.asr (cJ n I S W μ x0 x1 x2)::k) n (S x0 x1 x2) (W x0 x1 x2)):KW P R (.code (.loop c)::k) n U w:=
 RL (fun p:α×β×γ=>I p.1 p.2.1 p.2.2) (fun p=>S p.1 p.2.1 p.2.2) (fun p=>W p.1 p.2.1 p.2.2) (fun p=>μ p.1 p.2.1 p.2.2) (x0,x1,x2) hs hw hi fun p hp=>round p.1 p.2.1 p.2.2 hp
def KW.back3{α β γ:Type}{I:α->β->γ->Prop}{S:α->β->γ->BG}{W:α->β->γ->Ad}{μ:α->β->γ->Y}{h:α}{g:β}{f:γ}(e:α)(d:β)(a:γ)(j:DZ (S e d a) U)(i:w=W e d a)(hi:I e d a)(hm:μ e d a<μ h g f):
 KW P R (.asr (cJ n I S W μ h g f)::k) n U w:=
 KW.back (I:=fun p:α×β×γ=>I p.1 p.2.1 p.2.2) (S:=fun p=>S p.1 p.2.1 p.2.2) (W:=fun p=>W p.1 p.2.1 p.2.2) (μ:=fun p=>μ p.1 p.2.1 p.2.2) (e,d,a) j i hi hm
def cK{α β γ δ:Type}(n:Y)(I:α->β->γ->δ->Prop)(S:α->β->γ->δ->BG)(W:α->β->γ->δ->Ad)(μ:α->β->γ->δ->Y)(x0:α)(x1:β)(x2:γ)(x3:δ):AE->Ad->Prop:=
 NW n (fun p:α×β×γ×δ=>I p.1 p.2.1 p.2.2.1 p.2.2.2) (fun p=>S p.1 p.2.1 p.2.2.1 p.2.2.2) (fun p=>W p.1 p.2.1 p.2.2.1 p.2.2.2) (fun p=>μ p.1 p.2.1 p.2.2.1 p.2.2.2) (x0,x1,x2,x3)
def KW.loop4{α β γ δ:Type}(I:α->β->γ->δ->Prop)(S:α->β->γ->δ->BG)(W:α->β->γ->δ->Ad)(μ:α->β->γ->δ->Y){c:AL}(x0:α)(x1:β)(x2:γ)(x3:δ)(hs:DZ (S x0 x1 x2 x3) U)(hw:w=W x0 x1 x2 x3)(hi:I x0 x1 x2 x3)
 (round:∀x0 x1 x2 x3,I x0 x1 x2 x3->KW P R (.code c::.asr (cK n I S W μ x0 x1 x2 x3)::k) n (S x0 x1 x2 x3) (W x0 x1 x2 x3)):KW P R (.code (.loop c)::k) n U w:=
 RL (fun p:α×β×γ×δ=>I p.1 p.2.1 p.2.2.1 p.2.2.2) (fun p=>S p.1 p.2.1 p.2.2.1 p.2.2.2) (fun p=>W p.1 p.2.1 p.2.2.1 p.2.2.2) (fun p=>μ p.1 p.2.1 p.2.2.1 p.2.2.2) (x0,x1,x2,x3) hs hw hi fun p hp=>round p.1 p.2.1 p.2.2.1 p.2.2.2 hp
def KW.back4{α β γ δ:Type}{I:α->β->γ->δ->Prop}{S:α->β->γ->δ->BG}{W:α->β->γ->δ->Ad}{μ:α->β->γ->δ->Y}{j:α}{i:β}{h:γ}{g:δ}(f:α)(e:β)(d:γ)(a:δ)(o:DZ (S f e d a) U)(m:w=W f e d a)(hi:I f e d a)(hm:μ f e d a<μ j i h g):
 KW P R (.asr (cK n I S W μ j i h g)::k) n U w:=
 KW.back (I:=fun p:α×β×γ×δ=>I p.1 p.2.1 p.2.2.1 p.2.2.2) (S:=fun p=>S p.1 p.2.1 p.2.2.1 p.2.2.2) (W:=fun p=>W p.1 p.2.1 p.2.2.1 p.2.2.2) (μ:=fun p=>μ p.1 p.2.1 p.2.2.1 p.2.2.2) (f,e,d,a) o m hi hm
end
def OW(P:AC)(R:AE->Ad->Prop)(ops:Ap AG)(l:Ae AG)(k:Ae KI)(n:Y)(U:BG)(w:Ad):Prop:=∀a,Fr n U a->wpList P ops (DP P R k) l a w
def BJ(ops:Ap AG)(U:BG):Av (Y×Ar)->Av Ar
 |none=>J Af
 |some (j,want)=>match (ops[j]?).bind (·.dst)with
  |some t=>match lk U t with
   |some (.bool b)=>J (b==want)
   |some (.tuple _)=>J Ai
   |_=>Aa
  |none=>Aa
def IL{ops:Ap AG}{U:BG}{n:Y}{a:AE}(f:Fr n U a){o:AG}{b:Ar}(h:BJ ops U o.guard=J b):Region.wanted o (yielded ops a.tmps)=b:=by
 unfold Region.wanted;cases hg:o.guard with
 |none=>rw[hg]at h;simpa[BJ]using h
 |some jw=>
  rw[hg]at h;simp[BJ]at h;split at h
  .rename_i t e;split at h
   .rename_i u d;injection h with h;subst h;have:=f.val t _ d;simp only[yielded,e,Option.bind_some,this];rfl
   .rename_i u d;injection h with h;subst h;have:=f.val t _ d;simp only[yielded,e,Option.bind_some,this];rfl
   .cases h
  .cases h
section
variable{P:AC}{R:AE->Ad->Prop}{ops:Ap AG}{l rest:Ae AG}{k:Ae KI}{n:Y}{U:BG}{w w':Ad}
def KW.region{id:Y}(h:OW P R l.toArray l k n U w):KW P R (.code (.region id l.toArray Ai)::k) n U w:=fun a d=>wp_region_lit (h a d)
def OW.nil(h:KW P R k n U w):OW P R ops [] k n U w:=h
def OW.as(t:Y)(g:Ah){v:Ah}(ht:lk U t=J v)(e:v=g)(h:OW P R ops l k n ((t,g)::U) w):OW P R ops l k n U w:=fun a f=>
 h a ⟨f.size,fun i u d=>by
  rw[OV]at d;by_cases j:t=i
  .subst j;simp at d;subst d;rw[<-e];exact f.val t _ ht
  .simp[j]at d;exact f.val i u d,f.df⟩
def KW.as(t:Y)(d:Ah){v:Ah}(ht:lk U t=J v)(e:v=d)(h:KW P R k n ((t,d)::U) w):KW P R k n U w:=fun a f=>
 OW.as (P:=P) (R:=R) (ops:=#[]) (l:=[]) t d ht e h a f
def OW.split(t:Y){b:Ar}(ht:lk U t=J (.bool b))(h1:b=Af->OW P R ops l k n ((t,.bool Af)::U) w)(h2:b=Ai->OW P R ops l k n ((t,.bool Ai)::U) w):OW P R ops l k n U w:=by
 cases b with
 |true=>exact OW.as t _ ht Z (h1 Z)
 |false=>exact OW.as t _ ht Z (h2 Z)
def rJ(t:Y){p:Prop}[Decidable p](ht:lk U t=J (.bool (decide p)))(h1:p->OW P R ops l k n ((t,.bool Af)::U) w)(h2:¬p->OW P R ops l k n ((t,.bool Ai)::U) w):OW P R ops l k n U w:=
 OW.split t ht Bf Bf
def EX(P:AC)(n:Y)(U:BG)(op:Op)(ty:Aw)(w:Ad)(v:Ah)(w':Ad):Prop:=
 ∀(a:AE),Fr n U a->∀(dst:Av Tmp) (pos:AJ) (after:Ap Edge) (g:Av (Y×Ar)),(execOp a.eval ⟨dst,op,ty,pos,after,g⟩).run P w=.ok (.value v) w'
def EU(P:AC)(n:Y)(U:BG)(op:Op)(ty:Aw)(w w':Ad):Prop:=
 ∀(a:AE),Fr n U a->∀(dst:Av Tmp) (pos:AJ) (after:Ap Edge) (g:Av (Y×Ar)),(execOp a.eval ⟨dst,op,ty,pos,after,g⟩).run P w=.ok .skip w'
def EC(P:AC)(n:Y)(U:BG)(op:Op)(ty:Aw)(w:Ad)(f:FuncId)(args:Ap Ah):Prop:=
 ∀(a:AE),Fr n U a->∀(dst:Av Tmp) (pos:AJ) (after:Ap Edge) (g:Av (Y×Ar)),(execOp a.eval ⟨dst,op,ty,pos,after,g⟩).run P w=.ok (.enter f args) w
def OW.val{d:Y}{op:Op}{ty:Aw}{e:AJ}{after:Ap Edge}{g:Av (Y×Ar)}{v:Ah}(i:BJ ops U g=J Af)(j:BK d n=Af)(he:EX P n U op ty w v w')
 (h:OW P R ops rest k n ((d,v)::U) w'):OW P R ops (⟨J d,op,ty,e,after,g⟩::rest) k n U w:=fun a f=>by
 have m:=he a f (J d) e after g;unfold wpList;rw[Aj (IL f i)];refine .inl ?_;unfold Oper.wp;rw[m];exact h _ (f.put j v)
def RZ{op:Op}{ty:Aw}{d:AJ}{after:Ap Edge}{g:Av (Y×Ar)}(f:BJ ops U g=J Af)(he:EU P n U op ty w w')
 (h:OW P R ops rest k n U w'):OW P R ops (⟨Aa,op,ty,d,after,g⟩::rest) k n U w:=fun a e=>by
 have i:=he a e Aa d after g;unfold wpList;rw[Aj (IL e f)];refine .inl ?_;unfold Oper.wp;rw[i];exact h _ e
def HN{d:Y}{op:Op}{ty:Aw}{e:AJ}{after:Ap Edge}{g:Av (Y×Ar)}(i:BJ ops U g=J Ai)(j:BK d n=Af)
 (h:OW P R ops rest k n ((d,undef)::U) w):OW P R ops (⟨J d,op,ty,e,after,g⟩::rest) k n U w:=fun a f=>by
 unfold wpList;rw[Ag (by rw[IL f i];simp)];exact h _ (f.put j _)
def Bm(P:AC)(f:FuncId)(args:Bl)(w:Ad)(Q:Ah->Ad->Prop):Prop:=
 (∃fn,P.funcs[f]? =J fn/\(!(fn.name== "runtime.NumGoroutine") && fn.body.isSome)=Af)/\Calls P f args.toArray w fun e w'=>∃v,e=.returned v/\Q v w'
def Bm.mono{f:FuncId}{args:Bl}{Q Q':Ah->Ad->Prop}(h:Bm P f args w Q)(hq:∀v w',Q v w'->Q' v w'):Bm P f args w Q':=
 ⟨h.1,h.2.mono Bf⟩
def Pt {f:FuncId} {fn:Func} (hf:P.funcs[f]? =J fn) (a:(!(fn.name== "runtime.NumGoroutine") && fn.body.isSome)=Af) (args:Ap Ah):
 (callFunc f args).run P w=.ok (.enter f args) w:=by
 simp only[Bool.and_eq_true,Bool.not_eq_true',beq_eq_false_iff_ne]at a;have d:fn.body≠Aa:=by intro e;rw[e]at a;grind
 unfold callFunc;simp[Sem.run,hf,a.1,d]
def dU{d:Y}{op:Op}{ty:Aw}{i:AJ}{after:Ap Edge}{g:Av (Y×Ar)}{f:FuncId}{args:Bl}{Q:Ah->Ad->Prop}(o:BJ ops U g=J Af)(p:BK d n=Af)
 (he:EC P n U op ty w f args.toArray) (r:Bm P f args w Q) (h:∀v w',Q v w'->OW P R ops rest k n ((d,v)::U) w'):OW P R ops (⟨J d,op,ty,i,after,g⟩::rest) k n U w:=fun a j=>by
 have t:=he a j (J d) i after g;unfold wpList;rw[Aj (IL j o)];refine .inl ?_;unfold Oper.wp;rw[t];refine r.2.mono fun e m⟨v,he,q⟩=>?_;subst he;exact h v _ q _ (j.put p v)
def RB {f:FuncId} {xs:Ae AD} {vs:Bl} {d:Ap Aw} {ty:Aw} {fn:Func} (hf:P.funcs[f]? =J fn) (h:(!(fn.name== "runtime.NumGoroutine") && fn.body.isSome)=Af) (hx:evs U xs=J vs):
 EC P n U (.call { callee:=.value (.func f),args:=xs.toArray,argTypes:=d }) ty w f vs.toArray:=fun a i j e after g=>by
 rw[execOp_call_go];have:#[]++xs.toArray.map a.eval++#[]=vs.toArray:=by simp[i.evs hx]
 rw[this];exact Pt hf h _
def OW.call{d:Y}{f:FuncId}{xs:Ae AD}{e:Ap Aw}{ty:Aw}{a:AJ}{after:Ap Edge}{g:Av (Y×Ar)}{vs:Bl}{Q:Ah->Ad->Prop}
 (j:BJ ops U g=J Af) (m:BK d n=Af) (hx:evs U xs=J vs) (i:Bm P f vs w Q) (h:∀v w',Q v w'->OW P R ops rest k n ((d,v)::U) w'):
 OW P R ops (⟨J d,.call { callee:=.value (.func f),args:=xs.toArray,argTypes:=e },ty,a,after,g⟩::rest) k n U w:=by
 obtain⟨⟨fn,p,o⟩,_⟩:=id i;exact dU j m (RB p o hx) i h
end
def QW(P:AC)(R:AE->Ad->Prop)(ops:Ap AG)(l:Ae AG)(k:Ae KI)(n:Y)(U:BG)(w:Ad):Prop:=∀a,Fr n U a->
 wpQuiet P ops (fun w'=>∃m,w'=w.drewN m) (fun a'=>∀w',(∃m,w'=w.drewN m)->DP P R k .normal a' w') l a
section
variable{P:AC}{R:AE->Ad->Prop}{ops:Ap AG}{l rest:Ae AG}{k:Ae KI}{n:Y}{U:BG}{w:Ad}
def WI{id:Y}(hm:P.follows .mixedOrders=Af)(e:Region.lexB .any l.toArray=Af)(h:QW P R l.toArray l k n U w):KW P R (.code (.region id l.toArray Af)::k) n U w:=fun a d=>
 wp_region_quiet_lit hm e (h a d)
def QW.nil(h:∀m,KW P R k n U (w.drewN m)):QW P R ops [] k n U w:=fun a d=>wpQuiet_nil (by rintro w'⟨m,rfl⟩;exact h m a d)
def QW.val{d:Y}{op:Op}{ty:Aw}{e:AJ}{after:Ap Edge}{g:Av (Y×Ar)}{v:Ah}(i:BJ ops U g=J Af)(j:BK d n=Af)(he:∀m,EX P n U op ty (w.drewN m) v (w.drewN m))
 (h:QW P R ops rest k n ((d,v)::U) w):QW P R ops (⟨J d,op,ty,e,after,g⟩::rest) k n U w:=fun a f=>by
 unfold wpQuiet;rw[Aj (IL f i)];refine⟨v,?_,h _ (f.put j v)⟩;rintro w'⟨m,rfl⟩;unfold Oper.quietAt;rw[he m a f _ _ _ g];exact⟨Z,Z⟩
def rM{d:Y}{op:Op}{ty:Aw}{e:AJ}{after:Ap Edge}{g:Av (Y×Ar)}(i:BJ ops U g=J Ai)(j:BK d n=Af)
 (h:QW P R ops rest k n ((d,undef)::U) w):QW P R ops (⟨J d,op,ty,e,after,g⟩::rest) k n U w:=fun a f=>by
 unfold wpQuiet;rw[Ag (by rw[IL f i];simp)];exact h _ (f.put j _)
def QW.as(t:Y)(g:Ah){v:Ah}(ht:lk U t=J v)(e:v=g)(h:QW P R ops l k n ((t,g)::U) w):QW P R ops l k n U w:=fun a f=>
 h a ⟨f.size,fun i u d=>by
  rw[OV]at d;by_cases j:t=i
  .subst j;simp at d;subst d;rw[<-e];exact f.val t _ ht
  .simp[j]at d;exact f.val i u d,f.df⟩
def rN(t:Y){p:Prop}[Decidable p](ht:lk U t=J (.bool (decide p)))(h1:p->QW P R ops l k n ((t,.bool Af)::U) w)(h2:¬p->QW P R ops l k n ((t,.bool Ai)::U) w):QW P R ops l k n U w:=by
 by_cases a:p
 .exact QW.as t _ ht Bf (h1 a)
 .exact QW.as t _ ht Bf (h2 a)
def Xm(P:AC)(f:FuncId)(args:Bl)(w:Ad)(v:Ah):Prop:=Bm P f args w fun v' w'=>v'=v/\∃m,w'=w.drewN m
def QW.call{d:Y}{f:FuncId}{xs:Ae AD}{p:Ap Aw}{ty:Aw}{i:AJ}{after:Ap Edge}{g:Av (Y×Ar)}{vs:Bl}{v:Ah}
 (t:BJ ops U g=J Af) (x:BK d n=Af) (hx:evs U xs=J vs) (y:∀m,Xm P f vs (w.drewN m) v) (h:QW P R ops rest k n ((d,v)::U) w):
 QW P R ops (⟨J d,.call { callee:=.value (.func f),args:=xs.toArray,argTypes:=p },ty,i,after,g⟩::rest) k n U w:=fun a o=>by
 unfold wpQuiet;rw[Aj (IL o t)];refine⟨v,?_,h _ (o.put x v)⟩;rintro w'⟨m,rfl⟩;unfold Oper.quietAt;obtain⟨⟨fn,B,A⟩,j⟩:=y m;rw[RB B A hx a o _ _ _ g];refine⟨Z,j.mono ?_⟩;rintro e q⟨C,rfl,rfl,r,rfl⟩;exact⟨Z,m+r,Bh⟩
end
def HW(P:AC)(R:AE->Ad->Prop)(ops:Ap AG)(l:Ae AG)(N:Y)(k:Ae KI)(n:Y)(U:BG)(w:Ad):Prop:=∀a,Fr n U a->
 wpStill P ops w (fun a'=>wpList P ops (DP P R k) (l.drop N) a' w) (l.take N) a
section
variable{P:AC}{R:AE->Ad->Prop}{ops:Ap AG}{l rest:Ae AG}{N:Y}{k:Ae KI}{n:Y}{U:BG}{w:Ad}
def Kk{id:Y}(N:Y)(hm:P.follows .mixedOrders=Af)(e:Region.lexTailB .any l.toArray N=Af)(h:HW P R l.toArray l N k n U w.drew):KW P R (.code (.region id l.toArray Af)::k) n U w:=fun a d=>
 wp_region_still_tail N hm e (h a d)
def HW.tail(h:OW P R ops l k n U w):HW P R ops l 0 k n U w:=Ck
def HW.val{d:Y}{op:Op}{ty:Aw}{e:AJ}{after:Ap Edge}{g:Av (Y×Ar)}{v:Ah}(i:BJ ops U g=J Af)(j:BK d n=Af)(he:EX P n U op ty w v w)
 (h:HW P R ops rest N k n ((d,v)::U) w):HW P R ops (⟨J d,op,ty,e,after,g⟩::rest) (N+1) k n U w:=fun a f=>by
 show wpStill P _ w _ (_::rest.take N) a;unfold wpStill;rw[Aj (IL f i)];unfold Oper.still;rw[he a f _ _ _ g];exact⟨Z,h _ (f.put j v)⟩
end
def IY:Y->Bl->BG
 |_,[]=>[]
 |i,v::r=>(i,v)::IY (i+1) r
def eH:∀(l:Bl) (i t:Y) (v:Ah),lk (IY i l) t=J v->i<=t/\l[t-i]? =J v
 |[],_,_,_,h=>by simp[IY,lk]at h
 |u::r,i,t,v,h=>by
  simp[IY]at h;rw[OV]at h;by_cases e:i=t
  .grind
  .simp[e]at h;obtain⟨h1,h2⟩:=eH r (i+1) t v h;grind
def Fr.start(args:Bl)(m:Y):Fr (Alz args+m) (IY 0 args) { tmps:=args.toArray++Jv m undef,defers:=[] }:=
 ⟨Bh,fun t v h=>by
  obtain⟨_,h2⟩:=eH args 0 t v h;grind,Z⟩
def Bw{P:AC}{f:FuncId}{fn:Func}{c:AL}{args:Bl}{w:Ad}{Q:Ah->Ad->Prop}{n:Y}(hf:P.funcs[f]? =J fn)(i:fn.body=J c)(d:fn.ntmps=n)
 (m:(!(fn.name== "runtime.NumGoroutine") && fn.body.isSome)=Af) (hl:Alz args+(n-Alz args)=n)
 (h:KW P (fun a w'=>bodyPost P fn (fun e w'=>∃v,e=.returned v/\Q v w') .ret a w') [.code c] n (IY 0 args) w):Bm P f args w Q:=by
 refine⟨Bf,calls_of_wp hf i ?_⟩
 have g:Fr n (IY 0 args) { tmps:=args.toArray++Jv (fn.ntmps-args.toArray.size) undef,defers:=[] }:=by
  have:=Fr.start args (n-Alz args);rw[hl]at this;simpa[d]using this
 have j:=h _ g;refine Code.wp_mono (fun e o w' q=>?_) j;cases e with
 |normal=>exact q
 |ret=>exact q
 |_=>exact q.elim
section
variable{P:AC}{fn:Func}{Q:Ah->Ad->Prop}{n:Y}{U:BG}{w:Ad}{k:Ae KI}
def MH{v:Ah}(hr:∀a,Fr n U a->(results fn a.tmps).run P w=.ok v w)(hq:Q v w):∀a,Fr n U a->bodyPost P fn (fun e w'=>∃v,e=.returned v/\Q v w') .ret a w:=
 fun a ha=>⟨ha.df,v,hr a ha,v,Z,hq⟩
def ret1{t:Y}{v:Ah}(hs:fn.results=#[.tmp t])(hv:lk U t=J v)(hq:Q v w):∀a,Fr n U a->bodyPost P fn (fun e w'=>∃v,e=.returned v/\Q v w') .ret a w:=
 MH (fun a ha=>by rw[results_tmp hs];simp[ha.val t v hv]) hq
def Ib(hs:fn.results=#[])(hq:Q (.tuple #[]) w):∀a,Fr n U a->bodyPost P fn (fun e w'=>∃v,e=.returned v/\Q v w') .ret a w:=
 MH (fun _ _=>results_none hs _ _ _) hq
def ret2{t u:Y}{v x:Ah}(hs:fn.results=#[.tmp t,.tmp u])(hv:lk U t=J v)(hx:lk U u=J x)(hq:Q (.tuple #[v,x]) w):∀a,Fr n U a->bodyPost P fn (fun e w'=>∃v,e=.returned v/\Q v w') .ret a w:=
 MH (fun a ha=>by rw[results_tmp2 hs];simp[ha.val t v hv,ha.val u x hx]) hq
def ret3{t u s:Y}{v x y:Ah}(hs:fn.results=#[.tmp t,.tmp u,.tmp s])(hv:lk U t=J v)(hx:lk U u=J x)(hy:lk U s=J y)(hq:Q (.tuple #[v,x,y]) w):
 ∀a,Fr n U a->bodyPost P fn (fun e w'=>∃v,e=.returned v/\Q v w') .ret a w:=
 MH (fun a ha=>by rw[results_tmp3 hs];simp[ha.val t v hv,ha.val u x hx,ha.val s y hy]) hq
end
end
section
def maxN:AK->Y
 |.i8=>127|.i16=>32767|.i32=>2147483647|.i64=>9223372036854775807
 |.u8=>255|.u16=>65535|.u32=>4294967295|.u64=>18446744073709551615
def QK:AK->Y
 |.u8=>256|.u16=>65536|.u32=>4294967296|.u64=>18446744073709551616|_=>0
def LN{k:AK}{m a:Y}(hm:maxN k=m)(h:a<=m):k.wrap (a:H)=a:=by
 subst hm
 cases k<;>simp[maxN]at h<;>first
  |exact IntWalk.i8_in _ X|exact IntWalk.i16_in _ X|exact IntWalk.i32_in _ X|exact IntWalk.i64_in _ X
  |exact IntWalk.u8_in _ X|exact IntWalk.u16_in _ X|exact IntWalk.u32_in _ X|exact IntWalk.u64_in _ X
def pH{k:AK}{m a:Y}(hm:QK k=m)(e:0<m):k.wrap (a:H)=((a%m:Y):H):=by
 subst hm;cases k<;>simp[QK]at e<;>simp[QK,IntKind.wrap,IntKind.bits,IntKind.signed]
def ci{k:AK}{m:Y}{a:H}(e:k.signed=Af)(hm:maxN k=m)(h:-((m:H)+1)<=a/\a<=m):k.wrap a=a:=by
 subst hm
 cases k<;>simp[IntKind.signed]at e<;>simp only[maxN]at h<;>first
  |exact IntWalk.i8_in _ X|exact IntWalk.i16_in _ X|exact IntWalk.i32_in _ X|exact IntWalk.i64_in _ X
def kH(k:AK):maxN k<2 ^ k.bits:=by cases k<;>decide
abbrev str(l:Bg):Ah:=.string ⟨⟨l⟩⟩
section
variable{P:AC}{n:Y}{U:BG}{w:Ad}{t t':Aw}{ty:Aw}{x y:AD}{k:AK}{a b m:Y}{c d:H}
def EX.move{v:Ah}(hx:ev U x=J v):EX P n U (.move x) ty w v w:=fun a f h e after g=>by
 simp only[execOp,f.ev hx];rfl
def HI{v:Ah}(hx:ev U x=J v):EX P n U (.assign x) ty w v w:=fun a f h e after g=>by
 simp only[execOp,f.ev hx];rfl
def de{z:AD}{v:Ah}(hx:ev U x=J (.bool Af))(h:ev U y=J v):EX P n U (.pick x y z) ty w v w:=fun a e l f after g=>by
 simp only[execOp,e.ev hx,e.ev h];rfl
def TF{z:AD}{v:Ah}(hx:ev U x=J (.bool Ai))(h:ev U z=J v):EX P n U (.pick x y z) ty w v w:=fun a e l f after g=>by
 simp only[execOp,e.ev hx,e.ev h];rfl
def FP{op:BinOp}{u v r:Ah}(hx:ev U x=J u)(h:ev U y=J v)(o:(eqGuard op t x y u v).run P w=.ok () w)(l:(binOp op t u v).run P w=.ok r w):EX P n U (.binOp op t x y t') ty w r w:=fun a e p f after g=>by
 simp only[execOp,e.ev hx,e.ev h,Sem.run_bind,o,l,Result.andThen_ok];rfl
def xH(op:BinOp)(i j:H):(eqGuard op t x y (.int k i) (.int k j)).run P w=.ok () w:=by
 unfold eqGuard;simp
def Zb(op:BinOp)(i j:ByteArray):(eqGuard op t x y (.string i) (.string j)).run P w=.ok () w:=by
 unfold eqGuard;simp
def Fv{op:BinOp}{i j:H}{r:Ah}(hx:ev U x=J (.int k i))(hy:ev U y=J (.int k j))(hr:(binOp op t (.int k i) (.int k j)).run P w=.ok r w):EX P n U (.binOp op t x y t') ty w r w:=
 FP hx hy (xH op i j) hr
def Tz(hx:ev U x=J (.int k (a:H)))(hy:ev U y=J (.int k (b:H)))(hm:maxN k=m)(h:a+b<=m):EX P n U (.binOp .add t x y t') ty w (.int k ((a+b:Y):H)) w:=
 Fv hx hy (by
  have:=LN hm h;simp at this ⊢;simp[binOp,Op.intArith,this])
def Kg(hx:ev U x=J (.int k (a:H)))(hy:ev U y=J (.int k (b:H)))(hm:maxN k=m)(h:b<=a/\a<=m):EX P n U (.binOp .sub t x y t') ty w (.int k ((a-b:Y):H)) w:=
 Fv hx hy (by
  have:=LN hm (show a-b<=m by omega);rw[Int.natCast_sub h.1]at this ⊢;simp[binOp,Op.intArith,this])
def Ww(hx:ev U x=J (.int k (a:H)))(hy:ev U y=J (.int k (b:H)))(hm:maxN k=m)(h:a*b<=m):EX P n U (.binOp .mul t x y t') ty w (.int k ((a*b:Y):H)) w:=
 Fv hx hy (by
  have:=LN hm h;simp at this ⊢;simp[binOp,Op.intArith,this])
def dh(hx:ev U x=J (.int k (a:H)))(hy:ev U y=J (.int k (b:H)))(hm:maxN k=m)(h:0<b/\a<=m):EX P n U (.binOp .quo t x y t') ty w (.int k ((a/b:Y):H)) w:=
 Fv hx hy (by
  have hle:a/b<=a:=On _ _;have:=LN hm (show a/b<=m by omega);have hb:¬(b:H)=0:=X;have hq:(a:H).tdiv b=((a/b:Y)):=rfl;unfold binOp;simp only[ne_eq,not_true_eq_false,if_false,Op.intDiv,Ag hb,hq,this];rfl)
def di(hx:ev U x=J (.int k (a:H)))(hy:ev U y=J (.int k (b:H)))(h:0<b):EX P n U (.binOp .rem t x y t') ty w (.int k ((a%b:Y):H)) w:=
 Fv hx hy (by
  have hb:¬(b:H)=0:=X;have hq:(a:H).tmod b=((a%b:Y)):=rfl;unfold binOp;simp only[ne_eq,not_true_eq_false,if_false,Op.intDiv,Ag hb,hq];rfl)
def lF{k:AK}{a:Y}(h:a<=maxN k):(BitVec.ofInt k.bits (a:H)).toNat=a:=by
 rw[BitVec.ofInt_natCast,BitVec.toNat_ofNat];exact JG (Xc h (kH k))
def QL{k:AK}{a:Y}(h:a<=maxN k):a%2 ^ k.bits=a:=JG (Xc h (kH k))
def eU(k:AK):∃j,maxN k+1=2 ^ j:=by cases k<;>first|exact⟨7,Z⟩|exact⟨15,Z⟩|exact⟨31,Z⟩|exact⟨63,Z⟩|exact⟨8,Z⟩|exact⟨16,Z⟩|exact⟨32,Z⟩|exact⟨64,Z⟩
def Wq(hx:ev U x=J (.int k (a:H)))(hy:ev U y=J (.int k (b:H)))(hm:maxN k=m)(h:a<=m/\b<=m):EX P n U (.binOp .and t x y t') ty w (.int k ((a &&& b:Y):H)) w:=
 Fv hx hy (by
  subst hm;have hle:a &&& b<=a:=Nat.and_le_left;have:=LN Z (show a &&& b<=maxN k by omega);simp[binOp,Op.intBits,QL h.1,QL h.2,this])
def NY(hx:ev U x=J (.int k (a:H)))(hy:ev U y=J (.int k (b:H)))(hm:maxN k=m)(h:a<=m/\b<=m):EX P n U (.binOp .or t x y t') ty w (.int k ((a|||b:Y):H)) w:=
 Fv hx hy (by
  subst hm;obtain⟨j,hj⟩:=eU k;have hlt:a|||b<2 ^ j:=Ma X X
  have:=LN Z (show a|||b<=maxN k by omega);simp[binOp,Op.intBits,QL h.1,QL h.2,this])
def Jy(hx:ev U x=J (.int k (a:H)))(hy:ev U y=J (.int k (b:H)))(hm:maxN k=m)(h:a<=m/\b<=m):EX P n U (.binOp .xor t x y t') ty w (.int k ((a ^^^ b:Y):H)) w:=
 Fv hx hy (by
  subst hm;obtain⟨j,hj⟩:=eU k;have hlt:a ^^^ b<2 ^ j:=Ou X X;have:=LN Z (show a ^^^ b<=maxN k by omega);simp[binOp,Op.intBits,QL h.1,QL h.2,this])
def MU{j p:Y}(hx:ev U x=J (.int k (a:H)))(e:ev U y=J (.int k (b:H)))(f:2 ^ j=p)(g:b+1=p)(hm:maxN k=m)(h:a<=m/\b<=m):EX P n U (.binOp .and t x y t') ty w (.int k ((a%p:Y):H)) w:=by
 have l:=Wq (P:=P) (n:=n) (w:=w) (t:=t) (t':=t') (ty:=ty) hx e hm h
 have:a &&& b=a%p:=by
  rw[show b=p-1 by omega,<-f];simp
 grind
def Hv{s p:Y}{k':AK}(hx:ev U x=J (.int k (a:H)))(hy:ev U y=J (.int k' (s:H)))(hp:2 ^ s=p)(hs:s<=k.bits)(hm:maxN k=m)(h:a*p<=m):
 EX P n U (.binOp .shl t x y t') ty w (.int k ((a*p:Y):H)) w:=
 FP hx hy (by rfl) (by
  subst hp;have:=LN hm h;have hn:¬(s:H)<0:=X;simp at this ⊢;simp[binOp,Op.shift,hn,Hi hs,this])
def IN{s p:Y}{k':AK}(hx:ev U x=J (.int k (a:H)))(hy:ev U y=J (.int k' (s:H)))(hp:2 ^ s=p)(hs:s<=k.bits)(hm:QK k=m)(h:0<m):
 EX P n U (.binOp .shl t x y t') ty w (.int k (((a*p)%m:Y):H)) w:=
 FP hx hy (by rfl) (by
  subst hp;have:=pH (a:=a*2 ^ s) hm h;have hn:¬(s:H)<0:=X;rw[<-this];simp[binOp,Op.shift,hn,Hi hs])
def IP{s p:Y}{k':AK}(hx:ev U x=J (.int k (a:H)))(e:ev U y=J (.int k' (s:H)))(g:2 ^ s=p)(f:s<=k.bits):
 EX P n U (.binOp .shr t x y t') ty w (.int k ((a/p:Y):H)) w:=
 FP hx e (by rfl) (by
  subst g;have hn:¬(s:H)<0:=X
  have hf:(a:H).fdiv (2 ^ s)=((a/2 ^ s:Y)):=by
   rw[Int.fdiv_eq_ediv_of_nonneg _ Bf];simp
  simp[binOp,Op.shift,hn,Hi f,hf])
def Ka{op:BinOp}{i j:H}{q:Ar}(h:(Op.intCmp op i j).run P w=.ok (.bool q) w)(e:(match op with|.eql|.neq|.lss|.leq|.gtr|.geq=>Af|_=>Ai)=Af):(binOp op t (.int k i) (.int k j)).run P w=.ok (.bool q) w:=by
 cases op<;>simp at e<;>simpa[binOp]using h
def cT(hx:ev U x=J (.int k (a:H)))(hy:ev U y=J (.int k (b:H))):EX P n U (.binOp .lss t x y t') ty w (.bool (decide (a<b))) w:=
 Fv hx hy (Ka (by simp[Op.intCmp]) Z)
def qa(hx:ev U x=J (.int k (a:H)))(hy:ev U y=J (.int k (b:H))):EX P n U (.binOp .leq t x y t') ty w (.bool (decide (a<=b))) w:=
 Fv hx hy (Ka (by simp[Op.intCmp]) Z)
def cR(hx:ev U x=J (.int k (a:H)))(hy:ev U y=J (.int k (b:H))):EX P n U (.binOp .gtr t x y t') ty w (.bool (decide (b<a))) w:=
 Fv hx hy (Ka (by simp[Op.intCmp]) Z)
def pY(hx:ev U x=J (.int k (a:H)))(hy:ev U y=J (.int k (b:H))):EX P n U (.binOp .geq t x y t') ty w (.bool (decide (b<=a))) w:=
 Fv hx hy (Ka (by simp[Op.intCmp]) Z)
def Wt(hx:ev U x=J (.int k (a:H)))(e:ev U y=J (.int k (b:H))):EX P n U (.binOp .eql t x y t') ty w (.bool (decide (a=b))) w:=
 Fv hx e (Ka (by
  have:(a==(b:H))=decide (a=b):=by rw[Ry];simp;omega
  simp only[Op.intCmp,this];rfl) Z)
def qn(hx:ev U x=J (.int k (a:H)))(e:ev U y=J (.int k (b:H))):EX P n U (.binOp .neq t x y t') ty w (.bool (decide (a≠b))) w:=
 Fv hx e (Ka (by
  have:(a !=(b:H))=decide (a≠b):=by rw[Ry];simp;omega
  simp only[Op.intCmp,this];rfl) Z)
def cU(hx:ev U x=J (.int k c))(hy:ev U y=J (.int k d)):EX P n U (.binOp .lss t x y t') ty w (.bool (decide (c<d))) w:=
 Fv hx hy (Ka (by rfl) Z)
def qc(hx:ev U x=J (.int k c))(hy:ev U y=J (.int k d)):EX P n U (.binOp .leq t x y t') ty w (.bool (decide (c<=d))) w:=
 Fv hx hy (Ka (by rfl) Z)
def cS(hx:ev U x=J (.int k c))(hy:ev U y=J (.int k d)):EX P n U (.binOp .gtr t x y t') ty w (.bool (decide (d<c))) w:=
 Fv hx hy (Ka (by rfl) Z)
def pZ(hx:ev U x=J (.int k c))(hy:ev U y=J (.int k d)):EX P n U (.binOp .geq t x y t') ty w (.bool (decide (d<=c))) w:=
 Fv hx hy (Ka (by rfl) Z)
def Wu(hx:ev U x=J (.int k c))(hy:ev U y=J (.int k d)):EX P n U (.binOp .eql t x y t') ty w (.bool (decide (c=d))) w:=
 Fv hx hy (Ka (by rfl) Z)
def qp(hx:ev U x=J (.int k c))(hy:ev U y=J (.int k d)):EX P n U (.binOp .neq t x y t') ty w (.bool (decide (c≠d))) w:=
 Fv hx hy (Ka (by simp[Op.intCmp,bne,BEq.beq]) Z)
def TA(hx:ev U x=J (.int k c))(hy:ev U y=J (.int k d))(hs:k.signed=Af)(hm:maxN k=m)(h:-((m:H)+1)<=c+d/\c+d<=m):EX P n U (.binOp .add t x y t') ty w (.int k (c+d)) w:=
 Fv hx hy (by simp[binOp,Op.intArith,ci hs hm h])
def RH(hx:ev U x=J (.int k c))(hy:ev U y=J (.int k d))(hs:k.signed=Af)(hm:maxN k=m)(h:-((m:H)+1)<=c-d/\c-d<=m):EX P n U (.binOp .sub t x y t') ty w (.int k (c-d)) w:=
 Fv hx hy (by simp[binOp,Op.intArith,ci hs hm h])
def cY(hx:ev U x=J (.int k (a:H)))(f:k.signed=Ai)(hm:maxN k=m)(h:a<=m):EX P n U (.unOp .xor t x) ty w (.int k ((m-a:Y):H)) w:=fun A o q l after g=>by
 subst hm
 have p:(BitVec.ofInt _ k.max ^^^ BitVec.ofInt k.bits a).toNat=maxN k-a:=by
  have e:BitVec.ofInt k.bits k.max=BitVec.allOnes _:=by cases k<;>first|rfl|simp[IntKind.signed]at f
  rw[e,BitVec.allOnes_xor,BitVec.toNat_not,lF h];have:maxN k+1=2 ^ k.bits:=by cases k<;>first|rfl|simp[IntKind.signed]at f
  omega
 have:=LN Z (show maxN k-a<=maxN k by omega);simp only[execOp,o.ev hx];simp only[Op.unary,Op.intBits,f,Bool.false_eq_true,if_false,p,this];rfl
def RF{s e:Aw}{k':AK}{dd:TypeDesc}(l:P.underlying s=J dd)(hv:P.underlying e=J (.int k))(hx:ev U x=J (.int k' (a:H)))(hm:maxN k=m)(h:a<=m):EX P n U (.convert s e x) ty w (.int k (a:H)) w:=fun A o p f after g=>by
 have:=LN hm h;simp only[execOp,o.ev hx];simp[convert,run_underlying l,run_underlying hv,Sem.run_bind,Conv.intToInt,this]
def RG{s e:Aw}{k':AK}{dd:TypeDesc}(l:P.underlying s=J dd)(hv:P.underlying e=J (.int k))(hx:ev U x=J (.int k' (a:H)))(hm:QK k=m)(h:0<m):EX P n U (.convert s e x) ty w (.int k ((a%m:Y):H)) w:=fun A o p f after g=>by
 have:=pH (a:=a) hm h;simp only[execOp,o.ev hx];simp[convert,run_underlying l,run_underlying hv,Sem.run_bind,Conv.intToInt,this]
def EX.extract{i:Y}{vs:Ap Ah}{v:Ah}(hx:ev U x=J (.tuple vs))(hi:vs[i]? =J v):EX P n U (.extract x i) ty w v w:=fun A f h e after g=>by
 simp only[execOp,f.ev hx];simp[Instr.extract,hi]
def qq{p:Ar}(hx:ev U x=J (.bool p)):EX P n U (.unOp .not t x) ty w (.bool !p) w:=fun A f h e after g=>by
 simp only[execOp,f.ev hx];rfl
end
section
variable{P:AC}{n:Y}{U:BG}{w:Ad}{t t':Aw}{ty:Aw}{x y:AD}{s r:Bg}
def Wv(ht:P.underlying t=J .string)(hx:ev U x=J (str s)):EX P n U (.call { callee:=.builtin .len,args:=#[x],argTypes:=#[t] }) ty w (.int .i64 (Alz s:H)) w:=fun A f h e after g=>by
 simp[execOp,resolve,invoke,builtin,Sem.run_bind,Sem.run_pure,Result.andThen_ok,GC,Cm,Em,f.ev hx];simp[Builtin.len_,run_underlying ht,goInt];rfl
def PN{e:Aw}{A:Av AB}{l c:Y}(ht:P.underlying t=J (.slice e))(hx:ev U x=J (.slice A l c)):EX P n U (.call { callee:=.builtin .len,args:=#[x],argTypes:=#[t] }) ty w (.int .i64 (l:H)) w:=fun A h o f after g=>by
 simp[execOp,resolve,invoke,builtin,Sem.run_bind,Sem.run_pure,Result.andThen_ok,GC,Cm,Em,h.ev hx];simp[Builtin.len_,run_underlying ht,goInt]
def FQ{i:Y}{k:AK}{c:AI}(ht:P.underlying t=J .string)(hx:ev U x=J (str s))(o:ev U y=J (.int k (i:H)))(hi:s[i]? =J c):EX P n U (.index t x y) ty w (.int .u8 (c.toNat:H)) w:=fun A h B l after g=>by
 obtain⟨f,p⟩:=Li.1 hi
 have v:(⟨⟨s⟩⟩:ByteArray)[i]? =J c:=by
  have e:=f;have q:(⟨_⟩:ByteArray)[i]=c:=p;rw[getElem?_pos _ i e,q]
 simp only[execOp,h.ev hx,h.ev o];simp[Instr.index,asIntOf,run_underlying ht,v]
def HJ(hx:ev U x=J (str s))(e:ev U y=J (str r)):EX P n U (.binOp .eql t x y t') ty w (.bool (decide (s=r))) w:=
 FP hx e (Zb _ _ _) (by
  have:(RA ⟨⟨s⟩⟩==RA ⟨⟨r⟩⟩)=decide (s=r):=by
   rw[Ry];simp
  simp only[binOp,Op.stringOp,this];rfl)
def MV(hx:ev U x=J (str s))(e:ev U y=J (str r)):EX P n U (.binOp .neq t x y t') ty w (.bool (decide (s≠r))) w:=
 FP hx e (Zb _ _ _) (by
  have:(!(RA ⟨⟨s⟩⟩==RA ⟨⟨r⟩⟩))=decide (s≠r):=by
   rw[Ry];simp
  simp only[binOp,Op.stringOp,this];rfl)
def Kd(hx:ev U x=J (str s))(e:ev U y=J (str r))(h:Alz s+Alz r<=9223372036854775807):EX P n U (.binOp .add t x y t') ty w (str (s++r)) w:=
 FP hx e (Zb _ _ _) (by
  have h0:¬(((PK ⟨⟨s⟩⟩+PK ⟨⟨r⟩⟩:Y))>IntKind.i64.max):=by
   show ¬(((Alz s+Alz r):H)>9223372036854775807);omega
  have f:((⟨⟨s⟩⟩:ByteArray)++⟨⟨r⟩⟩)=⟨⟨s++r⟩⟩:=by
   apply ByteArray.ext;simp
  unfold binOp;simp only[Op.stringOp,Ag h0,f];rfl)
def qt{p:Prop}[Decidable p](hx:ev U x=J (.bool (decide p))):EX P n U (.unOp .not t x) ty w (.bool (decide (¬p))) w:=fun A f h e after g=>by
 simp only[execOp,f.ev hx,decide_not];rfl
def YD(s:Bg)(i j:Y):(⟨⟨s⟩⟩:ByteArray).extract i j=⟨⟨(s.drop i).take (j-i)⟩⟩:=by
 apply ByteArray.ext;simp
def Th{k:AK}{i:Y}(y:Y)(c:BoundsCode)(h:i<=y):(Instr.sliceBound (.int k (i:H)) y c).run P w=.ok i w:=by
 simp[Instr.sliceBound,asIntOf,h]
section
variable{k k':AK}{i j:Y}{lo hi:AD}
def Oa(ht:P.underlying t=J .string)(hx:ev U x=J (str s))(hl:ev U lo=J (.int k (i:H)))(o:ev U hi=J (.int k' (j:H)))(h:i<=j/\j<=Alz s):
 EX P n U (.slice t x (J lo) (J hi) Aa) ty w (str ((s.drop i).take (j-i))) w:=fun A e p f after g=>by
 have l:j<=PK ⟨_⟩:=h.2;simp only[execOp,e.ev hx,e.ev hl,e.ev o,FU,Nd];simp[Instr.sliceAt,run_underlying ht,Instr.slice,Instr.sliceBounds,Sem.run_bind,Th _ _ l,Th _ _ h.1,YD]
def LR(ht:P.underlying t=J .string)(hx:ev U x=J (str s))(hl:ev U lo=J (.int k (i:H)))(h:i<=Alz s):
 EX P n U (.slice t x (J lo) Aa Aa) ty w (str (s.drop i)) w:=fun A f p l after g=>by
 have o:i<=PK ⟨_⟩:=h;have e:(s.drop i).take (PK ⟨⟨s⟩⟩-i)=s.drop i:=Dh (by rw[CA];exact Bq _);simp only[execOp,f.ev hx,f.ev hl,FU,Nd];simp[Instr.sliceAt,run_underlying ht,Instr.slice,Instr.sliceBounds,Sem.run_bind,Th _ _ o,YD,e]
def Kf(ht:P.underlying t=J .string)(hx:ev U x=J (str s))(o:ev U hi=J (.int k' (j:H)))(h:j<=Alz s):
 EX P n U (.slice t x Aa (J hi) Aa) ty w (str (s.take j)) w:=fun A e p f after g=>by
 have l:j<=PK ⟨_⟩:=h;simp only[execOp,e.ev hx,e.ev o,FU,Nd];simp[Instr.sliceAt,run_underlying ht,Instr.slice,Instr.sliceBounds,Sem.run_bind,Th _ _ l,YD]
end
def qf{k:AK}{a b:Y}{e:Ap Aw}(hx:ev U x=J (.int k (a:H)))(l:ev U y=J (.int k (b:H))):EX P n U (.call { callee:=.builtin .min,args:=#[x,y],argTypes:=e }) ty w (.int k ((min a b:Y):H)) w:=fun A f o h after g=>by
 simp[execOp,resolve,invoke,builtin,Sem.run_bind,Sem.run_pure,Result.andThen_ok,GC,Cm,Em,f.ev hx,f.ev l];have:(if(b:H)<a then(b:H)else a)=((min a b:Y)):=by split<;>omega
 simp only[Builtin.min_,Builtin.min2,List.foldlM,Sem.run_bind,Sem.run_pure,Result.andThen_ok,this]
end
def Bk(w:Ad)(b:Y)(T:Aw)(l:Bl):Prop:=∃fr:Y×Y,w.heap[b]? =J (.cells l.toArray T fr)/\(Alz l<=fr.1∨fr.2<=fr.1)
abbrev Be(w w':Ad):Prop:=Below w.heap.size w w'
section
variable{w w':Ad}{b:Y}{T:Aw}{l:Bl}
def Bk.lt(h:Bk w b T l):b<w.heap.size:=by
 obtain⟨a,h,_⟩:=h;grind
def Bk.cell(h:Bk w b T l)(i:Y):w.cell? ⟨b,i,Aa⟩=l[i]?:=by
 obtain⟨a,h,_⟩:=h;simp[World.cell?,h]
def Bk.I(h:Bk w b T l){i:Y}{v:Ah}(hi:l[i]? =J v):w.cell? ⟨b,i,Aa⟩=J v:=(h.cell i).trans hi
def Bk.free(h:Bk w b T l)(i:Y)(hi:i<Alz l):w.frozen? ⟨b,i,Aa⟩=Ai:=by
 obtain⟨⟨d,a⟩,h,f⟩:=h;simp only[World.frozen?,h];grind
def Bk.of_block(h:Bk w b T l)(d:w'.heap[b]? =w.heap[b]?):Bk w' b T l:=by
 obtain⟨f,h,a⟩:=h;exact⟨_,Bf,a⟩
def Bk.new(w:Ad)(T:Aw)(l:Bl):Bk (w.alloc (.cells l.toArray T)) w.heap.size T l:=⟨(0,0),heap_alloc_new w _,X⟩
def Bk.alloc(h:Bk w b T l)(o:Obj):Bk (w.alloc o) b T l:=h.of_block (Below.heap_alloc w o b h.lt)
def Bk.drew(h:Bk w b T l):Bk w.drew b T l:=h
def Bk.drewN(h:Bk w b T l)(m:Y):Bk (w.drewN m) b T l:=h
def Bk.below{B:Y}(h:Bk w b T l)(hb:Below B w w')(hlt:b<B):Bk w' b T l:=h.of_block (hb.block b hlt)
def Bk.a(h:Bk w b T l)(hb:Be w w'):Bk w' b T l:=h.below hb h.lt
def Bk.far(h:Bk w b T l){p:AB}(hp:b≠p.block)(u:Ah):Bk (w.setCell p u) b T l:=h.of_block (Below.heap_setCell w p u b hp)
def Bk.grown{row:Av Y}(h:Bk w b T l)(hg:w.grownBy w' row)(hne:J b≠row):Bk w' b T l:=h.of_block (hg.block b h.lt hne)
def Bk.set(h:Bk w b T l)(i:Y)(u:Ah):Bk (w.setCell ⟨b,i,Aa⟩ u) b T (l.set i u):=by
 have a:=h.lt;obtain⟨d,h,f⟩:=h;refine⟨d,?_,Bf⟩;simp only[World.setCell,Wo,if_true,h,FU];simp
def Bk.ne{d:Y}{f:Aw}{g:Bl}(h:Bk w b T l)(a:Bk w d f g)(i:T≠f):b≠d:=by
 rintro rfl;obtain⟨k,h,_⟩:=h;obtain⟨j,a,_⟩:=a;grind
def Bk.det{a:Bl}{f:Aw}(h:Bk w b T l)(d:Bk w b f a):T=f/\l=a:=by
 obtain⟨i,h,_⟩:=h;obtain⟨g,d,_⟩:=d;grind
def Be.refl(w:Ad):Be w w:=Below.refl _ _
def Be.trans{a b c:Ad}(h:Be a b)(k:Be b c):Be a c:=Below.trans h (k.mono h.size)
def Be.alloc(w:Ad)(o:Obj):Be w (w.alloc o):=(Below.refl _ _).alloc X o
def Be.drew(w:Ad):Be w w.drew:=(Below.refl _ _).drew
def Uw{B:Y}{a w:Ad}(h:Below B a w)(m:Y):Below B a (w.drewN m):=⟨h.os,h.tape,h.output,h.size,h.block⟩
def Be.drewN(w:Ad)(m:Y):Be w (w.drewN m):=Uw (Below.refl _ _) m
def Rf(P:AC)(w:Ad)(b o:Y)(T:Aw):∀(vs:Bl) (i:Y) (l:Bl) (w:Ad),Bk w b T l->o+i+Alz vs<=Alz l->(∀v∈vs,v.oneCell'=Af)->
 ∃w',(storeCells ⟨b,o,Aa⟩ vs i).run P w=.ok () w'/\Bk w' b T (l.take (o+i)++vs++l.drop (o+i+Alz vs))/\w.grownBy w' (J b)
 |[],i,l,w,h,_,_=>⟨w,Z,by simpa using h,⟨Z,Z,Z,X,Bh⟩⟩
 |v::vs,i,l,w,h,hl,h1=>by
  simp at hl;have hlt:o+i<Alz l:=X;have hc:w.cell? ⟨b,o+i,_⟩=J l[o+i]:=h.I Bh;have hf:=h.free _ hlt;have hadd:(⟨b,o,Aa⟩:AB).add i=⟨b,o+i,Aa⟩:=by unfold Addr.add;split<;>simp_all
  obtain⟨w',j,p,a⟩:=Rf P w b o T vs (i+1) (l.set (o+i) v) (w.setCell ⟨b,o+i,Aa⟩ v) (h.set (o+i) v) Bf Bf;have d:=h1 v Bh
  have f:(store ⟨b,o+i,Aa⟩ v).run P w=.ok () (w.setCell ⟨b,o+i,Aa⟩ v):=by
   cases v<;>simp[Value.oneCell']at d<;>simp[store,Sem.run,hc,hf]
  refine⟨_,?_,?_,⟨a.os,a.tape,a.output,by have:=a.size;simp_all,fun k m g=>?_⟩⟩
  .simp[storeCells,Sem.run_bind,hadd,f,Result.andThen_ok];omega
  .have r:(l.set (o+i) v).take (o+(i+1))=l.take (o+i)++[v]:=by
    rw[show o+(i+1)=(o+i)+1 by omega,LY];rw[List.take_set_of_le X];simp[hlt]
   have q:(l.set (o+i) v).drop (o+(i+1)+Alz vs)=l.drop (o+i+(Alz vs+1)):=by
    rw[List.drop_set_of_lt X];congr 1;omega
   simp_all
  .rw[a.block k (by simp_all) g];exact Below.heap_setCell w _ v k Bf
end
def TI(P:AC)(T:Aw)(z:Ah)(s b:Y):Prop:=(P.info? T).map (fun i=>(i.zero,i.size,i.bytes))=J (J z,s,b)
def TI.at{P:AC}{T:Aw}{z:Ah}{s b:Y}(h:TI P T z s b):∃i,P.info? T=J i/\i.zero=J z/\i.size=s/\i.bytes=b:=by
 unfold TI at h;simp_all
def flat:TypeDesc->Ar
 |.struct _|.array _ _=>Ai
 |_=>Af
section
variable{P:AC}{n:Y}{U:BG}{w w':Ad}{t t' e:Aw}{ty:Aw}{x y:AD}{b o:Y}{l:Bl}{T:Aw}{z v:Ah}{s bs:Y}
def Jl{d:TypeDesc}(a:P.underlying t=J d):(isAgg t).run P w=.ok (!flat d) w:=by
 unfold isAgg;rw[Sem.run_bind,run_underlying a w];cases d<;>rfl
def Fc(h:TI P t z s bs):(sizeOf t).run P w=.ok s w:=by
 obtain⟨i,a,_,rfl,_⟩:=h.at;simp[sizeOf,typeInfo,a]
def NI(h:TI P t z s bs):(zeroValue t).run P w=.ok z w:=by
 obtain⟨i,d,a,_⟩:=h.at;simp[zeroValue,typeInfo,d,a]
def EX.alloc(h:TI P t z s bs)(hl:z.cells.toList=l):EX P n U (.alloc t) ty w (.pointer (J ⟨w.heap.size,0,Aa⟩)) (w.alloc (.cells l.toArray t)):=fun A f d a after g=>by
 subst hl;simp only[execOp,Instr.alloc,Sem.run_bind,NI h,Result.andThen_ok];rfl
def EX.box(hx:ev U x=J v)(hl:v.cells.toList=l):EX P n U (.box t x) ty w (.pointer (J ⟨w.heap.size,0,Aa⟩)) (w.alloc (.cells l.toArray t)):=fun A d f a after g=>by
 subst hl;simp only[execOp,Instr.box,d.ev hx,Sem.run_bind];rfl
def CV{d:TypeDesc}{a:AB}(h:P.underlying t=J d)(i:flat d=Af)(hx:ev U x=J (.pointer (J a)))(m:w.cell? a=J v):EX P n U (.load t x) ty w v w:=fun A j k f after g=>by
 simp only[execOp,Instr.loadAt,Instr.sureAddr,j.ev hx,Sem.run_bind,Sem.run_pure,Result.andThen_ok,loadVar,Jl h,i];simp_all
def KY{d:TypeDesc}(k:P.underlying t=J d)(p:flat d=Ai)(h:TI P t z s bs)(hx:ev U x=J (.pointer (J ⟨b,o,Aa⟩)))(m:Alz l=s)
 (C:∀j u,l[j]? =J u->w.cell? ⟨b,o+j,Aa⟩=J u):EX P n U (.load t x) ty w (.agg l.toArray) w:=fun A q r i after g=>by
 have a:=run_loadCells_list (P:=P) w ⟨b,o,Aa⟩ l (fun j u B=>by
  have f:(⟨b,o,Aa⟩:AB).add j=⟨b,o+j,Aa⟩:=by unfold Addr.add;split<;>simp_all
  grind)
 simp only[execOp,Instr.loadAt,Instr.sureAddr,q.ev hx,Sem.run_bind,Sem.run_pure,Result.andThen_ok,loadVar,Jl k,p];rw[m]at a;simp[Fc h,a]
def Ke{d:TypeDesc}(hu:P.underlying t=J d)(hd:flat d=Ai)(h:TI P t z s bs)(hx:ev U x=J (.pointer (J ⟨b,0,Aa⟩)))(hb:Bk w b T l)(hs:Alz l=s):EX P n U (.load t x) ty w (.agg l.toArray) w:=
 KY hu hd h hx hs fun j u hj=>by rw[EE];exact hb.I hj
def EU.store{a:AB}{u:Ah}(h:TI P t z 1 bs)(hx:ev U x=J (.pointer (J a)))(m:ev U y=J v)(h1:v.oneCell'=Af)(p:w.cell? a=J u)(hf:w.frozen? a=Ai):EU P n U (.store t x y) ty w (w.setCell a v):=fun A j q k after g=>by
 have f:(Go.store a v).run P w=.ok () (w.setCell a v):=by
  cases v<;>simp[Value.oneCell']at h1<;>simp[Go.store,Sem.run,p,hf]
 have i:v.cells=#[v]:=by cases v<;>simp[Value.oneCell']at h1<;>rfl
 have d:a.add 0=a:=by unfold Addr.add;simp
 simp only[execOp,Instr.storeAt,Instr.sureAddr,j.ev hx,j.ev m,Sem.run_bind,Sem.run_pure,Result.andThen_ok,storeVar,Fc h,i];simp[storeCells,d,f]
def RC{i:Y}(h:TI P t z 1 bs)(hx:ev U x=J (.pointer (J ⟨b,i,Aa⟩)))(hy:ev U y=J v)(h1:v.oneCell'=Af)(hb:Bk w b T l)(hi:i<Alz l):EU P n U (.store t x y) ty w (w.setCell ⟨b,i,Aa⟩ v):=
 EU.store h hx hy h1 (hb.I (BQ hi)) (hb.free i hi)
def LD{v:Ah}(h:v.oneCell'=Af):v.cells=#[v]:=by cases v<;>simp[Value.oneCell']at h<;>rfl
def Ty{vs:Bl}(h:TI P t z s bs)(hx:ev U x=J (.pointer (J ⟨b,o,Aa⟩)))(f:ev U y=J (.agg vs.toArray))(p:Alz vs=s)(h1:vs.all (·.oneCell')=Af)(k:Bk w b T l)(hl:o+Alz vs<=Alz l):
 ∃w',EU P n U (.store t x y) ty w w'/\Bk w' b T (l.take o++vs++l.drop (o+Alz vs))/\w.grownBy w' (J b):=by
 obtain⟨w',q,j,i⟩:=Rf P w b o T vs 0 l w k X Bf;refine⟨_,fun A a m d after g=>?_,X,i⟩;simp only[execOp,Instr.storeAt,Instr.sureAddr,a.ev hx,a.ev f,Sem.run_bind,Sem.run_pure,Result.andThen_ok,storeVar,Fc h,Value.cells];simp_all
def PM{m:Y}{k:AK}{i:Y}(p:P.underlying t=J (.array m e))(h:TI P e z s bs)(hx:ev U x=J (.pointer (J ⟨b,o,Aa⟩)))(j:ev U y=J (.int k (i:H)))(hi:i<m):
 EX P n U (.indexAddr t x y) ty w (.pointer (J ⟨b,o+i*s,Aa⟩)) w:=fun A d q f after g=>by
 have a:(⟨b,o,Aa⟩:AB).add (i*s)=⟨b,o+i*s,Aa⟩:=by unfold Addr.add;split<;>simp_all
 simp only[execOp,d.ev hx,d.ev j];simp[Instr.indexAt,asIntOf,run_underlying p,Sem.run_bind,Instr.sureAddr,hi,Fc h,a]
def MT{k:AK}{i len cap:Y}(m:P.underlying t=J (.slice e))(h:TI P e z s bs)(hx:ev U x=J (.slice (J ⟨b,o,Aa⟩) len cap))(j:ev U y=J (.int k (i:H)))(hi:i<len):
 EX P n U (.indexAddr t x y) ty w (.pointer (J ⟨b,o+i*s,Aa⟩)) w:=fun A d p f after g=>by
 have a:(⟨b,o,Aa⟩:AB).add (i*s)=⟨b,o+i*s,Aa⟩:=by unfold Addr.add;split<;>simp_all
 simp only[execOp,d.ev hx,d.ev j];simp[Instr.indexAt,asIntOf,run_underlying m,Sem.run_bind,Instr.sureAddr,hi,Fc h,a]
def LQ{m:Y}{k:AK}{i:Y}(d:P.underlying t=J (.array m e))(h:TI P e z 1 bs)(hx:ev U x=J (.pointer (J ⟨b,o,Aa⟩)))(a:ev U y=J (.int k (i:H)))(hi:i<m):
 EX P n U (.indexAddr t x y) ty w (.pointer (J ⟨b,o+i,Aa⟩)) w:=by simpa using PM d h hx a hi
def KX{k:AK}{i len cap:Y}(d:P.underlying t=J (.slice e))(h:TI P e z 1 bs)(hx:ev U x=J (.slice (J ⟨b,o,Aa⟩) len cap))(a:ev U y=J (.int k (i:H)))(hi:i<len):
 EX P n U (.indexAddr t x y) ty w (.pointer (J ⟨b,o+i,Aa⟩)) w:=by simpa using MT d h hx a hi
def LP{m:Y}{k:AK}{i:Y}(d:P.underlying t=J (.array m e))(h:TI P e z 1 bs)(hx:ev U x=J (.pointer (J ⟨b,0,Aa⟩)))(a:ev U y=J (.int k (i:H)))(hi:i<m):
 EX P n U (.indexAddr t x y) ty w (.pointer (J ⟨b,i,Aa⟩)) w:=by simpa using PM d h hx a hi
def KV{k:AK}{i len cap:Y}(d:P.underlying t=J (.slice e))(h:TI P e z 1 bs)(hx:ev U x=J (.slice (J ⟨b,0,Aa⟩) len cap))(a:ev U y=J (.int k (i:H)))(hi:i<len):
 EX P n U (.indexAddr t x y) ty w (.pointer (J ⟨b,i,Aa⟩)) w:=by simpa using MT d h hx a hi
def DU{a:AB}(hx:ev U x=J (.pointer (J a))):EX P n U (.nilCheck x) ty w (.pointer (J a)) w:=fun A f h d after g=>by
 simp only[execOp,f.ev hx];rfl
end
def Sl(w:Ad)(B:Y)(A:Av AB)(xs:Bl):Prop:=
 xs=[]∨∃b o,A=J ⟨b,o,Aa⟩/\b<B/\∀j u,xs[j]? =J u->w.cell? ⟨b,o+j,Aa⟩=J u
def BD(k:AK)(l:Bj):Bl:=l.map fun(x:Y)=>Value.int k (x:H)
def BI(l:Bg):Bl:=l.map fun c=>Value.int .u8 (c.toNat:H)
def Bn(w:Ad)(B:Y)(T:Aw)(s:Y)(v:Ah)(n:Y)(xs:Bl):Prop:=
 Alz xs=n*s/\((v=.slice Aa 0 0/\n=0)∨
  ∃g cap rest,v=.slice (J ⟨g,0,Aa⟩) n cap/\B<=g/\Bk w g T (xs++rest)/\Alz xs+Alz rest=cap*s/\n<=cap/\cap<=maxLen)
section
variable{w w':Ad}{B B':Y}{A:Av AB}{xs:Bl}{T:Aw}{s n:Y}{v:Ah}
def Sl.at_(h:Sl w B A xs)(hx:0<Alz xs):∃b o,A=J ⟨b,o,Aa⟩/\b<B/\∀j u,xs[j]? =J u->w.cell? ⟨b,o+j,Aa⟩=J u:=by
 rcases h with h|h
 .grind
 .omega
def Sl.keep(h:Sl w B A xs)(hk:∀p:AB,p.block<B->w'.cell? p=w.cell? p):Sl w' B A xs:=by
 rcases h with h|⟨b,o,i,a,g⟩
 .exact .inl h
 .exact .inr ⟨b,o,i,a,fun j u f=>(hk _ a).trans (g j u f)⟩
def Sl.l(h:Sl w B A xs)(g:B<=B'):Sl w B' A xs:=by
 rcases h with h|⟨b,o,f,i,a⟩
 .exact .inl h
 .exact .inr ⟨b,o,f,X,a⟩
def Sl.below(h:Sl w B A xs)(hb:Below B w w'):Sl w' B A xs:=h.keep fun _ hp=>hb.cell hp
def Sl.a(h:Sl w B A xs)(g:Be w w'):Sl w' B A xs:=by
 rcases h with h|⟨b,o,l,i,f⟩
 .exact .inl h
 .exact .inr ⟨b,o,l,i,fun j u a=>(g.cell (block_lt_of_cell (f j u a))).trans (f j u a)⟩
def Sl.pre(h:Sl w B A xs)(m:Y):Sl w B A (xs.take m):=by
 rcases h with h|⟨b,o,g,f,a⟩
 .subst h;left;simp
 .exact .inr ⟨b,o,g,f,fun j u i=>a j u (by
   grind)⟩
def Sl.Akk{b:Y}{l:Bl}(h:Bk w b T l)(hB:b<B):Sl w B (J ⟨b,0,Aa⟩) l:=.inr ⟨b,0,Z,hB,fun j u hu=>by rw[EE];exact h.I hu⟩
def Bk.sl{b:Y}{l:Bl}(h:Bk w b T l):Sl w w.heap.size (J ⟨b,0,Aa⟩) l:=Sl.Akk h h.lt
def Bn.nil(w:Ad)(B:Y)(T:Aw)(s:Y):Bn w B T s (.slice Aa 0 0) 0 []:=⟨Bh,Bh⟩
def Bn.lt(h:Bn w B T s v n xs):∀k,Pi v=J k->B<=k/\k<w.heap.size:=by
 intro k a;rcases h.2 with⟨rfl,_⟩|⟨g,j,rest,rfl,i,f,_⟩
 .simp[Pi]at a
 .simp[Pi]at a;subst a;exact⟨i,f.lt⟩
def Bn.Ala(h:Bn w B T s v n xs)(hk:∀k,Pi v=J k->w'.heap[k]? =w.heap[k]?):Bn w' B T s v n xs:=by
 refine⟨h.1,?_⟩;rcases h.2 with j|⟨g,i,rest,rfl,f,a,r⟩
 .grind
 .exact .inr ⟨g,_,_,Z,f,a.of_block (hk g Z),r⟩
def Bn.a(h:Bn w B T s v n xs)(hx:Be w w'):Bn w' B T s v n xs:=h.Ala fun k hk=>hx.block k (h.lt k hk).2
def Bn.grown{row:Av Y}(h:Bn w B T s v n xs)(hg:w.grownBy w' row)(hne:Pi v=Aa∨Pi v≠row):Bn w' B T s v n xs:=
 h.Ala fun k hk=>hg.block k (h.lt k hk).2 Bf
def Bn.alloc(h:Bn w B T s v n xs)(o:Obj):Bn (w.alloc o) B T s v n xs:=h.a (Be.alloc w o)
def Bn.drewN(h:Bn w B T s v n xs)(m:Y):Bn (w.drewN m) B T s v n xs:=Ck
def Bn.l(h:Bn w B T s v n xs)(j:B'<=B):Bn w B' T s v n xs:=by
 refine⟨h.1,?_⟩;rcases h.2 with f|⟨g,a,rest,rfl,i,r⟩
 .grind
 .exact .inr ⟨g,_,_,Z,X,r⟩
def Bn.slice(h:Bn w B T s v n xs):∃A c,v=.slice A n c/\n<=c/\Sl w w.heap.size A xs:=by
 rcases h.2 with⟨rfl,rfl⟩|⟨g,i,rest,rfl,o,a,m,f,_⟩
 .exact⟨_,0,Z,X,.inl (Im (by simpa using h.1))⟩
 .refine⟨_,_,Z,f,.inr ⟨g,0,Z,a.lt,fun j u l=>?_⟩⟩;refine a.I ?_;grind
def Bn.blk(h:Bn w B T s v n xs)(hx:0<Alz xs):∃g cap rest,v=.slice (J ⟨g,0,Aa⟩) n cap/\B<=g/\Bk w g T (xs++rest)/\Alz xs+Alz rest=cap*s/\n<=cap/\cap<=maxLen:=by
 rcases h.2 with⟨rfl,rfl⟩|a
 .have:=h.1;omega
 .omega
def Bn.Akk{g cap:Y}{l:Bl}(hg:Bk w g T l)(hB:B<=g)(hl:Alz l=cap*s)(hm:cap<=maxLen):Bn w B T s (.slice (J ⟨g,0,Aa⟩) cap cap) cap l:=
 ⟨hl,.inr ⟨g,cap,[],Z,hB,Bf,X,X,hm⟩⟩
end
section
variable{P:AC}{w:Ad}
def Agg(z:Ap Ah)(n:Y):(Builtin.zeroCells z n).size=n*z.size:=by simp[Builtin.zeroCells]
def VL(B:Y)(t I ty e:Aw){z:Ah}{s bs:Y}(ht:P.underlying t=J (.slice e))(hi:TI P e z s bs)(K:z.cells.size=s)(af:0<s)
 {v:Ah} {n:Y} {xs:Bl} (l:Bn w B e s v n xs) {x:Ah} {m:Y} {a:Bl} (h:Src P s I x m a w)
 (G:n+m<=maxLen) (q:(n+m)*bs<=140737488355328) (hB:B<=w.heap.size):
 ∃v' w',(Builtin.append_ #[t,I] ty #[v,x]).run P w=.ok v' w'/\Bn w' B e s v' (n+m) (xs++a)/\w.grownBy w' (Pi v)/\(Pi v'=Pi v∨Pi v'=J w.heap.size):=by
 obtain⟨i,N,hz,rfl,rfl⟩:=hi.at;have p:Alz (xs++a)=(n+m)*i.size:=by rw[Bx,l.1,h.newsLen,RU]
 have grow:∀(A:Av _) (f:Y),v=.slice A n f->f<n+m->(Builtin.firstCells i.size n (.slice A n f)).run P w.drew=.ok xs.toArray w.drew->
  ∃v' w',(Builtin.append_ #[t,I] ty #[v,x]).run P w=.ok v' w'/\Bn w' B e i.size v' (n+m) (xs++a)/\w.grownBy w' (Pi v)/\(Pi v'=Pi v∨Pi v'=J w.heap.size):=by
  intro A f hv S D;subst hv;have hr:=run_append_grow_src w t _ ty e i z ht N hz A n _ _ D x m _ h S (by simp[maxLen]at G;omega) (growslice_fits X q);have Q:=grownCap_ge w (n+m) f e;have C:=grownCap_le_maxLen w _ f e G;refine⟨_,_,hr,⟨p,.inr ⟨_,_,(Builtin.zeroCells z.cells (grownCap w (n+m) f e-(n+m))).toList,Z,hB,?_,?_,Q,C⟩⟩,⟨Z,Z,Z,Bh,fun k r _=>Below.heap_alloc _ _ k r⟩,.inr Z⟩
  .have:=Bk.new w.drew e ((xs++a)++(Builtin.zeroCells z.cells (grownCap w (n+m) f e-(n+m))).toList);rw[show((xs++a)++(Builtin.zeroCells z.cells (grownCap w (n+m) f e-(n+m))).toList).toArray=(xs++a).toArray++Builtin.zeroCells z.cells (grownCap w (n+m) f e-(n+m)) by simp]at this;simp_all
  .rw[p,Array.length_toList,Agg,K,<-RU];grind
 rcases l.2 with⟨rfl,rfl⟩|⟨g,f,rest,rfl,hb,hg,W,V,C⟩
 .have hx:xs=[]:=Im (by simpa using l.1);subst hx;by_cases hm:m=0
  .subst hm;have V:a=[]:=Im Bf;subst V;refine⟨.slice Aa 0 0,w,?_,Bn.nil _ _ _ _,⟨Z,Z,Z,Bq _,fun _ _ _=>rfl⟩,.inl Z⟩;have S:=h.cells;rcases h.kind with⟨e',r⟩|r<;>simp[Builtin.append_,run_underlying ht,run_underlying r,sizeOf,typeInfo,N,h.len,S]
  .exact grow Aa 0 Z X (by rfl)
 .by_cases o:n+m<=f
  .have ab:n*i.size+Alz a<=Alz (xs++rest):=by
    rw[Bx,W,h.newsLen,<-RU];exact RX _ o
   obtain⟨w',L,aj,ai⟩:=Rf P w g (n*i.size) e a 0 (xs++rest) w hg X h.one;refine⟨.slice (J ⟨g,0,Aa⟩) (n+m) f,w',?_,⟨p,.inr ⟨g,f,rest.drop (Alz a),Z,hb,?_,?_,o,C⟩⟩,Ck,.inl Z⟩
   .rcases h.kind with⟨e',r⟩|r<;>simp[Builtin.append_,run_underlying ht,run_underlying r,sizeOf,typeInfo,N,h.len,o,h.cells,Addr.add_lit,L]
   .have e1:(xs++rest).take (n*i.size)=xs:=by rw[<-l.1];exact List.take_left
    have e2:(xs++rest).drop (n*i.size+Alz a)=rest.drop (Alz a):=by
     rw[<-l.1,<-Gj,List.drop_left]
    grind
   .rw[CA,p];have h1:(Alz xs+Alz rest)=f*i.size:=W;rw[l.1]at h1;grind
  .refine grow _ f Z X ?_
   have:(loadCells ⟨g,0,Aa⟩ (n*i.size)).run P w.drew=.ok xs.toArray w.drew:=by
    have:=run_loadCells_list (P:=P) w.drew ⟨g,0,Aa⟩ xs (fun j u hj=>by
     have E:(⟨g,0,Aa⟩:AB).add j=⟨g,j,Aa⟩:=by unfold Addr.add;split<;>simp_all
     rw[E];refine(hg.drew).I ?_;grind)
    rwa[l.1]at this
   assumption
def Src.Akm{i C:Aw}{s:Y}(hk:P.underlying i=J (.slice C)){B:Y}{A:Av AB}{m c:Y}{f:Bl}(h:Sl w B A f)(hl:Alz f=m*s)(h1:∀u∈f,u.oneCell'=Af)(q:0<s):Src P s i (.slice A m c) m f w:=by
 have cells:∀g:Ad,(∀a,g.cell? a=w.cell? a)->(Builtin.firstCells s m (.slice A m c)).run P g=.ok f.toArray g:=by
  intro g p;rcases h with h|⟨b,o,rfl,_,E⟩
  .subst h;have r:m*s=0:=by simpa using hl.symm
   cases A with
   |none=>rfl
   |some a=>simp[Builtin.firstCells,r,loadCells,loadCellsFrom]
  .have:=run_loadCells_list (P:=P) g ⟨b,o,Aa⟩ f (fun j u D=>by
    have l:(⟨b,o,Aa⟩:AB).add j=⟨b,o+j,Aa⟩:=by unfold Addr.add;split<;>simp_all
    grind)
   rw[hl]at this;assumption
 exact⟨Bf,fun _=>rfl,Bf,cells _ fun _=>rfl,hl,h1⟩
def Src.Aky{tx:Aw}(hk:P.underlying tx=J .string)(l:Bg):Src P 1 tx (str l) (Alz l) (BI l) w:=Src.ofString w hk ⟨⟨l⟩⟩
def Ly{k:AK}{l:Bj}:∀u∈BD k l,u.oneCell'=Af:=by
 intro u a;obtain⟨_,_,rfl⟩:=Cr.1 a;rfl
def UC{l:Bg}:∀u∈BI l,u.oneCell'=Af:=by
 intro u a;obtain⟨_,_,rfl⟩:=Cr.1 a;rfl
def EZ(l:Bg):Alz (BI l)=Alz l:=by simp[BI]
def DO(k:AK)(l:Bj):Alz (BD k l)=Alz l:=by simp[BD]
def Vc(k:AK)(l m:Bj):BD k (l++m)=BD k l++BD k m:=by simp[BD]
def XB(l m:Bg):BI (l++m)=BI l++BI m:=by simp[BI]
end
section
variable{P:AC}{R:AE->Ad->Prop}{ops:Ap AG}{rest:Ae AG}{k:Ae KI}{n:Y}{U:BG}{w:Ad}{x y:AD}{t t' e ty:Aw}{pos:AJ}{after:Ap Edge}{gd:Av (Y×Ar)}{d:Y}
def OW.append(B:Y){z:Ah}{s bs:Y}(G:BJ ops U gd=J Af)(I:BK d n=Af)(ht:P.underlying t=J (.slice e))(hi:TI P e z s bs)(o:z.cells.size=s)(p:0<s)
 {v r:Ah} {m l:Y} {xs f:Bl} (hx:ev U x=J v) (D:ev U y=J r) (j:Bn w B e s v l xs) (i:Src P s t' r m f w)
 (q:l+m<=maxLen) (a:(l+m)*bs<=140737488355328) (K:B<=w.heap.size)
 (h:∀v' w',Bn w' B e s v' (l+m) (xs++f)->w.grownBy w' (Pi v)->(Pi v'=Pi v∨Pi v'=J w.heap.size)->OW P R ops rest k n ((d,v')::U) w'):
 OW P R ops (⟨J d,.call { callee:=.builtin .append,args:=#[x,y],argTypes:=#[t,t'] },ty,pos,after,gd⟩::rest) k n U w:=by
 obtain⟨v',w',E,S,Q,N⟩:=VL (P:=P) B t t' ty e ht hi o p j i q a K;refine OW.val G I (v:=v') (w':=w') ?_ Bf;intro A C L pos after g;simp[execOp,resolve,invoke,builtin,Sem.run_bind,Sem.run_pure,Result.andThen_ok,GC,Cm,Em,C.ev hx,C.ev D,E]
def gU:∀(vs:Bl) (i:Y) (pre post:Bl),Alz pre=i->(∀v∈vs,v.oneCell'=Af)->Alz post=Alz vs->
 Instr.fill (fun i=>J (i*1,1)) (pre++post).toArray ((vs.zipIdx i).map fun(v,j)=>(j,v))=J (pre++vs).toArray
 |[],i,pre,post,hp,_,hl=>by
  have:post=[]:=Bf;subst this;rfl
 |v::vs,i,pre,post,hp,h1,hl=>by
  cases post with
  |nil=>grind
  |cons p post=>
   have hc:=LD (h1 v Bh);have ih:=gU vs (i+1) (pre++[v]) _ (by simp[hp]) Bf (by simpa using hl);simp only[WX,Cm,Instr.fill,hc,List.size_toArray,CF,ET,IX];grind
def Aeb{z:Ah}{bs:Y}{pv:Ap (Y×Ah)}{vs:Bl}(len:Y)(ht:P.underlying t=J (.slice e))(hi:TI P e z 1 bs)(g:z.oneCell'=Af)
 (h:pv.toList=vs.zipIdx.map fun(v,j)=>(j,v)) (hl:Alz vs=len) (h1:∀v∈vs,v.oneCell'=Af) (l:len<=16777216):
 (Instr.buildSlice t len pv).run P w=.ok (.slice (J ⟨w.heap.size,0,Aa⟩) len len) (w.alloc (.cells vs.toArray e)):=by
 have m:=gU _ 0 [] (BH len z) Z h1 Bf;simp only[EW]at m;have f:=LD g
 have a:((Array.range (len*1)).map fun j=>#[z][j%(#[z]).size]!)=(BH len z).toArray:=by
  apply Array.ext';apply He;intro j;by_cases q:j<len
  .grind
  .grind
 have o:¬(len*1>2 ^ 24):=X;simp only[Instr.buildSlice,Sem.run_bind,run_underlying ht,Fc hi,Result.andThen_ok,Ag o,h];by_cases p:len*1=0
 .have i:len=0:=X;subst i;have:vs=[]:=Bf;subst this;simp[Instr.fill,newRow,Sem.run,Array.range_zero']
 .rw[Ag p];simp only[Sem.run_bind,NI hi,Result.andThen_ok,Sem.run_pure,f,a,m];rfl
def EX.buildSlice{z:Ah}{bs:Y}{BN:Ap (Y×AD)}{vs:Bl}(len:Y)(ht:P.underlying t=J (.slice e))(hi:TI P e z 1 bs)(f:z.oneCell'=Af)
 (hv:evs U (BN.toList.map (·.2))=J vs) (i:BN.toList.map (·.1)=Hh 0 (Alz BN.toList)) (hl:Alz vs=len) (h1:vs.all (·.oneCell')=Af) (a:len<=16777216):
 EX P n U (.buildSlice t len BN) ty w (.slice (J ⟨w.heap.size,0,Aa⟩) len len) (w.alloc (.cells vs.toArray e)):=fun A l o pos after g=>by
 have h:(BN.map fun(p:Y×AD)=>(p.1,A.eval p.2)).toList=vs.zipIdx.map fun(v,j)=>(j,v):=by
  have m:=l.evs hv;apply He;intro j;have r:=AF (·[j]?) m;have q:=AF (·[j]?) i;cases hq:BN.toList[j]? with
  |none=>grind
  |some p=>
   grind
 have:=Aeb (w:=w) _ ht hi f h hl Bf a;simp only[execOp,Sem.run_bind];simp_all
def cV{z:Ah}{bs len:Y}{l m:AK}(ht:P.underlying t=J (.slice e))(hi:TI P e z 1 bs)(a:z.oneCell'=Af)(hx:ev U x=J (.int l (len:H)))(q:ev U y=J (.int m (len:H)))
 (I:bs*len<=281474976710656) (E:len<=9223372036854775807):
 EX P n U (.makeSlice t x y) ty w (.slice (J ⟨w.heap.size,0,Aa⟩) len len) (w.alloc (.cells (BH len z).toArray e)):=fun A o G pos after g=>by
 obtain⟨i,C,p,r,rfl⟩:=hi.at
 have j:=by
  have h:((i.bytes*len:Y):H)<=281474976710656:=X;rwa[WF]at h
 have f:=run_make w t e i z ht C p l m len _ X X j X;simp[Oc,r,IX,LD a]at f
 have D:madeCells #[z] len=(BH len z).toArray:=by
  apply Array.ext';rw[toList_madeCells_one]
 rw[D]at f;simp only[execOp,o.ev hx,o.ev q,Sem.run_bind,f];rfl
def EX.bytesOf{s:Bg}(ht:P.underlying t=J .string)(j:P.underlying t'=J (.slice e))(he:P.underlying e=J (.int .u8))(hx:ev U x=J (str s))(L:Alz s<=9223372036854775807):
 ∃v w',EX P n U (.convert t t' x) ty w v w'/\Bn w' w.heap.size e 1 v (Alz s) (BI s)/\Pi v=J w.heap.size/\Be w w':=by
 let cap:=Question.cut (.appendCap (Alz s) 0 e) (w.tape w.drawn (.appendCap (Alz s) 0 e))
 have r:Alz s<=cap:=by simp[cap,Question.cut]
 have q:cap<=maxLen:=by
  have E:=Qa (w.tape w.drawn (.appendCap (Alz s) 0 e)) (show 0<2 ^ 63-Alz s by omega);simp only[cap,Question.cut,maxLen];omega
 let l:=BI s++BH (cap-Alz s) (Value.int .u8 0)
 have p:Alz l=cap:=by simp[l,BI];omega
 let w1:=w.drew.alloc (.cells l.toArray e)
 let w2:=w1.freeze ⟨w.heap.size,cap,Aa⟩ 1
 have h:(s.toArray.map fun b=>Value.int .u8 b.toNat)++Jv (cap-Alz s) (Value.int .u8 0)=l.toArray:=by
  apply Array.ext';simp[l,BI]
 have i:w1.heap[w.heap.size]? =J _:=heap_alloc_new _ _;have o:w1.shape? w.heap.size=J (e,cap):=by simp[World.shape?,i,p]
 have C:w2.heap[w.heap.size]? =J (.cells l.toArray e (cap,cap+1)):=by
  simp[w2,World.freeze];simp[Wo,i]
 have f:(Conv.stringToBytes e ⟨⟨s⟩⟩).run P w=.ok (.slice (J ⟨w.heap.size,0,Aa⟩) (Alz s) cap) w2:=by
  have m:PK ⟨_⟩=Alz s:=rfl;have G:Question.forced (.appendCap (Alz s) 0 e)=Ai:=rfl;simp only[Conv.stringToBytes,m,Sem.run_bind,choose,Sem.run,G,Bool.false_eq_true,if_false,Result.andThen_ok,newRow,newObj,Sem.run_pure];rw[show((⟨_⟩:ByteArray).data.map _)=s.toArray.map _ from Z,h];have a:World.shape? { w with drawn:=w.drawn+1,heap:=w.heap.push _ } _=J _:=o;simp only[markStringish,shape,Sem.run_bind,Sem.run,a,freeze];rfl
 refine⟨_,_,fun A I K pos after g=>?_,⟨Bf,.inr ⟨_,_,_,Z,X,⟨_,C,Bf⟩,Bf,r,q⟩⟩,Z,⟨Z,Z,Z,?_,fun k D=>?_⟩⟩
 .simp only[execOp,I.ev hx,convert,run_underlying ht,run_underlying j,run_underlying he,Sem.run_bind,Result.andThen_ok,f];rfl
 .grind
 .have:w2.heap[k]? =w1.heap[k]?:=by
   simp[w2,World.freeze];simp[Wo,Nat.ne_of_gt D]
  rw[this];exact Below.heap_alloc _ _ k D
def Ahc(s:Bg):strOfNums (s.map fun c=>(c.toNat:H))=⟨⟨s⟩⟩:=by
 have h:s.map ((fun n:H=>BV n.toNat)∘fun c=>c.toNat)=s:=by
  have a:∀c∈s,((fun n:H=>BV n.toNat)∘fun c=>c.toNat) c=id c:=Bh;rw[Kl a,List.map_id]
 simp[strOfNums,h]
def qA{B:Y}{A:Av AB}{len cap:Y}{s:Bg}(ht:P.underlying t=J (.slice e))(he:P.underlying e=J (.int .u8))(f:P.underlying t'=J .string)(hx:ev U x=J (.slice A len cap))(h:Sl w B A (BI s))(hl:Alz s=len):
 EX P n U (.convert t t' x) ty w (str s) w:=fun Ac q r pos after g=>by
 have m:(convert t t' (.slice A len cap)).run P w=.ok (str s) w:=by
  rcases h with h|⟨b,o,rfl,_,p⟩
  .have j:s=[]:=by
    have:=AF DQ h;simp[BI]at this;exact this
   subst j;simp at hl;subst hl;cases A with
   |none=>exact run_convert_bytes_nil w t e ht he 0 _ _ f
   |some a=>
    rw[run_convert_bytes_string w t _ e _ 0 _ ht he f,run_bytesToString w _ 0 _ [] (by rfl)];rfl
  .have:=run_convert_bytes_arg w t e ht he b o len cap (s.map fun c=>c.toNat) Bf (fun i C=>by
    have l:i<Alz s:=X;have:=p i (.int .u8 (s[i].toNat)) (by simp[BI,l]);grind) _ f
   rwa[Ahc]at this
 simp only[execOp,q.ev hx,Sem.run_bind,m];rfl
end
section
variable{P:AC}{R:AE->Ad->Prop}{ops:Ap AG}{rest:Ae AG}{k:Ae KI}{n:Y}{U:BG}{w w0:Ad}{x y:AD}{t t' e ty ty1:Aw}{pos pos1:AJ}{after after1:Ap Edge}{gd gd1:Av (Y×Ar)}{d d1:Y}
def Be.grown{row:Av Y}{w':Ad}(h:Be w0 w)(hg:w.grownBy w' row)(hr:∀g,row=J g->w0.heap.size<=g):Be w0 w':=Below.grown h hg h.size hr
def HM{z:Ah}{s bs:Y}(hg:BJ ops U gd=J Af)(hd:BK d n=Af)(ht:P.underlying t=J (.slice e))(hi:TI P e z s bs)(hzs:z.cells.size=s)(hs0:0<s)
 {v xv:Ah} {m l:Y} {xs news:Bl} (hx:ev U x=J v) (hy:ev U y=J xv) (hext:Be w0 w) (hown:Bn w w0.heap.size e s v l xs) (hsrc:Src P s t' xv m news w)
 (h63:l+m<=maxLen) (hbytes:(l+m)*bs<=140737488355328)
 (h:∀v' w',Bn w' w0.heap.size e s v' (l+m) (xs++news)->Be w0 w'->w.grownBy w' (Pi v)->(Pi v'=Pi v∨Pi v'=J w.heap.size)->OW P R ops rest k n ((d,v')::U) w'):
 OW P R ops (⟨J d,.call { callee:=.builtin .append,args:=#[x,y],argTypes:=#[t,t'] },ty,pos,after,gd⟩::rest) k n U w:=
 OW.append w0.heap.size hg hd ht hi hzs hs0 hx hy hown hsrc h63 hbytes hext.size fun v' w' h1 h2 h3=>h v' w' h1 (hext.grown h2 fun g hg=>(hown.lt g hg).1) h2 h3
def OW.push{z:Ah}{bs:Y}(A:BJ ops U gd1=J Af)(B:BK d1 n=Af)(K:∀u,BJ ops ((d1,u)::U) gd=J Af)(L:BK d n=Af)(ht:P.underlying t=J (.slice e))(hi:TI P e z 1 bs)(f:z.oneCell'=Af)
 {v u:Ah} {l:Y} {xs:Bl} (G:ev U y=J u) (hx:∀q,ev ((d1,q)::U) x=J v) (S:u.oneCell'=Af) (m:Be w0 w) (i:Bn w w0.heap.size e 1 v l xs)
 (C:l+1<=maxLen) (a:(l+1)*bs<=140737488355328)
 (h:∀q v' w',Bn w' w0.heap.size e 1 v' (l+1) (xs++[u])->Be w0 w'->w.grownBy w' (Pi v)->(Pi v'=Pi v∨∃g,Pi v'=J g/\w.heap.size<=g)->OW P R ops rest k n ((d,v')::(d1,q)::U) w'):
 OW P R ops (⟨J d1,.buildSlice t 1 #[(0,y)],ty1,pos1,after1,gd1⟩::⟨J d,.call { callee:=.builtin .append,args:=#[x,.tmp d1],argTypes:=#[t,t] },ty,pos,after,gd⟩::rest) k n U w:=by
 refine OW.val A B (EX.buildSlice (vs:=[u]) 1 ht hi f (by simp[evs,G]) Z Z Bf Bc) ?_;have p:Be _ (w.alloc (.cells [u].toArray e)):=m.trans (Be.alloc w _);have E:=Bk.new w e [u];refine HM (K _) L ht hi (LD f▸Z) Bc (hx _) (OX _ _ _) p (i.alloc _) (Src.Akm ht (Sl.Akk E E.lt) Z Bf Bc) C a ?_;intro v' w' Q N o D;refine h _ _ _ Q N ⟨o.os,o.tape,o.output,by have:=o.size;simp_all;omega,fun j I r=>?_⟩ ?_
 .rw[o.block j Bv r];exact Below.heap_alloc w _ j I
 .rcases D with D|D
  .grind
  .simp_all
def Akd{z:Ah}(a:z.oneCell'=Af)(m:Y):(Builtin.zeroCells z.cells m).toList=BH m z:=by
 rw[LD a];apply He;intro j;by_cases f:j<m
 .simp[Builtin.zeroCells,f,Nat.mod_one]
 .simp[Builtin.zeroCells,f]
def ni(B:Y)(N:Aw){kx:AK}(hk:P.underlying N=J (.int kx)){z:Ah}{bs:Y}(ht:P.underlying t=J (.slice e))(hi:TI P e z 1 bs)(S:z.oneCell'=Af)
 {v:Ah} {l:Y} {xs:Bl} (h:Bn w B e 1 v l xs) {m:Y} {ki:AK} (q:l+m<=maxLen) (p:(l+m)*bs<=140737488355328) (hB:B<=w.heap.size) (hm:0<m):
 ∃v' w',(Builtin.append_ #[t,N] ty #[v,.int ki (m:H)]).run P w=.ok v' w'/\Bn w' B e 1 v' (l+m) (xs++BH m z)/\w.grownBy w' (Pi v)/\(Pi v'=Pi v∨Pi v'=J w.heap.size):=by
 obtain⟨i,hq,hz,hs,rfl⟩:=hi.at;have Q:=Akd S;have hw:IntKind.i64.wrap m=m:=by rw[IntKind.wrap_i64];simp[maxLen]at q;omega
 have W:¬((m:H)<0):=X
 have aj:¬((m:H)*i.bytes>2 ^ 48):=by
  have h1:m*i.bytes<=(l+m)*i.bytes:=Bf;have h2:((m*i.bytes:Y):H)<=140737488355328:=X;rw[WF]at h2;omega
 have ao:¬(m*1=0):=X;have C:Alz (xs++BH m z)=(l+m)*1:=by rw[Bx,h.1,Cn,RU,IX m]
 have grow:∀(A:Av AB) (f:Y),v=.slice A l f->f<l+m->(∀r:Ad,(∀a,r.cell? a=w.cell? a)->(Builtin.firstCells 1 l (.slice A l f)).run P r=.ok xs.toArray r)->
  ∃v' w',(Builtin.append_ #[t,N] ty #[v,.int ki (m:H)]).run P w=.ok v' w'/\Bn w' B e 1 v' (l+m) (xs++BH m z)/\w.grownBy w' (Pi v)/\(Pi v'=Pi v∨Pi v'=J w.heap.size):=by
  intro A f hv hc K;subst hv;have ab:=grownCap_ge w (l+m) f e;have E:=grownCap_le_maxLen w _ f e q;have D:=growslice_fits X p;have al:m*i.bytes<=(l+m)*i.bytes:=Bf;have hr:=Lib.run_append_grow_zeros w t _ ty e i z ki _ ht hk hq hz A l _ _ (hs▸K w.drew fun _=>rfl) m hm X hc (by simp[maxLen]at q;omega) X D;refine⟨_,_,hr,⟨C,.inr ⟨_,_,(Builtin.zeroCells z.cells (grownCap w (l+m) f e-(l+m))).toList,Z,hB,?_,?_,ab,E⟩⟩,⟨Z,Z,Z,Bh,fun k hk _=>Below.heap_alloc _ _ k hk⟩,.inr Z⟩
  .have:=Bk.new w.drew e ((xs++BH m z)++(Builtin.zeroCells z.cells (grownCap w (l+m) f e-(l+m))).toList)
   rw[show((xs++BH m z)++(Builtin.zeroCells _ _).toList).toArray=xs.toArray++Builtin.zeroCells z.cells m++Builtin.zeroCells z.cells (grownCap w (l+m) f e-(l+m)) by
    simp_all]at this
   simp_all
  .grind
 rcases h.2 with⟨rfl,rfl⟩|⟨g,f,rest,rfl,hb,hg,hl,hn,E⟩
 .have hx:xs=[]:=Im Bf;subst hx;exact grow Aa 0 Z X (fun r _=>by rfl)
 .by_cases o:l+m<=f
  .have af:l+Alz (BH m z)<=Alz (xs++rest):=by
    rw[Bx,hl,Cn];omega
   obtain⟨w',I,a1,a0⟩:=Rf P w g l e (BH m z) 0 (xs++rest) w hg X Bf;refine⟨_,_,?_,⟨C,.inr ⟨g,_,rest.drop m,Z,hb,?_,?_,o,E⟩⟩,Ck,.inl Z⟩
   .rw[<-Q]at I;have ai:(m:H)<=9223372036854775807:=by simp[maxLen]at q;omega
    have V:m≠0:=X;simp[Builtin.append_,run_underlying ht,run_underlying hk,sizeOf,typeInfo,zeroValue,hq,hz,hs,asInt,asIntOf,hw,W,V,o,Addr.add_lit,I,show ¬(281474976710656<(m:H)*(i.bytes:H)) by omega]
   .have G:Alz xs=l:=by have:=h.1;omega
    have e1:(xs++rest).take (l+0)=xs:=by rw[JD,<-G];exact List.take_left
    have e2:(xs++rest).drop (l+0+Alz (BH m z))=rest.drop m:=by
     rw[JD,Cn,<-G,<-Gj,List.drop_left]
    grind
   .grind
  .refine grow _ _ Z X (fun r T=>?_)
   have:(loadCells ⟨g,0,Aa⟩ (l*1)).run P r=.ok xs.toArray r:=by
    have:=run_loadCells_list (P:=P) r ⟨g,0,Aa⟩ xs (fun j u hj=>by
     have L:(⟨g,0,Aa⟩:AB).add j=⟨g,j,Aa⟩:=by unfold Addr.add;split<;>simp_all
     rw[L,T];refine hg.I ?_;grind)
    rwa[h.1]at this
   assumption
def rz{z:Ah}{bs:Y}{B ki:AK}(o:BJ ops U gd=J Af)(E:BK d n=Af)(ht:P.underlying t=J (.slice e))(hk:P.underlying t'=J (.int B))(hi:TI P e z 1 bs)(j:z.oneCell'=Af)
 {v:Ah} {m l:Y} {xs:Bl} (hx:ev U x=J v) (C:ev U y=J (.int ki (m:H))) (i:Be w0 w) (f:Bn w w0.heap.size e 1 v l xs) (hm:0<m)
 (p:l+m<=maxLen) (a:(l+m)*bs<=140737488355328)
 (h:∀v' w',Bn w' w0.heap.size e 1 v' (l+m) (xs++BH m z)->Be w0 w'->w.grownBy w' (Pi v)->(Pi v'=Pi v∨Pi v'=J w.heap.size)->OW P R ops rest k n ((d,v')::U) w'):
 OW P R ops (⟨J d,.call { callee:=.builtin .append,args:=#[x,y],argTypes:=#[t,t'] },ty,pos,after,gd⟩::rest) k n U w:=by
 obtain⟨v',w',D,I,r,G⟩:=ni (P:=P) (ty:=ty) w0.heap.size t' hk ht hi j f (ki:=ki) p a i.size hm;refine OW.val o E ?_ (h _ _ I (i.grown r fun g o=>(f.lt g o).1) r G);intro A q K pos after g;simp[execOp,resolve,invoke,builtin,Sem.run_bind,Sem.run_pure,Result.andThen_ok,GC,Cm,Em,q.ev hx,q.ev C,D]
def rK{z:Ah}{s bs b o:Y}{vs l:Bl}{T:Aw}(i:BJ ops U gd=J Af)(h:TI P t z s bs)(hx:ev U x=J (.pointer (J ⟨b,o,Aa⟩)))(a:ev U y=J (.agg vs.toArray))(f:Alz vs=s)(h1:vs.all (·.oneCell')=Af)(m:Bk w b T l)(hl:o+Alz vs<=Alz l)
 (g:∀w',Bk w' b T (l.take o++vs++l.drop (o+Alz vs))->w.grownBy w' (J b)->OW P R ops rest k n U w'):OW P R ops (⟨Aa,.store t x y,ty,pos,after,gd⟩::rest) k n U w:=by
 obtain⟨w',j,q,p⟩:=Ty (P:=P) (n:=n) (ty:=ty) h hx a f h1 m hl;exact RZ i j (g _ q p)
def Xk{z:Ah}{s bs b:Y}{vs l:Bl}{T:Aw}(hg:BJ ops U gd=J Af)(h:TI P t z s bs)(hx:ev U x=J (.pointer (J ⟨b,0,Aa⟩)))(hy:ev U y=J (.agg vs.toArray))(hs:Alz vs=s)(h1:vs.all (·.oneCell')=Af)(hb:Bk w b T l)(hl:Alz l=s)
 (hn:∀w',Bk w' b T vs->w.grownBy w' (J b)->OW P R ops rest k n U w'):OW P R ops (⟨Aa,.store t x y,ty,pos,after,gd⟩::rest) k n U w:=
 rK hg h hx hy hs h1 hb X Bf
def retA{fn:Func}{Q:Ah->Ad->Prop}{p:Y}{z:Ah}{s bs g:Y}{l:Bl}{T:Aw}{dd:TypeDesc}(i:fn.results=#[.cell p t])(o:lk U p=J (.pointer (J ⟨g,0,Aa⟩)))(f:P.underlying t=J dd)(q:flat dd=Ai)(h:TI P t z s bs)(r:Bk w g T l)(hl:Alz l=s)(m:Q (.agg l.toArray) w):
 ∀a,Fr n U a->bodyPost P fn (fun e w'=>∃v,e=.returned v/\Q v w') .ret a w:=
 MH (fun a ha=>by
  have hp':=ha.val p _ o
  have hld:=run_loadCells_list (P:=P) w _ l (fun j u hj=>by
   have hadd:(⟨g,0,Aa⟩:AB).add j=⟨g,j,Aa⟩:=by unfold Addr.add;split<;>simp_all
   rw[hadd];exact r.I hj)
  rw[hl]at hld;simp[results,i,hp',asAddr,loadVar,Jl f,q,Fc h,hld]) m
def NH{kk:AK}{i:Y}(y:Y)(c:BoundsCode)(h:i<=y):(Instr.sliceBound (.int kk (i:H)) y c).run P w=.ok i w:=Th y c h
def Sl.cut{B:Y}{A:Av AB}{xs:Bl}(h:Sl w B A xs){i c:Y}(m:Alz xs<=c):Sl w B (if c=i then A else A.map (·.add (i*1))) (xs.drop i):=by
 rcases h with h|⟨b,o,rfl,f,a⟩
 .subst h;left;simp
 .by_cases l:Alz xs<=i
  .left;simp_all
  .rw[Ag X];refine .inr ⟨b,o+i,by simp[Addr.add_lit],f,fun j u g=>?_⟩;grind
def OW.bytesOf{s:Bg}(m:BJ ops U gd=J Af)(o:BK d n=Af)(ht:P.underlying t=J .string)(a:P.underlying t'=J (.slice e))(he:P.underlying e=J (.int .u8))(hx:ev U x=J (str s))(h:Alz s<=9223372036854775807)
 (i:∀cap rs w',Bk w' w.heap.size e (BI s++rs)->Alz s<=cap->cap<=maxLen->Alz s+Alz rs=cap->Be w w'->OW P R ops rest k n ((d,.slice (J ⟨w.heap.size,0,Aa⟩) (Alz s) cap)::U) w'):
 OW P R ops (⟨J d,.convert t t' x,ty,pos,after,gd⟩::rest) k n U w:=by
 obtain⟨v,w',B,A,f,r⟩:=EX.bytesOf (P:=P) (n:=n) (ty:=ty) (w:=w) ht a he hx h;rcases A.2 with⟨rfl,_⟩|⟨g,cap,rs,rfl,_,q,l,p,j⟩
 .simp[Pi]at f
 .simp[Pi]at f;subst f;exact OW.val m o B (i _ _ _ q p j (by rw[EZ]at l;omega) r)
end
structure Mo(w w':Ad)(S:Bj):Prop where
 os:w'.os=w.os
 tape:w'.tape=w.tape
 output:w'.output=w.output
 size:w.heap.size<=w'.heap.size
 block:∀k,k<w.heap.size->k∉S->w'.heap[k]? =w.heap[k]?
section
variable{w w' w'':Ad}{S S':Bj}{b B:Y}{T:Aw}{l:Bl}
def Mo.refl(w:Ad)(S:Bj):Mo w w S:=⟨Z,Z,Z,X,Bh⟩
def Mo.trans(h:Mo w w' S)(k:Mo w' w'' S):Mo w w'' S:=
 ⟨k.os.trans h.os,k.tape.trans h.tape,k.output.trans h.output,BA h.size k.size,fun i hi hS=>(k.block i (Kq hi h.size) hS).trans (h.block i hi hS)⟩
def Mo.mono(h:Mo w w' S)(hs:∀k∈S,k∈S'):Mo w w' S':=⟨h.os,h.tape,h.output,h.size,fun i hi hS=>h.block i hi Bf⟩
def Mo.fresh(h:Mo w w' S)(hs:∀k∈S,k<w.heap.size->k∈S'):Mo w w' S':=⟨h.os,h.tape,h.output,h.size,fun i hi hS=>h.block i hi Bf⟩
def Mo.Akj(h:Be w w')(S:Bj):Mo w w' S:=⟨h.os,h.tape,h.output,h.size,fun i hi _=>h.block i hi⟩
def Mo.a(h:Mo w w' []):Be w w':=⟨h.os,h.tape,h.output,h.size,fun i hi=>h.block i hi Bh⟩
def Mo.set(w:Ad)(b i:Y)(u:Ah):Mo w (w.setCell ⟨b,i,Aa⟩ u) [b]:=⟨Z,Z,Z,Bh,fun k _ hk=>Below.heap_setCell w _ u k Bf⟩
def Mo.grown{row:Av Y}(h:w.grownBy w' row)(hr:∀k,row=J k->k∈S):Mo w w' S:=⟨h.os,h.tape,h.output,h.size,fun i hi hS=>h.block i hi Bf⟩
def Bp{a:Ad}(h:Below B a w)(hm:Mo w w' S)(hB:B<=w.heap.size)(hs:∀k∈S,B<=k):Below B a w':=
 ⟨hm.os.trans h.os,hm.tape.trans h.tape,hm.output.trans h.output,BA h.size hm.size,fun i hi=>(hm.block i X Bf).trans (h.block i hi)⟩
def Bk.j(h:Bk w b T l)(hm:Mo w w' S)(hb:b∉S):Bk w' b T l:=h.of_block (hm.block b h.lt hb)
def Bn.j{s n:Y}{v:Ah}{xs:Bl}(h:Bn w B T s v n xs)(hm:Mo w w' S)(hb:∀k,Pi v=J k->k∉S):Bn w' B T s v n xs:=
 h.Ala fun k hk=>hm.block k (h.lt k hk).2 (hb k hk)
end
section
variable{P:AC}{R:AE->Ad->Prop}{k:Ae KI}{n:Y}{U:BG}{w:Ad}{c c':AL}
def re{ι:Type}(I:ι->Prop)(S:ι->BG)(W:ι->Ad)(h:KW P R (.code c::.code c'::.asr (Met n I S W)::k) n U w)(h2:∀i,I i->KW P R k n (S i) (W i)):
 KW P R (.code c::.code c'::k) n U w:=fun a m=>by
 have f:=h a m;simp[DP]at f ⊢;refine Code.wp_mono (fun e o w' q=>?_) f;cases e with
 |normal=>
  refine Code.wp_mono (fun e o w' q=>?_) q;cases e with
  |normal=>obtain⟨i,g,j,rfl⟩:=q;exact h2 i g _ j
  |_=>exact q
 |_=>exact q
end
section
variable{P:AC}{R:AE->Ad->Prop}{ops:Ap AG}{rest:Ae AG}{k:Ae KI}{n:Y}{U:BG}{w:Ad}{x y t:AD}{T T' e ty:Aw}{pos:AJ}{after:Ap Edge}{gd:Av (Y×Ar)}{d:Y}{v z:Ah}{s bs:Y}{l:Bl}
def cP(hx:ev U x=J v)(h1:v.oneCell'=Af):EX P n U (.box T x) ty w (.pointer (J ⟨w.heap.size,0,Aa⟩)) (w.alloc (.cells [v].toArray T)):=
 EX.box hx (by rw[LD h1])
def Mb(hg:BJ ops U gd=J Af)(hd:BK d n=Af)(hx:ev U x=J v)(h1:v.oneCell'=Af)
 (h:∀b w',w.heap.size<=b->Bk w' b T [v]->Be w w'->OW P R ops rest k n ((d,.pointer (J ⟨b,0,Aa⟩))::U) w'):
 OW P R ops (⟨J d,.box T x,ty,pos,after,gd⟩::rest) k n U w:=
 OW.val hg hd (cP hx h1) (h _ _ X (Bk.new w T [v]) (Be.alloc w _))
def dT(hg:BJ ops U gd=J Af)(hd:BK d n=Af)(hi:TI P T z s bs)(hl:z.cells.toList=l)
 (h:∀b w',w.heap.size<=b->Bk w' b T l->Be w w'->OW P R ops rest k n ((d,.pointer (J ⟨b,0,Aa⟩))::U) w'):
 OW P R ops (⟨J d,.alloc T,ty,pos,after,gd⟩::rest) k n U w:=
 OW.val hg hd (EX.alloc hi hl) (h _ _ X (Bk.new w T l) (Be.alloc w _))
def Un{b i:Y}(hg:BJ ops U gd=J Af)(hi:TI P T z 1 bs)(hx:ev U x=J (.pointer (J ⟨b,i,Aa⟩)))(hy:ev U y=J v)(h1:v.oneCell'=Af)(hb:Bk w b T' l)(hlt:i<Alz l)
 (h:∀w',Bk w' b T' (l.set i v)->Mo w w' [b]->OW P R ops rest k n U w'):
 OW P R ops (⟨Aa,.store T x y,ty,pos,after,gd⟩::rest) k n U w:=
 RZ hg (RC hi hx hy h1 hb hlt) (h _ (hb.set i v) (Mo.set w b i v))
def Xh{len:Y}{kl kc:AK}(hg:BJ ops U gd=J Af)(hd:BK d n=Af)(ht:P.underlying T=J (.slice e))(hi:TI P e z 1 bs)(hz1:z.oneCell'=Af)(hx:ev U x=J (.int kl (len:H)))(hy:ev U y=J (.int kc (len:H)))
 (hb:bs*len<=281474976710656) (h63:len<=9223372036854775807)
 (h:∀b w',w.heap.size<=b->Bk w' b e (BH len z)->Be w w'->OW P R ops rest k n ((d,.slice (J ⟨b,0,Aa⟩) len len)::U) w'):
 OW P R ops (⟨J d,.makeSlice T x y,ty,pos,after,gd⟩::rest) k n U w:=
 OW.val hg hd (cV ht hi hz1 hx hy hb h63) (h _ _ X (Bk.new w e _) (Be.alloc w _))
def Ks{BN:Ap (Y×AD)}{vs:Bl}(len:Y)(hg:BJ ops U gd=J Af)(hd:BK d n=Af)(ht:P.underlying T=J (.slice e))(hi:TI P e z 1 bs)(hz1:z.oneCell'=Af)
 (hv:evs U (BN.toList.map (·.2))=J vs) (hp:BN.toList.map (·.1)=Hh 0 (Alz BN.toList)) (hl:Alz vs=len) (h1:vs.all (·.oneCell')=Af) (hlen:len<=16777216)
 (h:∀b w',w.heap.size<=b->Bk w' b e vs->Be w w'->OW P R ops rest k n ((d,.slice (J ⟨b,0,Aa⟩) len len)::U) w'):
 OW P R ops (⟨J d,.buildSlice T len BN,ty,pos,after,gd⟩::rest) k n U w:=
 OW.val hg hd (EX.buildSlice len ht hi hz1 hv hp hl h1 hlen) (h _ _ X (Bk.new w e vs) (Be.alloc w _))
def FZ{f:FuncId}{fs i:Ae AD}{a h:Bl}(hf:evs U fs=J a)(m:evs U i=J h):
 EX P n U (.makeFunc (.func f) fs.toArray i.toArray) ty w (.func (.func f) a.toArray h.toArray) w:=fun A j q pos after g=>by
 have p:fs.toArray.map A.eval=a.toArray:=by simp[j.evs hf]
 have o:i.toArray.map A.eval=h.toArray:=by simp[j.evs m]
 simp only[execOp,p,o];rfl
def EC.val {f:FuncId} {xs:Ae AD} {vs a h args:Bl} {i:Ap Aw} {fn:Func} (hf:P.funcs[f]? =J fn) (m:(!(fn.name== "runtime.NumGoroutine") && fn.body.isSome)=Af)
 (ht:ev U t=J (.func (.func f) a.toArray h.toArray)) (hx:evs U xs=J vs) (he:a++vs++h=args):
 EC P n U (.call { callee:=.value t,args:=xs.toArray,argTypes:=i }) ty w f args.toArray:=fun A j p pos after g=>by
 have o:xs.toArray.map A.eval=vs.toArray:=by simp[j.evs hx]
 simp only[execOp,resolve,Deferred.ofValue,j.ev ht,Sem.run_bind,Sem.run_pure,Result.andThen_ok,invoke,o];have:=Pt (w:=w) hf m (a++vs++h).toArray;grind
def rC{f:FuncId}{xs:Ae AD}{a:Ap Aw}{vs i j args:Bl}{Q:Ah->Ad->Prop}
 (m:BJ ops U gd=J Af) (o:BK d n=Af) (ht:ev U t=J (.func (.func f) i.toArray j.toArray)) (hx:evs U xs=J vs) (he:i++vs++j=args) (g:Bm P f args w Q)
 (h:∀v w',Q v w'->OW P R ops rest k n ((d,v)::U) w'):
 OW P R ops (⟨J d,.call { callee:=.value t,args:=xs.toArray,argTypes:=a },ty,pos,after,gd⟩::rest) k n U w:=by
 obtain⟨⟨r,q,p⟩,_⟩:=id g;exact dU m o (EC.val q p ht hx he) g h
end
def Hj {P:AC} {f:FuncId} {fn:Func} {args:Bl} {w:Ad} {v:Ah} {W:Ad->Prop} (hf:P.funcs[f]? =J fn) (hn:(!(fn.name== "runtime.NumGoroutine") && fn.body.isSome)=Af)
 (h:Calls P f args.toArray w fun e w'=>e=.returned v/\W w'):Bm P f args w fun v' w'=>v'=v/\W w':=
 ⟨⟨fn,hf,hn⟩,Bf⟩
section
variable{P:AC}{n:Y}{U:BG}{w:Ad}{x y:AD}{t e ty T T':Aw}{b o:Y}{z v:Ah}{s bs:Y}{l:Bl}
def places(P:AC)(fs:Ae Field):Av (Ae (Y×Y)):=
 match fs with
 |[]=>J []
 |f::r=>match P.info? f.type,places P r with
  |some i,J l=>J ((f.offset,i.size)::l)
  |_,_=>Aa
def aT:∀(fs:Ae Field) (l:Ae (Y×Y)),places P fs=J l->(fs.mapM fun f=>(do pure (f.offset,<-sizeOf f.type):Sem (Y×Y))).run P w=.ok l w
 |[],l,h=>by
  simp only[places,Qf.injEq]at h;simp_all
 |f::r,l,h=>by
  simp[places]at h;split at h
  .rename_i i l' hi hl;injection h with h;have ih:=aT r _ hl;have hs:(sizeOf f.type).run P w=.ok i.size w:=by simp[sizeOf,typeInfo,hi]
   simp_all
  .grind
def LI:Bl->Bj->Bl->Bl
 |cs,i::is,v::vs=>LI (cs.set i v) is vs
 |cs,_,_=>cs
def gV(pl:Ae (Y×Y)):∀(pv:Ae (Y×Ah)) (is:Bj) (cs:Bl),Alz pv=Alz is->(∀(j:Y) (p:Y×Ah) (i:Y),pv[j]? =J p->is[j]? =J i->pl[p.1]? =J (i,1)/\i<Alz cs/\p.2.oneCell'=Af)->
 Instr.fill (pl.toArray[·]?) cs.toArray pv=J (LI cs is (pv.map (·.2))).toArray
 |[],is,cs,hl,_=>by
  cases is with
  |nil=>rfl
  |cons _ _=>simp at hl
 |(k,v)::pv,is,cs,hl,h=>by
  cases is with
  |nil=>simp at hl
  |cons i is=>
   obtain⟨h1,h2,h3⟩:=h 0 (k,v) i Z Z;have hc:=LD h3
   have ih:=gV pl pv is (cs.set i v) Bf (fun j p i' hp hi'=>by
    have:=h (j+1) p i' Bf Bf;grind)
   simp only[Cm,LI];simp only[Instr.fill];grind
def Pk(pl:Ae (Y×Y))(m:Y):Bj->Bj->Ar
 |k::ks,i::is=>(match pl[k]? with|some (i',1)=>JE i' i|_=>Ai) && BK i m && Pk pl m ks is
 |[],[]=>Af
 |_,_=>Ai
def lY{pl:Ae (Y×Y)}{m:Y}:∀{ks is:Bj},Pk pl m ks is=Af->Alz ks=Alz is/\∀(j k i:Y),ks[j]? =J k->is[j]? =J i->pl[k]? =J (i,1)/\i<m
 |[],[],_=>⟨Z,Bh⟩
 |[],i::is,h=>by simp[Pk]at h
 |k::ks,[],h=>by simp[Pk]at h
 |k::ks,i::is,h=>by
  simp only[Pk,Bool.and_eq_true]at h;obtain⟨⟨h1,h2⟩,h3⟩:=h;obtain⟨e,f⟩:=lY h3;refine⟨Bf,fun j k' i' hk hi=>?_⟩;cases j with
  |zero=>
   simp at hk hi;split at h1
   .simp_all
   .grind
  |succ j=>grind
def RD{fs:Ap Field}{BN:Ap (Y×AD)}{pl:Ae (Y×Y)}{ks is:Bj}{vs zs:Bl}(r:P.underlying t=J (.struct fs))(hi:TI P t (.agg zs.toArray) s bs)(C:places P fs.toList=J pl)
 (hk:BN.toList.map (·.1)=ks) (hv:evs U (BN.toList.map (·.2))=J vs) (G:Pk pl (Alz zs) ks is=Af) (h1:vs.all (·.oneCell')=Af) (hl:LI zs is vs=l):
 EX P n U (.build t BN) ty w (.agg l.toArray) w:=fun A I K pos after g=>by
 subst hl;have h:=I.evs hv
 have i:(BN.map fun p=>(p.1,A.eval p.2)).toList=ks.zip vs:=by
  rw[<-hk,<-h];simp only[Array.toList_map,EV,List.zip_map'];rfl
 obtain⟨Q,N⟩:=lY G;have m:Alz ks=Alz vs:=by rw[<-hk,<-h];simp
 have q:=gV pl (ks.zip vs) is zs Bf (fun j p L B E=>by
  grind)
 have a:(ks.zip vs).map (·.2)=vs:=by
  rw[<-List.unzip_snd,List.unzip_zip_right];omega
 rw[a]at q
 have D:(fs.mapM fun f=>(do pure (f.offset,<-sizeOf f.type):Sem (Y×Y))).run P w=.ok pl.toArray w:=by
  have:=aT (w:=w) _ _ C;rw[List.mapM_toArray,map_eq_pure_bind,Sem.run_bind,this];rfl
 simp only[execOp,Instr.build,Sem.run_bind,NI hi,Result.andThen_ok,run_underlying r,D];rw[show(BN.map _).toList=ks.zip _ from i];rw[show((Value.agg _).cells)=zs.toArray from Z,q];rfl
def Dw{fs:Ap Field}{h:Field}{f off:Y}(j:P.underlying t=J (.struct fs))(hf:fs[f]? =J h)(r:h.offset=off)(hi:TI P h.type z s bs)(m:BK 0 s=Af)(hx:ev U x=J (.pointer (J ⟨b,o,Aa⟩))):
 EX P n U (.fieldAddr t x f) ty w (.pointer (J ⟨b,o+off,Aa⟩)) w:=fun A p q pos after g=>by
 have i:s≠0:=by have:=Nat.le_of_ble_eq_true m;omega
 have a:(⟨b,o,Aa⟩:AB).add h.offset=⟨b,o+h.offset,Aa⟩:=by unfold Addr.add;split<;>simp_all
 simp only[execOp,p.ev hx];simp[Instr.fieldAt,run_underlying j,hf,Instr.sureAddr,fieldPlace,Fc hi,i,a]
def Tf{u v:Ah}{q:Ar}(e:binOp .eql t u v=(do pure (.bool (<-Op.equal t u v))))(h:∀d,(Op.equalIn (d+1) t u v).run P w=.ok q w):(binOp .eql t u v).run P w=.ok (.bool q) w:=by
 have a:(Op.equal t u v).run P w=.ok q w:=h 9999;simp_all
def VM{u v:Ah}{q:Ar}(e:binOp .neq t u v=(do pure (.bool !(<-Op.equal t u v))))(h:∀d,(Op.equalIn (d+1) t u v).run P w=.ok (!q) w):(binOp .neq t u v).run P w=.ok (.bool q) w:=by
 have a:(Op.equal t u v).run P w=.ok _ w:=h 9999;simp_all
def Za(op:BinOp)(i j:Av AB):(eqGuard op t x y (.pointer i) (.pointer j)).run P w=.ok () w:=by
 unfold eqGuard;simp
def pT(hu:P.underlying t=J (.pointer e))(hx:ev U x=J (.pointer Aa))(hy:ev U y=J (.pointer Aa)):EX P n U (.binOp .eql t x y T) ty w (.bool Af) w:=
 FP hx hy (Za _ _ _) (Tf Z (fun d=>by simp[Op.equalIn,run_underlying hu,Sem.run_bind]))
def pU{a:AB}(hu:P.underlying t=J (.pointer e))(hx:ev U x=J (.pointer (J a)))(hy:ev U y=J (.pointer Aa)):EX P n U (.binOp .eql t x y T) ty w (.bool Ai) w:=
 FP hx hy (Za _ _ _) (Tf Z (fun d=>by simp[Op.equalIn,run_underlying hu,Sem.run_bind]))
def qi{p q:Ap Aw}{vd:Ar}(hu:P.underlying t=J (.func p q vd))(hx:ev U x=J .nilFunc)(hy:ev U y=J .nilFunc):EX P n U (.binOp .neq t x y T) ty w (.bool Ai) w:=
 FP hx hy (by rfl) (VM Z (fun d=>by simp[Op.equalIn,run_underlying hu,Sem.run_bind]))
def qj{p q:Ap Aw}{vd:Ar}{f:Fn}{fi ca:Ap Ah}(hu:P.underlying t=J (.func p q vd))(hx:ev U x=J (.func f fi ca))(hy:ev U y=J .nilFunc):EX P n U (.binOp .neq t x y T) ty w (.bool Af) w:=
 FP hx hy (by rfl) (VM Z (fun d=>by simp[Op.equalIn,run_underlying hu,Sem.run_bind]))
def cX{p q:Ap Aw}{h r:Ar}(g:P.underlying t=J (.func p q h))(hx:ev U x=J v)(a:ev U y=J .nilFunc)(i:v=.nilFunc/\r=Ai∨∃f fi ca,v=.func f fi ca/\r=Af):EX P n U (.binOp .neq t x y T) ty w (.bool r) w:=by
 rcases i with⟨rfl,rfl⟩|⟨f,fi,ca,rfl,rfl⟩
 .exact qi g hx a
 .exact qj g hx a
end
section
variable{P:AC}{R:AE->Ad->Prop}{ops:Ap AG}{rest:Ae AG}{k:Ae KI}{n:Y}{U:BG}{w:Ad}{x y:AD}{T T' e ty:Aw}{pos:AJ}{after:Ap Edge}{gd:Av (Y×Ar)}{d:Y}{v z:Ah}{s bs:Y}{l:Bl}
def Dq(hg:BJ ops U gd=J Af)(hd:BK d n=Af)(hx:ev U x=J (.agg l.toArray))
 (h:∀b w',w.heap.size<=b->Bk w' b T l->Be w w'->OW P R ops rest k n ((d,.pointer (J ⟨b,0,Aa⟩))::U) w'):
 OW P R ops (⟨J d,.box T x,ty,pos,after,gd⟩::rest) k n U w:=
 OW.val hg hd (EX.box (l:=l) hx (by rfl)) (h _ _ X (Bk.new w T l) (Be.alloc w _))
def Uo{b o:Y}{vs:Bl}(j:BJ ops U gd=J Af)(hi:TI P T z s bs)(hx:ev U x=J (.pointer (J ⟨b,o,Aa⟩)))(g:ev U y=J (.agg vs.toArray))(i:Alz vs=s)(h1:vs.all (·.oneCell')=Af)(p:Bk w b T' l)(hlt:o+Alz vs<=Alz l)
 (h:∀w',Bk w' b T' (l.take o++vs++l.drop (o+Alz vs))->Mo w w' [b]->OW P R ops rest k n U w'):
 OW P R ops (⟨Aa,.store T x y,ty,pos,after,gd⟩::rest) k n U w:=by
 obtain⟨w',m,f,a⟩:=Ty (P:=P) (n:=n) (ty:=ty) hi hx g i h1 p hlt;exact RZ j m (h _ f (Mo.grown a Bh))
end
section
variable{P:AC}{n:Y}{U:BG}{w:Ad}{x y lo hi':AD}{t t' e ty T:Aw}{B len cap i j g:Y}{kk:AK}{z v:Ah}{bs:Y}{xs:Bl}
def sb0(y:Y)(c:BoundsCode):(Instr.sliceBound (.int kk 0) y c).run P w=.ok 0 w:=NH (kk:=kk) (i:=0) y c X
def qv(ht:P.underlying t=J (.slice e))(hi:TI P e z 1 bs)(hx:ev U x=J v)(hl:ev U hi'=J (.int kk (j:H)))(a:Bn w B e 1 v len xs)(h:j<=len):
 ∃v',EX P n U (.slice t x Aa (J hi') Aa) ty w v' w/\Bn w B e 1 v' j (xs.take j)/\Pi v'=Pi v:=by
 have A:=a.1;rcases a.2 with⟨rfl,rfl⟩|⟨g,cap,rest,rfl,I,K,L,E,G⟩
 .obtain rfl:j=0:=X;have D:xs=[]:=Bf;refine⟨.slice Aa 0 0,fun Ac o r pos after g=>?_,Bn.nil _ _ _ _,Z⟩;simp only[execOp,o.ev hx,o.ev hl,FU,Nd];simp[Instr.sliceAt,run_underlying ht,Instr.slice,Instr.sliceBounds,Sem.run_bind,sb0,Fc hi]
 .refine⟨_,fun Ac o r pos after gd=>?_,⟨Bf,.inr ⟨g,_,xs.drop j++rest,Z,I,?_,?_,X,G⟩⟩,Z⟩
  .simp only[execOp,o.ev hx,o.ev hl,FU,Nd];have m:(⟨g,0,Aa⟩:AB).add (0*1)=⟨g,0,Aa⟩:=by unfold Addr.add;simp
   by_cases f:cap=0
   .subst f;obtain rfl:j=0:=X;simp[Instr.sliceAt,run_underlying ht,Instr.slice,Instr.sliceBounds,Sem.run_bind,sb0,Fc hi]
   .simp[Instr.sliceAt,run_underlying ht,Instr.slice,Instr.sliceBounds,Sem.run_bind,NH cap _ (BA h E),Fc hi,f,m]
  .rw[<-Cq,Hx];omega
  .grind
def Wy(ht:P.underlying t=J (.slice e))(hi:TI P e z 1 bs)(hx:ev U x=J (.slice (J ⟨g,0,Aa⟩) len cap))(hl:ev U lo=J (.int kk (i:H)))(h:i<=len/\len<=cap/\i<cap):
 EX P n U (.slice t x (J lo) Aa Aa) ty w (.slice (J ⟨g,i,Aa⟩) (len-i) (cap-i)) w:=fun Ac m o pos after gd=>by
 simp only[execOp,m.ev hx,m.ev hl,FU,Nd];have a:(⟨g,0,Aa⟩:AB).add i=⟨g,i,Aa⟩:=by unfold Addr.add;split<;>simp_all
 have f:¬cap=i:=X;simp[Instr.sliceAt,run_underlying ht,Instr.slice,Instr.sliceBounds,Sem.run_bind,NH _ _ h.1,Fc hi,f,a]
def qy{A:Av AB}{k2:AK}(ht:P.underlying t=J (.slice e))(hi:TI P e z 1 bs)(hx:ev U x=J (.slice A len cap))(hl:ev U lo=J (.int kk (i:H)))(hh:ev U hi'=J (.int k2 (j:H)))(h:i<=j/\j<=len/\len<=cap)(hs:Sl w B A xs)(hln:Alz xs=len):
 ∃A',EX P n U (.slice t x (J lo) (J hi') Aa) ty w (.slice A' (j-i) (cap-i)) w/\Sl w B A' ((xs.drop i).take (j-i)):=
 ⟨if cap=i then A else A.map (·.add (i*1)),fun Ac ha dst pos after gd=>by
  simp only[execOp,ha.ev hx,ha.ev hl,ha.ev hh,FU,Nd];simp[Instr.sliceAt,run_underlying ht,Instr.slice,Instr.sliceBounds,Sem.run_bind,NH j _ h.1,NH cap _ (BA h.2.1 h.2.2),Fc hi],(hs.cut X).pre _⟩
def pQ{l c:Y}(hu:P.underlying t=J (.slice e))(hx:ev U x=J (.slice Aa l c))(hy:ev U y=J (.slice Aa 0 0)):EX P n U (.binOp .eql t x y T) ty w (.bool Af) w:=
 FP hx hy (by rfl) (Tf Z (fun d=>by simp[Op.equalIn,run_underlying hu,Sem.run_bind]))
def pR{a:AB}{l c:Y}(hu:P.underlying t=J (.slice e))(hx:ev U x=J (.slice (J a) l c))(hy:ev U y=J (.slice Aa 0 0)):EX P n U (.binOp .eql t x y T) ty w (.bool Ai) w:=
 FP hx hy (by rfl) (Tf Z (fun d=>by simp[Op.equalIn,run_underlying hu,Sem.run_bind]))
end
def Bn.ne{w:Ad}{B T m s n b:Y}{v:Ah}{xs l:Bl}(h:Bn w B T s v n xs)(r:Bk w b m l)(a:T≠m):∀k,Pi v=J k->b≠k:=by
 intro k f;rcases h.2 with⟨rfl,_⟩|⟨g,cap,rest,rfl,_,o,_⟩
 .simp[Pi]at f
 .simp[Pi]at f;subst f;exact r.ne o (Ne.symm a)
def Bn.one{w:Ad}{B T s n:Y}{v:Ah}{xs:Bl}(h:Bn w B T s v n xs):v.oneCell'=Af:=by
 rcases h.2 with⟨rfl,_⟩|⟨g,cap,rest,rfl,_⟩<;>rfl
def Bn.K{w:Ad}{B T s n:Y}{v:Ah}{xs:Bl}(h:Bn w B T s v n xs):∀k,Pi v=J k->B<=k/\∃l,Bk w k T l:=by
 intro k a;rcases h.2 with⟨rfl,_⟩|⟨g,cap,rest,rfl,m,f,_⟩
 .simp[Pi]at a
 .simp[Pi]at a;grind
section
variable{P:AC}{R:AE->Ad->Prop}{ops:Ap AG}{rest:Ae AG}{k:Ae KI}{n:Y}{U:BG}{w:Ad}{x y lo hi':AD}{t t' e ty T:Aw}{pos:AJ}{after:Ap Edge}{gd:Av (Y×Ar)}{d:Y}{v z:Ah}{bs B len cap i j g:Y}{l xs:Bl}{kk k2:AK}{s:Bg}
def rF(m:BJ ops U gd=J Af)(o:BK d n=Af)(ht:P.underlying t=J (.slice e))(hi:TI P e z 1 bs)(hx:ev U x=J v)(hl:ev U hi'=J (.int kk (j:H)))(a:Bn w B e 1 v len xs)(h:j<=len)
 (f:∀v',Bn w B e 1 v' j (xs.take j)->Pi v'=Pi v->OW P R ops rest k n ((d,v')::U) w):OW P R ops (⟨J d,.slice t x Aa (J hi') Aa,ty,pos,after,gd⟩::rest) k n U w:=by
 obtain⟨v',D,A,r⟩:=qv (P:=P) (n:=n) (ty:=ty) ht hi hx hl a h;exact OW.val m o D (f _ A r)
def Xj{A:Av AB}(r:BJ ops U gd=J Af)(D:BK d n=Af)(ht:P.underlying t=J (.slice e))(hi:TI P e z 1 bs)(hx:ev U x=J (.slice A len cap))(hl:ev U lo=J (.int kk (i:H)))(o:ev U hi'=J (.int k2 (j:H)))(h:i<=j/\j<=len/\len<=cap)(f:Sl w B A xs)(a:Alz xs=len)
 (m:∀A',Sl w B A' ((xs.drop i).take (j-i))->OW P R ops rest k n ((d,.slice A' (j-i) (cap-i))::U) w):OW P R ops (⟨J d,.slice t x (J lo) (J hi') Aa,ty,pos,after,gd⟩::rest) k n U w:=by
 obtain⟨A',G,E⟩:=qy (P:=P) (n:=n) (ty:=ty) ht hi hx hl o h f a;exact OW.val r D G (m _ E)
def rA{G ki:AK}{m o:Y}(L:BJ ops U gd=J Af)(N:BK d n=Af)(ht:P.underlying t=J (.slice e))(hk:P.underlying t'=J (.int G))(hi:TI P e z 1 bs)(r:z.oneCell'=Af)
 (hx:ev U x=J v) (I:ev U y=J (.int ki (m:H))) (f:Bn w 0 e 1 v o xs) (hm:0<m)
 (D:o+m<=maxLen) (a:(o+m)*bs<=140737488355328)
 (h:∀v' w',Bn w' 0 e 1 v' (o+m) (xs++BH m z)->w.grownBy w' (Pi v)->(Pi v'=Pi v∨Pi v'=J w.heap.size)->OW P R ops rest k n ((d,v')::U) w'):
 OW P R ops (⟨J d,.call { callee:=.builtin .append,args:=#[x,y],argTypes:=#[t,t'] },ty,pos,after,gd⟩::rest) k n U w:=by
 obtain⟨v',w',K,W,V,S⟩:=ni (P:=P) (w:=w) (ty:=ty) (ki:=ki) 0 t' hk ht hi r f D a X hm;refine OW.val L N (v:=v') (w':=w') ?_ Bf;intro A E Q pos after gd;simp[execOp,resolve,invoke,builtin,Sem.run_bind,Sem.run_pure,Result.andThen_ok,GC,Cm,Em,E.ev hx,E.ev I,K]
def rD(N:BJ ops U gd=J Af)(Q:BK d n=Af)(ht:P.underlying t=J (.slice e))(a:P.underlying t'=J .string)(hi:TI P e z 1 bs)(hx:ev U x=J (.slice (J ⟨g,i,Aa⟩) len cap))(G:ev U y=J (str s))(I:Alz s<=len)(S:Bk w g T l)(hl:i+Alz s<=Alz l)
 (L:∀w',Bk w' g T (l.take i++BI s++l.drop (i+Alz s))->Mo w w' [g]->OW P R ops rest k n ((d,.int .i64 (Alz s:H))::U) w'):
 OW P R ops (⟨J d,.call { callee:=.builtin .copy,args:=#[x,y],argTypes:=#[t,t'] },ty,pos,after,gd⟩::rest) k n U w:=by
 obtain⟨w',K,D,r⟩:=Rf P w g i T (BI s) 0 l w S (by simpa[BI]using hl) UC;have f:=(Src.Aky (w:=w) a s).cells;have m:=(Src.Aky (w:=w) a s).len;refine OW.val N Q ?_ (L _ (by simpa[BI]using D) (Mo.grown r Bh));intro A E V pos after gd;have h:Nat.min (Alz s) len=Alz s:=Hi I;have o:=Fc (w:=w) hi;simp[execOp,resolve,invoke,builtin,Sem.run_bind,Sem.run_pure,Result.andThen_ok,GC,Cm,Em,E.ev hx,E.ev G];simp[Builtin.copy_,run_underlying ht,m,o,h,f,K,goInt]
end
def Tm(w w':Ad)(B:Y)(p:Aw->Ar):Prop:=∃S,Mo w w' S/\∀k∈S,B<=k/\∃T l,Bk w k T l/\p T=Af
section
variable{w w' w'':Ad}{B C:Y}{p q:Aw->Ar}{b:Y}{T:Aw}{l:Bl}
def Tm.refl(w:Ad)(B:Y)(p:Aw->Ar):Tm w w B p:=⟨[],Mo.refl _ _,Bh⟩
def Tm.Akj(h:Be w w')(B:Y)(p:Aw->Ar):Tm w w' B p:=⟨[],Mo.Akj h _,Bh⟩
def Tm.mono(h:Tm w w' B p)(a:∀T,p T=Af->q T=Af):Tm w w' B q:=by
 obtain⟨S,f,o⟩:=h;exact⟨S,f,fun k m=>let ⟨h1,T,l,h2,h3⟩:=o k m;⟨h1,T,l,h2,a T h3⟩⟩
def Tm.size(h:Tm w w' B p):w.heap.size<=w'.heap.size:=by obtain⟨_,a,_⟩:=h;exact a.size
def Tm.trans(h:Tm w w' B p)(k:Tm w' w'' B p):Tm w w'' B p:=by
 obtain⟨S,r,I⟩:=h;obtain⟨S',f,o⟩:=k;refine⟨S++S'.filter (fun k=>decide (k<w.heap.size)),?_,fun k a=>?_⟩
 .refine((r.mono (S':=S++S') Bf).trans (f.mono Bf)).fresh fun k a m=>?_;grind
 .by_cases G:k∈S
  .grind
  .rcases CW.1 a with a|a
   .grind
   .obtain⟨a,m⟩:=Km.1 a;obtain⟨E,T,l,D,A⟩:=o k a;exact⟨E,T,l,D.of_block (r.block k Bf G).symm,A⟩
def Tm.bk(h:Tm w w' B p)(a:Bk w b T l)(D:p T=Ai):Bk w' b T l:=by
 obtain⟨S,f,o⟩:=h;refine a.j f fun m=>?_;obtain⟨_,T',A,r,E⟩:=o b m;obtain⟨rfl,_⟩:=a.det r;grind
def Tm.y{s n:Y}{v:Ah}{xs:Bl}(h:Tm w w' B p)(f:Bn w C T s v n xs)(I:p T=Ai):Bn w' C T s v n xs:=by
 obtain⟨S,m,r⟩:=h;refine f.j m fun k o a=>?_;obtain⟨_,T',G,D,K⟩:=r k a;obtain⟨_,E,A⟩:=f.K k o;obtain⟨rfl,_⟩:=A.det D;grind
def Tm.below{a:Ad}(m:Below C a w)(h:Tm w w' B p)(o:C<=w.heap.size)(A:C<=B):Below C a w':=by
 obtain⟨S,f,r⟩:=h;exact Bp m f o Bf
def Tm.set(hb:Bk w b T l)(hm:Mo w w' [b])(hB:B<=b):Tm w w' B (fun j8=>j8==T):=⟨[b],hm,Bf⟩
def Tm.grown{s n:Y}{v:Ah}{xs:Bl}(ho:Bn w B T s v n xs)(hg:w.grownBy w' (Pi v)):Tm w w' B (fun j8=>j8==T):=⟨v.ownBlock.toList,Mo.grown hg Bh,fun k hk=>by
 obtain⟨h1,l,h2⟩:=ho.K k Bf;grind⟩
def Tm.Akw{s n:Y}{v:Ah}{xs:Bl}(ho:Bn w B T s v n xs)(hm:Mo w w' v.ownBlock.toList):Tm w w' B (fun j8=>j8==T):=⟨v.ownBlock.toList,hm,fun k hk=>by
 obtain⟨h1,l,h2⟩:=ho.K k Bf;grind⟩
def Bn.base{s n:Y}{v:Ah}{xs:Bl}(h:Bn w C T s v n xs)(a:∀k,Pi v=J k->B<=k):Bn w B T s v n xs:=by
 refine⟨h.1,?_⟩;rcases h.2 with f|⟨g,cap,rest,rfl,_,r⟩
 .grind
 .exact .inr ⟨g,_,_,Z,a g Z,r⟩
end
def GW(P:AC)(R:AE->Ad->Prop)(ops:Ap AG)(S:Ad->Prop)(fuel:Y)(listed:Ap Ar)(k:Ae KI)(n:Y)(U:BG)(w:Ad):Prop:=
 ∀a,Fr n U a->wpAnyH P .any ops (DP P R k) S fuel listed a w
section
variable{P:AC}{R:AE->Ad->Prop}{ops:Ap AG}{S:Ad->Prop}{fuel:Y}{listed:Ap Ar}{k:Ae KI}{n:Y}{U:BG}{w w':Ad}
def SS{c:Ae PanicEntry}:∀(k:Ae KI) (a:AE) (w:Ad),DP P R k (.panic c) a w->False
 |[],_,_,h=>h
 |.code _::k,a,w,h=>SS k a w h
 |.blk _::k,a,w,h=>SS k a w h
 |.asr _::k,a,w,h=>SS k a w h
def PR{id N:Y}{l:Ae AG}(S:Ad->Prop)(hm:P.follows .mixedOrders=Af)(e:l.toArray.size=N)(h:GW P R l.toArray S N (Jv N Ai) k n U w.drew):KW P R (.code (.region id l.toArray Af)::k) n U w:=fun a d=>by
 subst e;exact wp_region_held hm (h a d)
def GW.val(i:Y){d:Y}{op:Op}{ty:Aw}{e:AJ}{after:Ap Edge}{g:Av (Y×Ar)}{v:Ah}(hi:ops[i]? =J ⟨J d,op,ty,e,after,g⟩)(l:Region.noSelect ops=Af)(hf:Region.free .any ops listed i=Af)(m:(Region.ready .any ops listed).contains i=Af)
 (p:BJ ops U g=J Af) (r:BK d n=Af) (t:S w) (he:∀w',S w'->EX P n U op ty w' v w')
 (h:GW P R ops S fuel (listed.setIfInBounds i Af) k n ((d,v)::U) w):GW P R ops S (fuel+1) listed k n U w:=fun a j=>
 wpAnyH_take hi l hf m (fun c a w q=>(SS k _ _ q).elim) (.inl ⟨IL j (o:=⟨J d,op,ty,e,after,g⟩) p,fun w' f=>he w' f a j _ _ _ _⟩) t (h _ (j.put r v))
def qF(i:Y){d:Y}{op:Op}{ty:Aw}{e:AJ}{after:Ap Edge}{g:Av (Y×Ar)}(hi:ops[i]? =J ⟨J d,op,ty,e,after,g⟩)(j:Region.noSelect ops=Af)(hf:Region.free .any ops listed i=Af)(l:(Region.ready .any ops listed).contains i=Af)
 (m:BJ ops U g=J Ai) (p:BK d n=Af) (r:S w)
 (h:GW P R ops S fuel (listed.setIfInBounds i Af) k n ((d,undef)::U) w):GW P R ops S (fuel+1) listed k n U w:=fun a f=>
 wpAnyH_take hi j hf l (fun c a w q=>(SS k _ _ q).elim) (.inr ⟨IL f (o:=⟨J d,op,ty,e,after,g⟩) m,Z⟩) r (h _ (f.put p undef))
def WD(i:Y){o:AG}(hi:ops[i]? =J o)(e:Region.ready .any ops listed=[i])(f:BJ ops U o.guard=J Af)
 (h:∀a,Fr n U a->o.wp P a w (fun a' w'=>S w'/\wpAnyH P .any ops (DP P R k) S fuel (listed.setIfInBounds i Af) a' w') (DP P R k)):GW P R ops S (fuel+1) listed k n U w:=fun a g=>
 wpAnyH_all e Bh fun j d=>by
  simp at d;subst d;unfold wpOp;simp[hi,IL g f,if_true];grind
def dw(i:Y){d:Y}{op:Op}{ty:Aw}{pos:AJ}{after:Ap Edge}{g:Av (Y×Ar)}{f:FuncId}{args:Bl}{Q:Ah->Ad->Prop}(hi:ops[i]? =J ⟨J d,op,ty,pos,after,g⟩)(hr:Region.ready .any ops listed=[i])
 (hg:BJ ops U g=J Af) (hd:BK d n=Af) (he:EC P n U op ty w f args.toArray) (hc:Bm P f args w Q)
 (h:∀v w',Q v w'->S w'/\(S w'->GW P R ops S fuel (listed.setIfInBounds i Af) k n ((d,v)::U) w')):GW P R ops S (fuel+1) listed k n U w:=
 WD i hi hr hg fun a ha=>by
  have h1:=he a ha (J d) pos after g;unfold Oper.wp;rw[h1];refine hc.2.mono fun e w''⟨v,he,q⟩=>?_;subst he;obtain⟨h2,h3⟩:=h v w'' q;exact⟨h2,h3 h2 _ (ha.put hd v)⟩
def GW.call(i:Y){d:Y}{f:FuncId}{xs:Ae AD}{e:Ap Aw}{ty:Aw}{a:AJ}{after:Ap Edge}{g:Av (Y×Ar)}{vs:Bl}{Q:Ah->Ad->Prop}
 (hi:ops[i]? =J ⟨J d,.call { callee:=.value (.func f),args:=xs.toArray,argTypes:=e },ty,a,after,g⟩) (l:Region.ready .any ops listed=[i])
 (m:BJ ops U g=J Af) (o:BK d n=Af) (hx:evs U xs=J vs) (j:Bm P f vs w Q)
 (h:∀v w',Q v w'->S w'/\(S w'->GW P R ops S fuel (listed.setIfInBounds i Af) k n ((d,v)::U) w')):GW P R ops S (fuel+1) listed k n U w:=by
 obtain⟨⟨r,q,p⟩,_⟩:=id j;exact dw i hi l m o (RB q p hx) j h
def GW.new(i:Y){d:Y}{op:Op}{ty:Aw}{pos:AJ}{after:Ap Edge}{g:Av (Y×Ar)}{v:Ah}(hi:ops[i]? =J ⟨J d,op,ty,pos,after,g⟩)(hr:Region.ready .any ops listed=[i])
 (hg:BJ ops U g=J Af) (hd:BK d n=Af) (he:EX P n U op ty w v w') (h:S w'/\(S w'->GW P R ops S fuel (listed.setIfInBounds i Af) k n ((d,v)::U) w')):GW P R ops S (fuel+1) listed k n U w:=
 WD i hi hr hg fun a ha=>by
  have h1:=he a ha (J d) pos after g;unfold Oper.wp;rw[h1];exact⟨h.1,h.2 h.1 _ (ha.put hd v)⟩
def dx(i:Y){op:Op}{ty:Aw}{pos:AJ}{after:Ap Edge}{g:Av (Y×Ar)}(hi:ops[i]? =J ⟨Aa,op,ty,pos,after,g⟩)(hr:Region.ready .any ops listed=[i])
 (hg:BJ ops U g=J Af) (he:EU P n U op ty w w') (h:S w'/\(S w'->GW P R ops S fuel (listed.setIfInBounds i Af) k n U w')):GW P R ops S (fuel+1) listed k n U w:=
 WD i hi hr hg fun a ha=>by
  have h1:=he a ha Aa pos after g;unfold Oper.wp;rw[h1];exact⟨h.1,h.2 h.1 _ ha⟩
def dy(i:Y){x y:AD}{T T' ty:Aw}{pos:AJ}{after:Ap Edge}{g:Av (Y×Ar)}{b o bs:Y}{v z:Ah}{l:Bl}(hi:ops[i]? =J ⟨Aa,.store T x y,ty,pos,after,g⟩)(hr:Region.ready .any ops listed=[i])
 (hg:BJ ops U g=J Af) (ht:TI P T z 1 bs) (hx:ev U x=J (.pointer (J ⟨b,o,Aa⟩))) (hy:ev U y=J v) (h1:v.oneCell'=Af) (hb:Bk w b T' l) (hlt:o<Alz l)
 (h:∀w',Bk w' b T' (l.set o v)->Mo w w' [b]->S w'/\(S w'->GW P R ops S fuel (listed.setIfInBounds i Af) k n U w')):GW P R ops S (fuel+1) listed k n U w:=
 dx i hi hr hg (RC ht hx hy h1 hb hlt) (h _ (hb.set o v) (Mo.set w b o v))
def dz(i:Y){x y:AD}{T f ty:Aw}{a:AJ}{after:Ap Edge}{g:Av (Y×Ar)}{b o s bs:Y}{z:Ah}{l vs:Bl}(hi:ops[i]? =J ⟨Aa,.store T x y,ty,a,after,g⟩)(p:Region.ready .any ops listed=[i])
 (q:BJ ops U g=J Af) (ht:TI P T z s bs) (hx:ev U x=J (.pointer (J ⟨b,o,Aa⟩))) (j:ev U y=J (.agg vs.toArray)) (m:Alz vs=s) (h1:vs.all (·.oneCell')=Af) (t:Bk w b f l) (hlt:o+Alz vs<=Alz l)
 (h:∀w',Bk w' b f (l.take o++vs++l.drop (o+Alz vs))->Mo w w' [b]->S w'/\(S w'->GW P R ops S fuel (listed.setIfInBounds i Af) k n U w')):GW P R ops S (fuel+1) listed k n U w:=by
 obtain⟨w',r,e,d⟩:=Ty (P:=P) (n:=n) (ty:=ty) ht hx j m h1 t hlt;exact dx i hi p q r (h _ e (Mo.grown d Bh))
def GO(P:AC)(R:AE->Ad->Prop)(ops:Ap AG)(S:Ad->Prop)(fuel:Y)(listed:Ap Ar)(k:Ae KI)(n:Y)(U:BG)(w:Ad)(i:Y):Prop:=
 ∀a,Fr n U a->wpOp P ops (DP P R k) i (fun a' w'=>S w'/\wpAnyH P .any ops (DP P R k) S fuel (listed.setIfInBounds i Af) a' w') a w
def GW.two(i j:Y)(f:Region.ready .any ops listed=[i,j])(h1:GO P R ops S fuel listed k n U w i)(h2:GO P R ops S fuel listed k n U w j):GW P R ops S (fuel+1) listed k n U w:=fun a e=>
 wpAnyH_all f Bh fun q d=>by
  simp at d;rcases d with rfl|rfl
  .exact h1 a e
  .exact h2 a e
def pF{S':Ad->Prop}{Q:AP->AE->Ad->Prop}(hS:∀w,S' w->S w):∀(fuel:Y) (listed:Ap Ar) (a:AE) (w:Ad),wpAnyH P .any ops Q S' fuel listed a w->wpAnyH P .any ops Q S fuel listed a w
 |0,_,_,_,h=>h
 |fuel+1,_,_,_,h=>⟨h.1,fun i hi=>wpOp_mono (fun a' w' h'=>⟨hS _ h'.1,pF hS fuel _ a' w' h'.2⟩) (h.2 i hi)⟩
def JB(S':Ad->Prop)(e:∀w,S' w->S w)(h:GW P R ops S' fuel listed k n U w):GW P R ops S fuel listed k n U w:=fun a d=>pF e fuel listed a w (h a d)
def GW.as(t:Y)(d:Ah){v:Ah}(ht:lk U t=J v)(e:v=d)(h:GW P R ops S fuel listed k n ((t,d)::U) w):GW P R ops S fuel listed k n U w:=fun a f=>
 OW.as (P:=P) (R:=R) (ops:=#[]) (l:=[]) (k:=[.asr fun a w=>wpAnyH P .any ops (DP P R k) S fuel listed a w]) t d ht e Ck a f
def WB(i:Y){o:AG}(hi:ops[i]? =J o)(d:BJ ops U o.guard=J Af)
 (h:∀a,Fr n U a->o.wp P a w (fun a' w'=>S w'/\wpAnyH P .any ops (DP P R k) S fuel (listed.setIfInBounds i Af) a' w') (DP P R k)):GO P R ops S fuel listed k n U w i:=fun a e=>by
 unfold wpOp;simp[hi,IL e d,if_true];grind
def qD(i:Y){d:Y}{op:Op}{ty:Aw}{pos:AJ}{after:Ap Edge}{g:Av (Y×Ar)}{f:FuncId}{args:Bl}{Q:Ah->Ad->Prop}(hi:ops[i]? =J ⟨J d,op,ty,pos,after,g⟩)
 (hg:BJ ops U g=J Af) (hd:BK d n=Af) (he:EC P n U op ty w f args.toArray) (hc:Bm P f args w Q)
 (h:∀v w',Q v w'->S w'/\(S w'->GW P R ops S fuel (listed.setIfInBounds i Af) k n ((d,v)::U) w')):GO P R ops S fuel listed k n U w i:=
 WB i hi hg fun a ha=>by
  have h1:=he a ha (J d) pos after g;unfold Oper.wp;rw[h1];refine hc.2.mono fun e w''⟨v,he,q⟩=>?_;subst he;obtain⟨h2,h3⟩:=h v w'' q;exact⟨h2,h3 h2 _ (ha.put hd v)⟩
def GO.call(i:Y){d:Y}{f:FuncId}{xs:Ae AD}{e:Ap Aw}{ty:Aw}{a:AJ}{after:Ap Edge}{g:Av (Y×Ar)}{vs:Bl}{Q:Ah->Ad->Prop}
 (hi:ops[i]? =J ⟨J d,.call { callee:=.value (.func f),args:=xs.toArray,argTypes:=e },ty,a,after,g⟩)
 (l:BJ ops U g=J Af) (m:BK d n=Af) (hx:evs U xs=J vs) (j:Bm P f vs w Q)
 (h:∀v w',Q v w'->S w'/\(S w'->GW P R ops S fuel (listed.setIfInBounds i Af) k n ((d,v)::U) w')):GO P R ops S fuel listed k n U w i:=by
 obtain⟨⟨q,p,o⟩,_⟩:=id j;exact qD i hi l m (RB p o hx) j h
def GO.new(i:Y){d:Y}{op:Op}{ty:Aw}{pos:AJ}{after:Ap Edge}{g:Av (Y×Ar)}{v:Ah}(hi:ops[i]? =J ⟨J d,op,ty,pos,after,g⟩)
 (hg:BJ ops U g=J Af) (hd:BK d n=Af) (he:EX P n U op ty w v w') (h:S w'/\(S w'->GW P R ops S fuel (listed.setIfInBounds i Af) k n ((d,v)::U) w')):GO P R ops S fuel listed k n U w i:=
 WB i hi hg fun a ha=>by
  have h1:=he a ha (J d) pos after g;unfold Oper.wp;rw[h1];exact⟨h.1,h.2 h.1 _ (ha.put hd v)⟩
def qE(i:Y){op:Op}{ty:Aw}{pos:AJ}{after:Ap Edge}{g:Av (Y×Ar)}(hi:ops[i]? =J ⟨Aa,op,ty,pos,after,g⟩)
 (hg:BJ ops U g=J Af) (he:EU P n U op ty w w') (h:S w'/\(S w'->GW P R ops S fuel (listed.setIfInBounds i Af) k n U w')):GO P R ops S fuel listed k n U w i:=
 WB i hi hg fun a ha=>by
  have h1:=he a ha Aa pos after g;unfold Oper.wp;rw[h1];exact⟨h.1,h.2 h.1 _ ha⟩
def dt(i:Y){x y:AD}{T T' ty:Aw}{pos:AJ}{after:Ap Edge}{g:Av (Y×Ar)}{b o bs:Y}{v z:Ah}{l:Bl}(hi:ops[i]? =J ⟨Aa,.store T x y,ty,pos,after,g⟩)
 (hg:BJ ops U g=J Af) (ht:TI P T z 1 bs) (hx:ev U x=J (.pointer (J ⟨b,o,Aa⟩))) (hy:ev U y=J v) (h1:v.oneCell'=Af) (hb:Bk w b T' l) (hlt:o<Alz l)
 (h:∀w',Bk w' b T' (l.set o v)->Mo w w' [b]->S w'/\(S w'->GW P R ops S fuel (listed.setIfInBounds i Af) k n U w')):GO P R ops S fuel listed k n U w i:=
 qE i hi hg (RC ht hx hy h1 hb hlt) (h _ (hb.set o v) (Mo.set w b o v))
def du(i:Y){d:Y}{T ty:Aw}{pos:AJ}{after:Ap Edge}{g:Av (Y×Ar)}{z:Ah}{s bs:Y}{l:Bl}(hi:ops[i]? =J ⟨J d,.alloc T,ty,pos,after,g⟩)(hr:Region.ready .any ops listed=[i])(hg:BJ ops U g=J Af)(hd:BK d n=Af)(ht:TI P T z s bs)(hl:z.cells.toList=l)
 (h:∀b w',w.heap.size<=b->Bk w' b T l->Be w w'->S w'/\(S w'->GW P R ops S fuel (listed.setIfInBounds i Af) k n ((d,.pointer (J ⟨b,0,Aa⟩))::U) w')):GW P R ops S (fuel+1) listed k n U w:=
 GW.new i hi hr hg hd (EX.alloc ht hl) (h _ _ X (Bk.new w T l) (Be.alloc w _))
def PP(i:Y)(len:Y){d:Y}{T e ty:Aw}{pos:AJ}{after:Ap Edge}{g:Av (Y×Ar)}{z:Ah}{bs:Y}{BN:Ap (Y×AD)}{vs:Bl}(hi:ops[i]? =J ⟨J d,.buildSlice T len BN,ty,pos,after,g⟩)(hr:Region.ready .any ops listed=[i])(hg:BJ ops U g=J Af)(hd:BK d n=Af)(ht:P.underlying T=J (.slice e))(hti:TI P e z 1 bs)(hz1:z.oneCell'=Af)
 (hv:evs U (BN.toList.map (·.2))=J vs) (hp:BN.toList.map (·.1)=Hh 0 (Alz BN.toList)) (hl:Alz vs=len) (h1:vs.all (·.oneCell')=Af) (hlen:len<=16777216)
 (h:∀b w',w.heap.size<=b->Bk w' b e vs->Be w w'->S w'/\(S w'->GW P R ops S fuel (listed.setIfInBounds i Af) k n ((d,.slice (J ⟨b,0,Aa⟩) len len)::U) w')):GW P R ops S (fuel+1) listed k n U w:=
 GW.new i hi hr hg hd (EX.buildSlice len ht hti hz1 hv hp hl h1 hlen) (h _ _ X (Bk.new w e vs) (Be.alloc w _))
def dr(i:Y){d:Y}{T ty:Aw}{pos:AJ}{after:Ap Edge}{g:Av (Y×Ar)}{z:Ah}{s bs:Y}{l:Bl}(hi:ops[i]? =J ⟨J d,.alloc T,ty,pos,after,g⟩)(hg:BJ ops U g=J Af)(hd:BK d n=Af)(ht:TI P T z s bs)(hl:z.cells.toList=l)
 (h:∀b w',w.heap.size<=b->Bk w' b T l->Be w w'->S w'/\(S w'->GW P R ops S fuel (listed.setIfInBounds i Af) k n ((d,.pointer (J ⟨b,0,Aa⟩))::U) w')):GO P R ops S fuel listed k n U w i:=
 GO.new i hi hg hd (EX.alloc ht hl) (h _ _ X (Bk.new w T l) (Be.alloc w _))
def JA(i:Y)(len:Y){d:Y}{T e ty:Aw}{pos:AJ}{after:Ap Edge}{g:Av (Y×Ar)}{z:Ah}{bs:Y}{BN:Ap (Y×AD)}{vs:Bl}(hi:ops[i]? =J ⟨J d,.buildSlice T len BN,ty,pos,after,g⟩)(hg:BJ ops U g=J Af)(hd:BK d n=Af)(ht:P.underlying T=J (.slice e))(hti:TI P e z 1 bs)(hz1:z.oneCell'=Af)
 (hv:evs U (BN.toList.map (·.2))=J vs) (hp:BN.toList.map (·.1)=Hh 0 (Alz BN.toList)) (hl:Alz vs=len) (h1:vs.all (·.oneCell')=Af) (hlen:len<=16777216)
 (h:∀b w',w.heap.size<=b->Bk w' b e vs->Be w w'->S w'/\(S w'->GW P R ops S fuel (listed.setIfInBounds i Af) k n ((d,.slice (J ⟨b,0,Aa⟩) len len)::U) w')):GO P R ops S fuel listed k n U w i:=
 GO.new i hi hg hd (EX.buildSlice len ht hti hz1 hv hp hl h1 hlen) (h _ _ X (Bk.new w e vs) (Be.alloc w _))
def GW.done(d:Region.ready .any ops listed=[])(h:KW P R k n U w):GW P R ops S fuel listed k n U w:=fun a e=>wpAnyH_done d (h a e) fuel
end
section
variable{P:AC}{n:Y}{U:BG}{w:Ad}{x y:AD}{t e ty T T':Aw}{b o:Y}{z v:Ah}{s bs:Y}{l:Bl}
def LO{fs:Ap Field}{BN:Ap (Y×AD)}{pl:Ae (Y×Y)}{ks:Bj}{vs zs:Bl}(i:P.underlying t=J (.struct fs))(hi:TI P t (.agg zs.toArray) s bs)(j:places P fs.toList=J pl)
 (hk:BN.toList.map (·.1)=ks) (hv:evs U (BN.toList.map (·.2))=J vs) (hf:Instr.fill (pl.toArray[·]?) zs.toArray (ks.zip vs)=J l.toArray):
 EX P n U (.build t BN) ty w (.agg l.toArray) w:=fun A q r pos after g=>by
 have h:=q.evs hv
 have a:(BN.map fun p=>(p.1,A.eval p.2)).toList=ks.zip vs:=by
  rw[<-hk,<-h];simp only[Array.toList_map,EV,List.zip_map'];rfl
 have m:(fs.mapM fun f=>(do pure (f.offset,<-sizeOf f.type):Sem (Y×Y))).run P w=.ok pl.toArray w:=by
  have:=aT (w:=w) _ _ j;rw[List.mapM_toArray,map_eq_pure_bind,Sem.run_bind,this];rfl
 simp only[execOp,Instr.build,Sem.run_bind,NI hi,Result.andThen_ok,run_underlying i,m];rw[show(BN.map _).toList=ks.zip _ from a];rw[show((Value.agg _).cells)=zs.toArray from Z,hf];rfl
inductive FEqs(P:AC)(w:Ad)(xs ys:Bl):Ae Field->Ae Ar->Prop
 |nil:FEqs P w xs ys [] []
 |cons {f:Field} {fs:Ae Field} {q:Ar} {qs:Ae Ar} {u v:Ah} {d:TypeDesc} (hn:f.name≠ "_") (hd:P.underlying f.type=J d) (hfl:flat d=Af) (hx:xs[f.offset]? =J u) (hy:ys[f.offset]? =J v)
  (he:∀k,(Op.equalIn (k+1) f.type u v).run P w=.ok q w) (hr:FEqs P w xs ys fs qs):FEqs P w xs ys (f::fs) (q::qs)
def FEqs.run{xs a:Bl}(k:Y):∀{fs:Ae Field} {qs:Ae Ar},FEqs P w xs a fs qs->(Op.eqFields (k+1) xs.toArray a.toArray fs).run P w=.ok (qs.all id) w
 |_,_,.nil=>by rfl
 |f::fs,q::qs,.cons (u:=u) (v:=v) hn hd hfl hx hy he hr=>by
  have h1:(part f.type xs.toArray f.offset).run P w=.ok u w:=by simp[part,Jl hd,hfl,hx]
  have g:(part f.type a.toArray f.offset).run P w=.ok v w:=by simp[part,Jl hd,hfl,hy]
  have h:=FEqs.run k hr;simp only[Op.eqFields];rw[Aj hn];simp only[Sem.run_bind,h1,g,he,Result.andThen_ok];cases q
  .simp
  .grind
def KC{k:AK}{a b:H}(h:P.underlying t=J (.int k))(d:Y):(Op.equalIn (d+1) t (.int k a) (.int k b)).run P w=.ok (decide (a=b)) w:=run_equalIn_int w d t k k a b h
def Nr{a b:Bg}(h:P.underlying t=J .string)(d:Y):(Op.equalIn (d+1) t (str a) (str b)).run P w=.ok (decide (a=b)) w:=by
 have:=run_equalIn_string w d t ⟨⟨a⟩⟩ ⟨⟨b⟩⟩ h;have e:(RA ⟨⟨a⟩⟩==RA ⟨⟨b⟩⟩)=decide (a=b):=by rw[Ry];simp
 grind
def TD{fs:Ap Field}{xs a:Bl}{f:Ae Ar}{r:Ar}(i:P.underlying t=J (.struct fs))(m:P.stoodInHeld t=Ai)(hm:P.eqGuardType P.depth t=Ai)(hx:ev U x=J (.agg xs.toArray))(g:ev U y=J (.agg a.toArray))
 (h:FEqs P w xs a fs.toList f) (j:f.all id=r):EX P n U (.binOp .eql t x y T) ty w (.bool r) w:=by
 subst j;have p:P.fieldsOf t=fs:=by unfold Program.fieldsOf;rw[i]
 refine FP hx g (run_eqGuard_agg w _ t x y _ _ hm) ?_;rw[run_eql_struct,show(10000)=9998+1+1 from Z,run_equalIn_agg w _ t _ _ Bf m,p,h.run];rfl
end
section
variable{P:AC}{fn:Func}{Q:Ah->Ad->Prop}{n:Y}{U:BG}{w:Ad}{k:Ae KI}
def retC2{t u:Y}{T T':Aw}{b s bs:Y}{z x:Ah}{d:TypeDesc}{l:Bl}(g:fn.results=#[.cell t T,.tmp u])(f:P.underlying T=J d)(j:flat d=Ai)(hi:TI P T z s bs)(hv:lk U t=J (.pointer (J ⟨b,0,Aa⟩)))(hx:lk U u=J x)
 (m:Bk w b T' l) (hl:Alz l=s) (i:Q (.tuple #[.agg l.toArray,x]) w):∀a,Fr n U a->bodyPost P fn (fun e w'=>∃v,e=.returned v/\Q v w') .ret a w:=
 MH (fun a ha=>by
  have h:=Ke (x:=.tmp t) (ty:=0) f j hi hv m hl a ha Aa "" #[] Aa
  have h1:(loadVar T ⟨b,0,Aa⟩).run P w=.ok (.agg l.toArray) w:=by
   have A:=ha.ev (x:=.tmp t) hv;simp[execOp,Instr.loadAt,Instr.sureAddr,Sem.run_pure]at h;cases hr:(loadVar T _).run P w with
   |ok v w'=>simp_all
   |halt q w'=>simp_all
  rw[results_cell_tmp g];have r:=ha.val t _ hv;have p:=ha.val u _ hx;simp[r,p,asAddr,h1]) i
end
def jl:∀(vs:Bl) (i:Y) (pre post:Bl),Alz pre=i->Alz post=Alz vs->
 (vs.zipIdx i).foldl (fun(cs:Ap Ah) (x:Ah×Y)=>cs.setIfInBounds (0+x.2) x.1) (pre++post).toArray=(pre++vs).toArray
 |[],i,pre,post,_,h=>by
  simp_all
 |v::vs,i,pre,[],_,h=>by grind
 |v::vs,i,pre,p::post,hp,h=>by
  have ih:=jl vs (i+1) (pre++[v]) post Bf Bf;simp_all
section
variable{P:AC}{n:Y}{U:BG}{w w0:Ad}{x y:AD}{t e ty ty1:Aw}{s bs:Y}{R:AE->Ad->Prop}{ops:Ap AG}{rest:Ae AG}{k:Ae KI}{pos pos1:AJ}{after after1:Ap Edge}{gd gd1:Av (Y×Ar)}{d d1:Y}
def Ws{z:Ah}{vs:Bl}(ht:P.underlying t=J (.slice e))(hi:TI P e z s bs)(r:z.cells.size=s)(C:0<s)(L:s<=16777216)(B:ev U y=J (.agg vs.toArray))(hl:Alz vs=s):
 EX P n U (.buildSlice t 1 #[(0,y)]) ty w (.slice (J ⟨w.heap.size,0,Aa⟩) 1 1) (w.alloc (.cells vs.toArray e)):=fun A I K pos after g=>by
 have m:=I.ev B;have E:¬(1*s>2 ^ 24):=X;have h:¬(1*s=0):=X;generalize a:((Array.range (1*s)).map fun j=>z.cells[j%z.cells.size]!)=zz;have f:zz.size=s:=by rw[<-a];simp
 have G:Instr.fill (fun i=>J (i*s,s)) zz [(0,.agg vs.toArray)]=J vs.toArray:=by
  obtain⟨q⟩:=zz;have p:=by simpa using f
  have S:=jl vs 0 [] q Z X;simp only[Instr.fill,Value.cells,List.size_toArray];simp only[Rz,decide_eq_true_eq];grind
 simp only[execOp,Sem.run_bind]
 have N:(Instr.buildSlice t 1 (#[(0,y)].map fun x=>(x.1,A.eval x.2))).run P w=.ok (.slice (J ⟨w.heap.size,0,Aa⟩) 1 1) (w.alloc (.cells vs.toArray e)):=by
  have D:(#[(0,y)].map fun x=>(x.1,A.eval x.2))=#[(0,Value.agg vs.toArray)]:=by simp[m]
  rw[D];simp only[Instr.buildSlice,Sem.run_bind,run_underlying ht,Fc hi,Result.andThen_ok,Ag E,Ag h,Sem.run_pure,NI hi,a,G];simp[newRow,Sem.run]
 simp_all
def rH{z:Ah}(B:BJ ops U gd1=J Af)(C:BK d1 n=Af)(L:∀u,BJ ops ((d1,u)::U) gd=J Af)(N:BK d n=Af)(ht:P.underlying t=J (.slice e))(hi:TI P e z s bs)(g:z.cells.size=s)(f:0<s)(I:s<=16777216)
 {v:Ah} {vs:Bl} {l:Y} {xs:Bl} (G:ev U y=J (.agg vs.toArray)) (hl:Alz vs=s) (hx:∀q,ev ((d1,q)::U) x=J v) (W:vs.all (·.oneCell')=Af) (m:Be w0 w) (i:Bn w w0.heap.size e s v l xs)
 (D:l+1<=maxLen) (a:(l+1)*bs<=140737488355328)
 (h:∀q v' w',Bn w' w0.heap.size e s v' (l+1) (xs++vs)->Be w0 w'->w.grownBy w' (Pi v)->OW P R ops rest k n ((d,v')::(d1,q)::U) w'):
 OW P R ops (⟨J d1,.buildSlice t 1 #[(0,y)],ty1,pos1,after1,gd1⟩::⟨J d,.call { callee:=.builtin .append,args:=#[x,.tmp d1],argTypes:=#[t,t] },ty,pos,after,gd⟩::rest) k n U w:=by
 refine OW.val B C (Ws ht hi g f I G hl) ?_;have r:Be _ (w.alloc (.cells vs.toArray e)):=m.trans (Be.alloc w _);have E:=Bk.new w e vs;refine HM (L _) N ht hi g f (hx _) (OX _ _ _) r (i.alloc _) (Src.Akm ht (Sl.Akk E E.lt) X Bf f) D a ?_;intro v' w' V S p h4;refine h _ _ _ V S ⟨p.os,p.tape,p.output,by have:=p.size;simp_all;omega,fun j K A=>?_⟩;rw[p.block j Bv A];exact Below.heap_alloc w _ j K
end
def SD{α:Type}{cells:α->Bl}{c:Y}(hc:∀a,Alz (cells a)=c):∀(l:Ae α) (i j:Y) (hi:i<Alz l) (u:Ah),(cells l[i])[j]? =J u->(l.flatMap cells)[i*c+j]? =J u
 |a::l,0,j,hi,u,hu=>by
  grind
 |a::l,i+1,j,hi,u,hu=>by
  rw[Gk,Io Bf,hc,show(i+1)*c+j-c=i*c+j by grind];exact SD hc l i j _ u hu
def Sl.flat{α:Type}{cells:α->Bl}{c:Y}{w:Ad}{B:Y}{A:Av AB}{l:Ae α}(h:Sl w B A (l.flatMap cells))(p:∀a,Alz (cells a)=c)(h0:0<c){i:Y}(hi:i<Alz l):
 ∃b o,A=J ⟨b,o,Aa⟩/\b<B/\∀j u,(cells l[i])[j]? =J u->w.cell? ⟨b,o+i*c+j,Aa⟩=J u:=by
 have m:0<Alz (cells l[i]):=by rwa[p]
 have r:0<Alz (l.flatMap cells):=by
  have:=(Li.1 (SD p l i 0 hi _ (BQ m))).1;omega
 obtain⟨b,o,e,v,f⟩:=h.at_ r;exact⟨b,o,e,v,fun j u q=>by rw[Lk];exact f _ _ (SD p l i j _ u q)⟩
def ji(off:Y):∀(vs:Bl) (k:Y) (pre post:Bl),Alz pre=off+k->Alz vs<=Alz post->
 (vs.zipIdx k).foldl (fun(cs:Ap Ah) (x:Ah×Y)=>cs.setIfInBounds (off+x.2) x.1) (pre++post).toArray=(pre++vs++post.drop (Alz vs)).toArray
 |[],k,pre,post,_,_=>by simp
 |v::vs,k,pre,p::post,hp,h=>by
  have ih:=ji off vs (k+1) (pre++[v]) post Bf Bf;simp_all
 |v::vs,k,pre,[],hp,h=>by grind
def gT(s:Y):∀(vss:Ae (Bl)) (i:Y) (pre post:Bl),Alz pre=i*s->(∀v∈vss,Alz v=s)->Alz post=Alz vss*s->
 Instr.fill (fun i=>J (i*s,s)) (pre++post).toArray ((vss.zipIdx i).map fun(v,j)=>(j,Value.agg v.toArray))=J (pre++vss.flatten).toArray
 |[],i,pre,post,hp,_,hl=>by
  have:post=[]:=Im Bf;subst this;rfl
 |v::vss,i,pre,post,hp,h1,hl=>by
  have hv:=h1 v Bh;have hl':Alz post=Alz vss*s+s:=by rw[hl,CF,Qc]
  have a:=gT s vss (i+1) (pre++v) (post.drop s) Bf Bf Bf;have f:=ji (i*s) v 0 _ post X X;simp only[WX,Cm,Instr.fill,Value.cells,List.size_toArray];grind
section
variable{P:AC}{n:Y}{U:BG}{w w0:Ad}{x y:AD}{t e ty T:Aw}{s bs:Y}{R:AE->Ad->Prop}{ops:Ap AG}{rest:Ae AG}{k:Ae KI}{pos:AJ}{after:Ap Edge}{g:Av (Y×Ar)}{d fuel:Y}{S:Ad->Prop}{listed:Ap Ar}
def TC{z:Ah}{BN:Ap (Y×AD)}(len:Y)(a:Ae (Bl))(ht:P.underlying t=J (.slice e))(hi:TI P e z s bs)(C:z.cells.size=s)(E:0<s)
 (hv:evs U (BN.toList.map (·.2))=J (a.map fun v=>Value.agg v.toArray)) (G:BN.toList.map (·.1)=Hh 0 (Alz BN.toList)) (hl:Alz a=len) (h1:∀v∈a,Alz v=s) (o:len*s<=16777216):
 EX P n U (.buildSlice t len BN) ty w (.slice (J ⟨w.heap.size,0,Aa⟩) len len) (w.alloc (.cells a.flatten.toArray e)):=fun A K N pos after g=>by
 have m:(BN.map fun(p:Y×AD)=>(p.1,A.eval p.2)).toList=a.zipIdx.map fun(v,j)=>(j,Value.agg v.toArray):=by
  have L:=K.evs hv;apply He;intro j;have e1:=AF (·[j]?) L;have e2:=AF (·[j]?) G;by_cases V:j<Alz a
  .grind
  .grind
 have I:¬(len*s>2 ^ 24):=X;generalize i:((Array.range (len*s)).map fun j=>z.cells[j%z.cells.size]!)=zz;have D:zz.size=len*s:=by rw[<-i];simp
 obtain⟨B⟩:=zz;have q:=gT s _ 0 [] B Bh h1 Bf;simp at q;simp only[execOp,Sem.run_bind]
 have W:(Instr.buildSlice t len (BN.map fun p=>(p.1,A.eval p.2))).run P w=.ok (.slice (J ⟨w.heap.size,0,Aa⟩) len len) (w.alloc (.cells a.flatten.toArray e)):=by
  simp only[Instr.buildSlice,Sem.run_bind,run_underlying ht,Fc hi,Result.andThen_ok,Ag I,m];by_cases r:len*s=0
  .have f:len=0:=by
    rcases Nat.mul_eq_zero.1 r with h|h
    .omega
    .omega
   subst f;have l:a=[]:=Bf;subst l;simp[Instr.fill,newRow,Array.range_zero']
  .rw[Ag r];simp[NI hi,i,q];rfl
 simp_all
def Mc{z:Ah}{BN:Ap (Y×AD)}(len:Y)(vss:Ae (Bl))(hg:BJ ops U g=J Af)(hd:BK d n=Af)(ht:P.underlying T=J (.slice e))(hi:TI P e z s bs)(hzs:z.cells.size=s)(hs0:0<s)
 (hv:evs U (BN.toList.map (·.2))=J (vss.map fun v=>Value.agg v.toArray)) (hp:BN.toList.map (·.1)=Hh 0 (Alz BN.toList)) (hl:Alz vss=len) (h1:∀v∈vss,Alz v=s) (hlen:len*s<=16777216)
 (h:∀b w',w.heap.size<=b->Bk w' b e vss.flatten->Be w w'->OW P R ops rest k n ((d,.slice (J ⟨b,0,Aa⟩) len len)::U) w'):OW P R ops (⟨J d,.buildSlice T len BN,ty,pos,after,g⟩::rest) k n U w:=
 OW.val hg hd (TC len vss ht hi hzs hs0 hv hp hl h1 hlen) (h _ _ X (Bk.new w e _) (Be.alloc w _))
def GB(i:Y){z:Ah}{BN:Ap (Y×AD)}(len:Y)(vss:Ae (Bl))(hi':ops[i]? =J ⟨J d,.buildSlice T len BN,ty,pos,after,g⟩)(hr:Region.ready .any ops listed=[i])(hg:BJ ops U g=J Af)(hd:BK d n=Af)(ht:P.underlying T=J (.slice e))(hi:TI P e z s bs)(hzs:z.cells.size=s)(hs0:0<s)
 (hv:evs U (BN.toList.map (·.2))=J (vss.map fun v=>Value.agg v.toArray)) (hp:BN.toList.map (·.1)=Hh 0 (Alz BN.toList)) (hl:Alz vss=len) (h1:∀v∈vss,Alz v=s) (hlen:len*s<=16777216)
 (h:∀b w',w.heap.size<=b->Bk w' b e vss.flatten->Be w w'->S w'/\(S w'->GW P R ops S fuel (listed.setIfInBounds i Af) k n ((d,.slice (J ⟨b,0,Aa⟩) len len)::U) w')):GW P R ops S (fuel+1) listed k n U w:=
 GW.new i hi' hr hg hd (TC len vss ht hi hzs hs0 hv hp hl h1 hlen) (h _ _ X (Bk.new w e _) (Be.alloc w _))
def TG(i:Y){z:Ah}{BN:Ap (Y×AD)}(len:Y)(vss:Ae (Bl))(hi':ops[i]? =J ⟨J d,.buildSlice T len BN,ty,pos,after,g⟩)(hg:BJ ops U g=J Af)(hd:BK d n=Af)(ht:P.underlying T=J (.slice e))(hi:TI P e z s bs)(hzs:z.cells.size=s)(hs0:0<s)
 (hv:evs U (BN.toList.map (·.2))=J (vss.map fun v=>Value.agg v.toArray)) (hp:BN.toList.map (·.1)=Hh 0 (Alz BN.toList)) (hl:Alz vss=len) (h1:∀v∈vss,Alz v=s) (hlen:len*s<=16777216)
 (h:∀b w',w.heap.size<=b->Bk w' b e vss.flatten->Be w w'->S w'/\(S w'->GW P R ops S fuel (listed.setIfInBounds i Af) k n ((d,.slice (J ⟨b,0,Aa⟩) len len)::U) w')):GO P R ops S fuel listed k n U w i:=
 GO.new i hi' hg hd (TC len vss ht hi hzs hs0 hv hp hl h1 hlen) (h _ _ X (Bk.new w e _) (Be.alloc w _))
end
section
variable{P:AC}{fn:Func}{Q:Ah->Ad->Prop}{n:Y}{U:BG}{w:Ad}
def retC1{t:Y}{T r:Aw}{b s bs:Y}{z:Ah}{d:TypeDesc}{l:Bl}(i:fn.results=#[.cell t T])(f:P.underlying T=J d)(m:flat d=Ai)(hi:TI P T z s bs)(hv:lk U t=J (.pointer (J ⟨b,0,Aa⟩)))
 (o:Bk w b r l) (hl:Alz l=s) (j:Q (.agg l.toArray) w):∀a,Fr n U a->bodyPost P fn (fun e w'=>∃v,e=.returned v/\Q v w') .ret a w:=
 MH (fun a ha=>by
  have h:=Ke (x:=.tmp t) (ty:=0) f m hi hv o hl a ha Aa "" #[] Aa
  have h1:(loadVar T ⟨b,0,Aa⟩).run P w=.ok (.agg l.toArray) w:=by
   have A:=ha.ev (x:=.tmp t) hv;simp[execOp,Instr.loadAt,Instr.sureAddr,Sem.run_pure]at h;cases hr:(loadVar T _).run P w with
   |ok v w'=>simp_all
   |halt q w'=>simp_all
  have p:=ha.val t _ hv;simp only[results,i];simp[p,asAddr,h1]) j
end
section
variable{P:AC}{n:Y}{U:BG}{w:Ad}{x y:AD}{t e ty T T':Aw}{b o:Y}{z v:Ah}{s bs:Y}{l:Bl}
def pN{m:Y}{BN:Ap (Y×AD)}{ks:Bj}{vs zs:Bl}{a h:Y}{j:Ah}(r:P.underlying t=J (.array m e))(hi:TI P t (.agg zs.toArray) s bs)(he:TI P e j a h)
 (hk:BN.toList.map (·.1)=ks) (hv:evs U (BN.toList.map (·.2))=J vs) (hf:Instr.fill (fun i=>J (i*a,a)) zs.toArray (ks.zip vs)=J l.toArray):
 EX P n U (.build t BN) ty w (.agg l.toArray) w:=fun A B C q after g=>by
 have f:=B.evs hv
 have d:(BN.map fun p=>(p.1,A.eval p.2)).toList=ks.zip vs:=by
  rw[<-hk,<-f];simp only[Array.toList_map,EV,List.zip_map'];rfl
 simp only[execOp,Instr.build,Sem.run_bind,NI hi,Result.andThen_ok,run_underlying r,Fc he];rw[show(BN.map _).toList=ks.zip _ from d];rw[show((Value.agg _).cells)=zs.toArray from Z,hf];rfl
def fillL(pl:Ae (Y×Y)):Bl->Ae (Y×Bl)->Bl
 |zs,[]=>zs
 |zs,(i,cs)::r=>fillL pl (zs.take (pl.getD i (0,0)).1++(cs++zs.drop ((pl.getD i (0,0)).1+Alz cs))) r
def UW(pl:Ae (Y×Y))(n:Y):Ae (Y×Y)->Ar
 |[]=>Af
 |(i,c)::r=>BK i (Alz pl) && (pl.getD i (0,0)).2==c && Nat.ble ((pl.getD i (0,0)).1+c) n && UW pl n r
def jj(off:Y):∀(vs:Bl) (k:Y) (zs:Bl),off+k+Alz vs<=Alz zs->
 (vs.zipIdx k).foldl (fun(cs:Ap Ah) (x:Ah×Y)=>cs.setIfInBounds (off+x.2) x.1) zs.toArray=(zs.take (off+k)++(vs++zs.drop (off+k+Alz vs))).toArray
 |[],k,zs,_=>by simp
 |v::vs,k,zs,h=>by
  have hlt:off+k<Alz zs:=by simp at h;omega
  have a:zs.toArray.setIfInBounds (off+k) v=(zs.set (off+k) v).toArray:=Bh;simp only[WX,Lf,a];rw[jj _ _ _ _ Bf];congr 1
  have f:(zs.set (off+k) v).take (off+(k+1))=zs.take (off+k)++[v]:=by
   rw[show off+(k+1)=off+k+1 by omega,LY,List.getElem?_set_self hlt,List.take_set_of_le X];rfl
  have d:(zs.set (off+k) v).drop (off+(k+1)+Alz vs)=zs.drop (off+k+Alz (v::vs)):=by
   rw[List.drop_set_of_lt X];congr 1;simp;omega
  grind
def gS{pl:Ae (Y×Y)}:∀(ks:Bj) (vs:Bl) (css:Ae (Bl)) (zs:Bl),vs.map (fun v=>v.cells.toList)=css->UW pl (Alz zs) (ks.zip (css.map DQ))=Af->Alz ks=Alz vs->
 Instr.fill (pl.toArray[·]?) zs.toArray (ks.zip vs)=J (fillL pl zs (ks.zip css)).toArray
 |[],[],css,zs,hc,_,_=>by rfl
 |k::ks,v::vs,css,zs,hc,hf,hl=>by
  subst hc;simp only[Cm,WY,UW,Bool.and_eq_true,beq_iff_eq,Nat.blt_eq,Nat.ble_eq]at hf;obtain⟨⟨⟨f1,f2⟩,f3⟩,f4⟩:=hf;have hg:pl.toArray[k]? =J (pl.getD k (0,0)):=by simp[f1]
  simp only[WY,Cm,Instr.fill,hg,fillL];generalize pl.getD k _=q at f2 f3;obtain⟨a,size⟩:=q;have f:Alz v.cells.toList=v.cells.size:=Bh;have i:¬(v.cells.size≠size∨a+v.cells.size>zs.toArray.size):=Bv;simp only[ne_eq,Rz,decide_eq_true_eq];rw[Ag X]
  have d:v.cells.zipIdx.foldl (fun g x=>g.setIfInBounds (a+x.2) x.1) zs.toArray=(zs.take a++(v.cells.toList++zs.drop (a+Alz v.cells.toList))).toArray:=by
   rw[<-Array.foldl_toList,Array.toList_zipIdx];exact jj _ _ 0 _ X
  rw[d];refine gS _ _ _ _ Z ?_ Bf;grind
 |[],_::_,_,_,_,_,h=>by simp at h
 |_::_,[],_,_,_,_,h=>by simp at h
def pO{fs:Ap Field}{BN:Ap (Y×AD)}{pl:Ae (Y×Y)}{ks:Bj}{vs zs:Bl}{css:Ae (Bl)}(hu:P.underlying t=J (.struct fs))(hi:TI P t (.agg zs.toArray) s bs)(hp:places P fs.toList=J pl)
 (hk:BN.toList.map (·.1)=ks) (hv:evs U (BN.toList.map (·.2))=J vs) (hc:vs.map (fun v=>v.cells.toList)=css) (hf:UW pl (Alz zs) (ks.zip (css.map DQ))=Af) (hn:Alz ks=Alz vs) (hl:fillL pl zs (ks.zip css)=l):
 EX P n U (.build t BN) ty w (.agg l.toArray) w:=
 LO hu hi hp hk hv (by rw[gS _ _ _ _ hc hf hn,hl])
inductive FE(P:AC)(w:Ad)(xs ys:Bl):Ae Field->Ae Ar->Prop
 |nil:FE P w xs ys [] []
 |cons {f:Field} {fs:Ae Field} {q:Ar} {qs:Ae Ar} {u v:Ah} (hn:f.name≠ "_") (hx:(part f.type xs.toArray f.offset).run P w=.ok u w) (hy:(part f.type ys.toArray f.offset).run P w=.ok v w)
  (he:∀k,(Op.equalIn (k+1+1+1) f.type u v).run P w=.ok q w) (hr:FE P w xs ys fs qs):FE P w xs ys (f::fs) (q::qs)
def FE.run{xs ys:Bl}(k:Y):∀{fs:Ae Field} {qs:Ae Ar},FE P w xs ys fs qs->(Op.eqFields (k+1+1+1) xs.toArray ys.toArray fs).run P w=.ok (qs.all id) w
 |_,_,.nil=>by rfl
 |f::fs,q::qs,.cons (u:=u) (v:=v) hn h1 h2 he hr=>by
  have ih:=FE.run k hr;simp only[Op.eqFields];rw[Aj hn];simp only[Sem.run_bind,h1,h2,he k,Result.andThen_ok];cases q
  .simp
  .grind
def FE.one {f:Field} {fs:Ae Field} {q:Ar} {qs:Ae Ar} {xs ys:Bl} {u v:Ah} {d:TypeDesc} (hn:f.name≠ "_") (hd:P.underlying f.type=J d) (hfl:flat d=Af) (hx:xs[f.offset]? =J u) (hy:ys[f.offset]? =J v)
 (he:∀k,(Op.equalIn (k+1) f.type u v).run P w=.ok q w) (hr:FE P w xs ys fs qs):FE P w xs ys (f::fs) (q::qs):=
 .cons hn (by simp[part,Sem.run_bind,Jl hd,hfl,hx]) (by simp[part,Sem.run_bind,Jl hd,hfl,hy]) (fun k=>he (k+1+1)) hr
def FE.str {f:Field} {fs:Ae Field} {fs':Ap Field} {p a:Ae Ar} {xs d g vs:Bl} {m j:Y} {q:Ah} (C:f.name≠ "_") (i:P.underlying f.type=J (.struct fs')) (B:P.stoodInHeld f.type=Ai) (ht:TI P f.type q m j)
 (hx:(xs.drop f.offset).take m=g) (r:(d.drop f.offset).take m=vs) (h:FEqs P w g vs fs'.toList a) (A:FE P w xs d fs p):FE P w xs d (f::fs) ((a.all id)::p):=by
 have D:P.fieldsOf f.type=fs':=by unfold Program.fieldsOf;rw[i]
 refine .cons (u:=.agg g.toArray) (v:=.agg vs.toArray) C (by simp[part,Sem.run_bind,Jl i,flat,Fc ht,hx]) (by simp[part,Sem.run_bind,Jl i,flat,Fc ht,r]) (fun k=>?_) A;rw[run_equalIn_agg w _ f.type _ _ Bf B,D,h.run]
def pV{fs:Ap Field}{xs a:Bl}{d:Ae Ar}{r:Ar}(g:P.underlying t=J (.struct fs))(j:P.stoodInHeld t=Ai)(hm:P.eqGuardType P.depth t=Ai)(hx:ev U x=J (.agg xs.toArray))(f:ev U y=J (.agg a.toArray))
 (h:FE P w xs a fs.toList d) (i:d.all id=r):EX P n U (.binOp .eql t x y T) ty w (.bool r) w:=by
 subst i;have m:P.fieldsOf t=fs:=by unfold Program.fieldsOf;rw[g]
 refine FP hx f (run_eqGuard_agg w _ t x y _ _ hm) ?_;rw[run_eql_struct,show(10000:Y)=9996+1+1+1+1 from Z,run_equalIn_agg w _ t _ _ Bf j,m,h.run];rfl
end
section
variable{P:AC}{R:AE->Ad->Prop}{k:Ae KI}{n:Y}{U:BG}{w:Ad}
def VD{l:Y}:∀(k:Ae KI) (a:AE) (w:Ad),DP P R k (.goto l) a w->False
 |[],_,_,h=>h
 |.code _::k,a,w,h=>VD k a w h
 |.blk _::k,a,w,h=>VD k a w h
 |.asr _::k,a,w,h=>VD k a w h
def KW.scope{c:AL}(h:KW P R (.code c::k) n U w):KW P R (.code (.scope c)::k) n U w:=fun a i=>by
 refine wp_scope_straight ?_;intro b g j;obtain⟨e,p,m,d,f⟩:=h a i b g j;refine⟨e,_,_,?_,f⟩;cases e with
 |goto l=>exact VD k _ _ d
 |normal=>exact d
 |exit id=>exact d
 |ret=>exact d
 |panic ch=>exact d
 |outgrown=>exact d
end
section
variable{P:AC}{R:AE->Ad->Prop}{ops:Ap AG}{rest:Ae AG}{k:Ae KI}{n:Y}{U:BG}{w:Ad}{x y:AD}{t e ty ty1:Aw}{pos pos1:AJ}{after after1:Ap Edge}{gd gd1:Av (Y×Ar)}{d d1:Y}{s bs B:Y}
def Mo.append{w w1 w':Ad}{row:Av Y}(hx:Be w w1)(h:w1.grownBy w' row):Mo w w' row.toList:=
 (Mo.Akj hx _).trans (Mo.grown h Bh)
def Tm.fresh{w a w2:Ad}{B:Y}{p:Aw->Ar}{S:Bj}(h:Tm w a B p)(hm:Mo a w2 S)(i:∀k∈S,w.heap.size<=k):Tm w w2 B p:=by
 obtain⟨S0,g,f⟩:=h;refine⟨_,Mo.fresh (S:=S0++S) ((g.mono Bf).trans (hm.mono Bf)) ?_,f⟩;grind
def rI(B:Y){z:Ah}(o:BJ ops U gd1=J Af)(p:BK d1 n=Af)(E:∀u,BJ ops ((d1,u)::U) gd=J Af)(G:BK d n=Af)(ht:P.underlying t=J (.slice e))(hi:TI P e z s bs)(i:z.cells.size=s)(f:0<s)(D:s<=16777216)
 {v:Ah} {vs:Bl} {l:Y} {xs:Bl} (C:ev U y=J (.agg vs.toArray)) (hl:Alz vs=s) (hx:∀q,ev ((d1,q)::U) x=J v) (Q:vs.all (·.oneCell')=Af) (I:B<=w.heap.size) (j:Bn w B e s v l xs)
 (r:l+1<=maxLen) (a:(l+1)*bs<=140737488355328)
 (h:∀q v' w',Bn w' B e s v' (l+1) (xs++vs)->Mo w w' v.ownBlock.toList->(Pi v'=Pi v∨∃g,Pi v'=J g/\w.heap.size<=g)->OW P R ops rest k n ((d,v')::(d1,q)::U) w'):
 OW P R ops (⟨J d1,.buildSlice t 1 #[(0,y)],ty1,pos1,after1,gd1⟩::⟨J d,.call { callee:=.builtin .append,args:=#[x,.tmp d1],argTypes:=#[t,t] },ty,pos,after,gd⟩::rest) k n U w:=by
 refine OW.val o p (Ws ht hi i f D C hl) ?_;have m:Be w (w.alloc (.cells vs.toArray e)):=Be.alloc w _;have A:=Bk.new w e vs;refine OW.append B (E _) G ht hi i f (hx _) (OX _ _ _) (j.alloc _) (Src.Akm ht (Sl.Akk A A.lt) X Bf f) r a (BA I Bh) ?_;intro v' w' N L K;exact h _ _ _ N (Mo.append m L) (K.imp id fun e=>⟨_,e,Bh⟩)
def rG(B:Y){z:Ah}(m:BJ ops U gd1=J Af)(o:BK d1 n=Af)(C:∀u,BJ ops ((d1,u)::U) gd=J Af)(D:BK d n=Af)(ht:P.underlying t=J (.slice e))(hi:TI P e z 1 bs)(f:z.oneCell'=Af)
 {v u:Ah} {l:Y} {xs:Bl} (A:ev U y=J u) (hx:∀q,ev ((d1,q)::U) x=J v) (L:u.oneCell'=Af) (E:B<=w.heap.size) (i:Bn w B e 1 v l xs)
 (p:l+1<=maxLen) (a:(l+1)*bs<=140737488355328)
 (h:∀q v' w',Bn w' B e 1 v' (l+1) (xs++[u])->Mo w w' v.ownBlock.toList->(Pi v'=Pi v∨∃g,Pi v'=J g/\w.heap.size<=g)->OW P R ops rest k n ((d,v')::(d1,q)::U) w'):
 OW P R ops (⟨J d1,.buildSlice t 1 #[(0,y)],ty1,pos1,after1,gd1⟩::⟨J d,.call { callee:=.builtin .append,args:=#[x,.tmp d1],argTypes:=#[t,t] },ty,pos,after,gd⟩::rest) k n U w:=by
 refine OW.val m o (EX.buildSlice (vs:=[u]) 1 ht hi f (by simp[evs,A]) Z Z Bf Bc) ?_;have j:Be w (w.alloc (.cells [u].toArray e)):=Be.alloc w _;have r:=Bk.new w e [u];refine OW.append B (C _) D ht hi (LD f▸Z) Bc (hx _) (OX _ _ _) (i.alloc _) (Src.Akm ht (Sl.Akk r r.lt) Z Bf Bc) p a (BA E Bh) ?_;intro v' w' K I G;exact h _ _ _ K (Mo.append j I) (G.imp id fun e=>⟨_,e,Bh⟩)
end
section
variable{P:AC}{R:AE->Ad->Prop}{ops:Ap AG}{S:Ad->Prop}{fuel:Y}{listed:Ap Ar}{k:Ae KI}{n:Y}{U:BG}{w:Ad}{x y:AD}{t t' e ty:Aw}{pos:AJ}{after:Ap Edge}{gd:Av (Y×Ar)}{d:Y}
def GW.append(i B:Y){z:Ah}{s bs:Y}(C:ops[i]? =J ⟨J d,.call { callee:=.builtin .append,args:=#[x,y],argTypes:=#[t,t'] },ty,pos,after,gd⟩)(K:Region.ready .any ops listed=[i])
 (L:BJ ops U gd=J Af) (N:BK d n=Af) (ht:P.underlying t=J (.slice e)) (hi:TI P e z s bs) (q:z.cells.size=s) (r:0<s)
 {v E:Ah} {m l:Y} {xs f:Bl} (hx:ev U x=J v) (I:ev U y=J E) (p:Bn w B e s v l xs) (j:Src P s t' E m f w)
 (D:l+m<=maxLen) (a:(l+m)*bs<=140737488355328) (Q:B<=w.heap.size)
 (h:∀v' w',Bn w' B e s v' (l+m) (xs++f)->w.grownBy w' (Pi v)->(Pi v'=Pi v∨Pi v'=J w.heap.size)->S w'/\(S w'->GW P R ops S fuel (listed.setIfInBounds i Af) k n ((d,v')::U) w')):GW P R ops S (fuel+1) listed k n U w:=by
 obtain⟨v',w',o,h2,W,V⟩:=VL (P:=P) B t t' ty e ht hi q r p j D a Q;refine GW.new i C K L N (v:=v') (w':=w') ?_ Bf;intro A G T pos after g;simp[execOp,resolve,invoke,builtin,Sem.run_bind,Sem.run_pure,Result.andThen_ok,GC,Cm,Em,G.ev hx,G.ev I,o]
end
section
variable{P:AC}{n:Y}{U:BG}{w:Ad}{x y:AD}{ty:Aw}
def EX.maxN{k:AK}{a b:Y}{d:Ap Aw}(hx:ev U x=J (.int k (a:H)))(h:ev U y=J (.int k (b:H))):EX P n U (.call { callee:=.builtin .max,args:=#[x,y],argTypes:=d }) ty w (.int k ((max a b:Y):H)) w:=fun A e i f after g=>by
 simp[execOp,resolve,invoke,builtin,Sem.run_bind,Sem.run_pure,Result.andThen_ok,GC,Cm,Em,e.ev hx,e.ev h];have:(if(b:H)>a then(b:H)else a)=((max a b:Y)):=by split<;>omega
 simp only[Builtin.max_,Builtin.max2,List.foldlM,Sem.run_bind,Sem.run_pure,Result.andThen_ok,this]
def cW{k:AK}{a b:H}{d:Ap Aw}(hx:ev U x=J (.int k a))(h:ev U y=J (.int k b)):EX P n U (.call { callee:=.builtin .max,args:=#[x,y],argTypes:=d }) ty w (.int k (max a b)) w:=fun A e i f after g=>by
 simp[execOp,resolve,invoke,builtin,Sem.run_bind,Sem.run_pure,Result.andThen_ok,GC,Cm,Em,e.ev hx,e.ev h];have:(if b>a then b else a)=max a b:=by split<;>omega
 simp[Builtin.max_,Builtin.max2,List.foldlM,Sem.run_bind,Sem.run_pure,Result.andThen_ok,this]
def cQ{t T:Aw}{p q:Ap Aw}{vd:Ar}{f:Fn}{fi ca:Ap Ah}(hu:P.underlying t=J (.func p q vd))(hx:ev U x=J (.func f fi ca))(hy:ev U y=J .nilFunc):EX P n U (.binOp .eql t x y T) ty w (.bool Ai) w:=
 FP hx hy (by rfl) (Tf Z (fun d=>by simp[Op.equalIn,run_underlying hu,Sem.run_bind]))
def PO{k k':AK}{t t':Aw}{a s:Y}(hx:ev U x=J (.int k (a:H)))(hy:ev U y=J (.int k' (s:H)))(hs:s<=k.bits):EX P n U (.binOp .shr t x y t') ty w (.int k ((a/2 ^ s:Y):H)) w:=IP hx hy Z hs
def NZ{k k':AK}{t t':Aw}{a s m:Y}(hx:ev U x=J (.int k (a:H)))(hy:ev U y=J (.int k' (s:H)))(hs:s<=k.bits)(hm:_root_.Go.Proofs.YtkmlafmjaeeanaaGreatDoor.maxN k=m)(h:a*2 ^ s<=m):EX P n U (.binOp .shl t x y t') ty w (.int k ((a*2 ^ s:Y):H)) w:=Hv hx hy Z hs hm h
end
section
variable{P:AC}{R:AE->Ad->Prop}{ops:Ap AG}{S:Ad->Prop}{fuel:Y}{listed:Ap Ar}{k:Ae KI}{n:Y}{U:BG}{w:Ad}{x y:AD}{t t' e ty:Aw}{pos:AJ}{after:Ap Edge}{gd:Av (Y×Ar)}{d:Y}
def GO.append(i B:Y){z:Ah}{s bs:Y}(C:ops[i]? =J ⟨J d,.call { callee:=.builtin .append,args:=#[x,y],argTypes:=#[t,t'] },ty,pos,after,gd⟩)
 (K:BJ ops U gd=J Af) (L:BK d n=Af) (ht:P.underlying t=J (.slice e)) (hi:TI P e z s bs) (q:z.cells.size=s) (r:0<s)
 {v E:Ah} {m l:Y} {xs f:Bl} (hx:ev U x=J v) (I:ev U y=J E) (p:Bn w B e s v l xs) (j:Src P s t' E m f w)
 (D:l+m<=maxLen) (a:(l+m)*bs<=140737488355328) (N:B<=w.heap.size)
 (h:∀v' w',Bn w' B e s v' (l+m) (xs++f)->w.grownBy w' (Pi v)->(Pi v'=Pi v∨Pi v'=J w.heap.size)->S w'/\(S w'->GW P R ops S fuel (listed.setIfInBounds i Af) k n ((d,v')::U) w')):GO P R ops S fuel listed k n U w i:=by
 obtain⟨v',w',o,V,T,Q⟩:=VL (P:=P) B t t' ty e ht hi q r p j D a N;refine GO.new i C K L (v:=v') (w':=w') ?_ (h v' w' V T Q);intro A G W pos after g;simp only[execOp,resolve,invoke,builtin,Sem.run_bind,Sem.run_pure,Result.andThen_ok,GC,Cm,Em,G.ev hx,G.ev I,o]
def Ha(i:Y){f:FuncId}{c:AD}{xs:Ae AD}{a:Ap Aw}{vs j l args:Bl}{Q:Ah->Ad->Prop}
 (hi:ops[i]? =J ⟨J d,.call { callee:=.value c,args:=xs.toArray,argTypes:=a },ty,pos,after,gd⟩) (m:Region.ready .any ops listed=[i])
 (o:BJ ops U gd=J Af) (p:BK d n=Af) (ht:ev U c=J (.func (.func f) j.toArray l.toArray)) (hx:evs U xs=J vs) (he:j++vs++l=args) (g:Bm P f args w Q)
 (h:∀v w',Q v w'->S w'/\(S w'->GW P R ops S fuel (listed.setIfInBounds i Af) k n ((d,v)::U) w')):GW P R ops S (fuel+1) listed k n U w:=by
 obtain⟨⟨A,r,q⟩,_⟩:=id g;exact dw i hi m o p (EC.val r q ht hx he) g h
end
section
variable{P:AC}{n:Y}{U:BG}{w:Ad}{x y:AD}{ty t e:Aw}{R:Ad->BG->Prop}
def qe{z:Ah}{bs len cap:Y}{l m:AK}(ht:P.underlying t=J (.slice e))(hi:TI P e z 1 bs)(a:z.oneCell'=Af)(hx:ev U x=J (.int l (len:H)))(q:ev U y=J (.int m (cap:H)))
 (B:len<=cap) (G:bs*cap<=281474976710656) (D:cap<=9223372036854775807):
 EX P n U (.makeSlice t x y) ty w (.slice (J ⟨w.heap.size,0,Aa⟩) len cap) (w.alloc (.cells (BH cap z).toArray e)):=fun A o E pos after g=>by
 obtain⟨i,v,p,r,rfl⟩:=hi.at
 have j:=by
  have h:((i.bytes*cap:Y):H)<=281474976710656:=X;rwa[WF]at h
 have f:=run_make w t e i z ht v p l m len _ X X j X;simp[Oc,r,IX,LD a]at f
 have C:madeCells #[z] cap=(BH cap z).toArray:=by
  apply Array.ext';rw[toList_madeCells_one]
 rw[C]at f;simp only[execOp,o.ev hx,o.ev q,Sem.run_bind,f];rfl
end
section
variable{P:AC}{R:AE->Ad->Prop}{ops:Ap AG}{rest:Ae AG}{k:Ae KI}{n:Y}{U:BG}{w:Ad}{x y t:AD}{T e ty:Aw}{pos:AJ}{after:Ap Edge}{gd:Av (Y×Ar)}{d:Y}{z:Ah}{bs:Y}
def Xi{len cap:Y}{i j:AK}(m:BJ ops U gd=J Af)(o:BK d n=Af)(ht:P.underlying T=J (.slice e))(hi:TI P e z 1 bs)(f:z.oneCell'=Af)(hx:ev U x=J (.int i (len:H)))(l:ev U y=J (.int j (cap:H)))
 (a:len<=cap) (p:bs*cap<=281474976710656) (g:cap<=maxLen)
 (h:∀v' w',Bn w' w.heap.size e 1 v' len (BH len z)->Be w w'->OW P R ops rest k n ((d,v')::U) w'):
 OW P R ops (⟨J d,.makeSlice T x y,ty,pos,after,gd⟩::rest) k n U w:=by
 refine OW.val m o (qe ht hi f hx l a p Ck) (h _ _ ⟨Bh,.inr ⟨_,_,BH (cap-len) z,Z,X,?_,Bf,a,g⟩⟩ (Be.alloc w _));have q:=Bk.new w e (BH cap z);simp_all
end
section
variable{P:AC}{R:AE->Ad->Prop}{ops:Ap AG}{S:Ad->Prop}{fuel:Y}{listed:Ap Ar}{k:Ae KI}{n:Y}{U:BG}{w:Ad}{x y:AD}{t t' e e' ty:Aw}{pos:AJ}{after:Ap Edge}{gd:Av (Y×Ar)}{d:Y}{z:Ah}{bs:Y}
def WC{B g len cap a f:Y}{A:Av AB}{l vs:Bl}(j i:Y)(E:ops[j]? =J ⟨J d,.call { callee:=.builtin .copy,args:=#[x,y],argTypes:=#[t,t'] },ty,pos,after,gd⟩)(L:Region.ready .any ops listed=[j])
 (Q:BJ ops U gd=J Af) (V:BK d n=Af) (ht:P.underlying t=J (.slice e)) (r:P.underlying t'=J (.slice e')) (hi:TI P e z 1 bs) (hx:ev U x=J (.slice (J ⟨g,i,Aa⟩) len cap)) (K:ev U y=J (.slice A a f))
 (C:Sl w B A vs) (q:Alz vs=min a len) (h1:∀u∈vs,u.oneCell'=Af) {T:Aw} (hb:Bk w g T l) (hl:i+Alz vs<=Alz l)
 (N:∀w',Bk w' g T (l.take i++vs++l.drop (i+Alz vs))->Mo w w' [g]->S w'/\(S w'->GW P R ops S fuel (listed.setIfInBounds j Af) k n ((d,.int .i64 ((Alz vs:Y):H))::U) w')):GW P R ops S (fuel+1) listed k n U w:=by
 obtain⟨w',D,W,G⟩:=Rf P w g i T vs 0 l w hb X h1;have o:=(Src.Akm (c:=f) r C (by rw[q,IX]) h1 Bh).cells;have h:(Builtin.firstCells 1 (Nat.min a len) (.slice A a f)).run P w=.ok vs.toArray w:=by cases A<;>exact o
 refine GW.new j E L Q V ?_ (N _ X (Mo.grown G Bh));intro A' I ab pos after gd;have v:=Fc (w:=w) hi;have p:(Builtin.lenOf (.slice A a f)).run P w=.ok _ w:=rfl;simp[execOp,resolve,invoke,builtin,Sem.run_bind,Sem.run_pure,Result.andThen_ok,GC,Cm,Em,I.ev hx,I.ev K];have m:(Alz vs:H)=((Nat.min a len):H):=Bf;simp[Builtin.copy_,run_underlying ht,p,v,h,D,goInt,m]
def Kh(t:Y){p:Prop}[Decidable p](ht:lk U t=J (.bool (decide p)))(h1:p->GW P R ops S fuel listed k n ((t,.bool Af)::U) w)(h2:¬p->GW P R ops S fuel listed k n ((t,.bool Ai)::U) w):GW P R ops S fuel listed k n U w:=by
 by_cases a:p
 .exact GW.as t _ ht Bf (h1 a)
 .exact GW.as t _ ht Bf (h2 a)
end
def BZ:TI eD 3 (.int .i64 0) 1 8:=by unfold TI;kernel_rfl
def ti4:TI eD 4 (.bool Ai) 1 1:=by unfold TI;kernel_rfl
def CE:TI eD 5 (.int .u8 0) 1 1:=by unfold TI;kernel_rfl
def Ii:TI eD 9 (str []) 1 16:=by unfold TI;kernel_rfl
def Rs:TI eD 23 (.slice Aa 0 0) 1 24:=by unfold TI;kernel_rfl
def bO:TI eD 26 (.pointer Aa) 1 8:=by unfold TI;kernel_rfl
def ti31:TI eD 31 (.slice Aa 0 0) 1 24:=by unfold TI;kernel_rfl
def bQ:TI eD 33 (.agg #[.slice Aa 0 0]) 1 24:=by unfold TI;kernel_rfl
def ti34:TI eD 34 (.int .i64 0) 1 8:=by unfold TI;kernel_rfl
def ti36:TI eD 36 (.slice Aa 0 0) 1 24:=by unfold TI;kernel_rfl
def ti38:TI eD 38 (.agg #[.int .i64 0,.slice Aa 0 0]) 2 32:=by unfold TI;kernel_rfl
def ti40:TI eD 40 (.agg #[.int .i64 0,str [],str [],.int .i64 0,.slice Aa 0 0,.int .i64 0,.slice Aa 0 0]) 7 104:=by unfold TI;kernel_rfl
def GY:TI eD 51 (.slice Aa 0 0) 1 24:=by unfold TI;kernel_rfl
def ti53:TI eD 53 (.slice Aa 0 0) 1 24:=by unfold TI;kernel_rfl
def ti56:TI eD 56 (.slice Aa 0 0) 1 24:=by unfold TI;kernel_rfl
def NN:TI eD 58 (.int .u32 0) 1 4:=by unfold TI;kernel_rfl
def Tt:TI eD 60 (.agg #[str [],.int .i64 0,.int .i64 0,.int .i64 0,.int .u32 0]) 5 48:=by unfold TI;kernel_rfl
def Eu:TI eD 64 (.agg #[str [],str []]) 2 32:=by unfold TI;kernel_rfl
def VZ:TI eD 66 (.agg #[.int .i64 0,str [],str []]) 3 40:=by unfold TI;kernel_rfl
def Wa:TI eD 80 (.agg #[.pointer Aa,.int .i64 0,.int .i64 0,.slice Aa 0 0,.bool Ai]) 5 56:=by unfold TI;kernel_rfl
def ti82:TI eD 82 (.agg #[.pointer Aa,.int .i64 0,.int .i64 0,.slice Aa 0 0,.bool Ai]) 5 56:=by unfold TI;kernel_rfl
def ti83:TI eD 83 (.slice Aa 0 0) 1 24:=by unfold TI;kernel_rfl
def ti85:TI eD 85 (.agg #[.int .i64 0,.slice Aa 0 0,.slice Aa 0 0,.slice Aa 0 0,.int .i64 0,.slice Aa 0 0,.bool Ai,.int .i64 0]) 8 128:=by unfold TI;kernel_rfl
def ti93:TI eD 93 (.slice Aa 0 0) 1 24:=by unfold TI;kernel_rfl
def ti97:TI eD 97 (.slice Aa 0 0) 1 24:=by unfold TI;kernel_rfl
def ti100:TI eD 100 (.pointer Aa) 1 8:=by unfold TI;kernel_rfl
def ti102:TI eD 102 (.agg #[.pointer Aa,.slice Aa 0 0]) 2 32:=by unfold TI;kernel_rfl
def MO:TI eD 116 (.agg #[.int .i64 0,str [],.int .i64 0,.int .i64 0,.int .i64 0,.int .u32 0]) 6 56:=by unfold TI;kernel_rfl
def LK:TI eD 121 (.agg #[.int .i64 0,.int .i64 0]) 2 16:=by unfold TI;kernel_rfl
def bL:TI eD 137 (.nilFunc) 1 8:=by unfold TI;kernel_rfl
def LL:TI eD 139 (.agg #[.int .i64 0,.slice Aa 0 0,.bool Ai]) 3 40:=by unfold TI;kernel_rfl
def ti140:TI eD 140 (.agg #[.int .i64 0,.slice Aa 0 0,.bool Ai,.int .i64 0,.slice Aa 0 0,.bool Ai]) 6 80:=by unfold TI;kernel_rfl
def ti144:TI eD 144 (.agg #[.int .u8 0,.int .i64 0,.int .i64 0,str []]) 4 40:=by unfold TI;kernel_rfl
def ti164:TI eD 164 (.agg #[str [],str []]) 2 32:=by unfold TI;kernel_rfl
def ti165:TI eD 165 (.agg #[.int .i64 0,.int .i64 0]) 2 16:=by unfold TI;kernel_rfl
def ti167:TI eD 167 (.agg #[str [],.int .i64 0,.int .u8 0,.int .i64 0,.int .i64 0,str [],str [],str [],.int .i64 0,.int .i64 0]) 10 112:=by unfold TI;kernel_rfl
def oS:TI eD 174 (.agg #[str [],str []]) 2 32:=by unfold TI;kernel_rfl
def ti178:TI eD 178 (.agg (Jv 256 (.int .u32 0))) 256 1024:=by unfold TI;kernel_rfl
def bM:TI eD 189 (.agg #[str [],str [],str [],str [],str []]) 5 80:=by unfold TI;kernel_rfl
def ti192:TI eD 192 (.agg #[str []]) 1 16:=by unfold TI;kernel_rfl
def bN:TI eD 194 (.agg #[str []]) 1 16:=by unfold TI;kernel_rfl
def oT:TI eD 196 (.nilFunc) 1 8:=by unfold TI;kernel_rfl
def ti210:TI eD 210 (.slice Aa 0 0) 1 24:=by unfold TI;kernel_rfl
def Py:TI eD 211 (.int .u64 0) 1 8:=by unfold TI;kernel_rfl
def Ih:TI eD 226 (.agg #[str [],.int .i64 0]) 2 24:=by unfold TI;kernel_rfl
def ti227:TI eD 227 (.slice Aa 0 0) 1 24:=by unfold TI;kernel_rfl
def ti252:TI eD 252 (.agg #[str [],.bool Ai]) 2 24:=by unfold TI;kernel_rfl
def ti253:TI eD 253 (.pointer Aa) 1 8:=by unfold TI;kernel_rfl
def oU:TI eD 258 (.slice Aa 0 0) 1 24:=by unfold TI;kernel_rfl
def NM:TI eD 260 (.agg #[.slice Aa 0 0,.slice Aa 0 0]) 2 48:=by unfold TI;kernel_rfl
def ti280:TI eD 280 (.agg #[.slice Aa 0 0,.int .i64 0]) 2 32:=by unfold TI;kernel_rfl
def ti285:TI eD 285 (.int .u64 0) 1 8:=by unfold TI;kernel_rfl
def ti292:TI eD 292 (.nilFunc) 1 8:=by unfold TI;kernel_rfl
def ti294:TI eD 294 (.agg #[.nilFunc,.int .i64 0,.int .i64 0]) 3 24:=by unfold TI;kernel_rfl
def oV:TI eD 296 (.agg #[.int .i64 0]) 1 8:=by unfold TI;kernel_rfl
def LM:TI eD 316 (.agg #[str [],.int .i64 0]) 2 24:=by unfold TI;kernel_rfl
def ti321:TI eD 321 (.agg (Jv 256 (.bool Ai))) 256 256:=by unfold TI;kernel_rfl
def bP:TI eD 324 (.agg #[.int .u64 0,.int .u64 0,.int .u64 0,.int .u64 0,.int .u64 0,.int .u64 0,.int .u64 0,.int .u64 0,.int .u64 0,.int .u64 0,.int .u64 0,.int .u64 0,.int .u64 0,.int .u64 0,.int .u64 0,.int .u64 0]) 16 128:=by unfold TI;kernel_rfl
def oW:TI eD 343 (.agg (Jv 256 (.int .i64 0))) 256 2048:=by unfold TI;kernel_rfl
def ti345:TI eD 345 (.agg #[.nilFunc,.int .i64 0]) 2 16:=by unfold TI;kernel_rfl
def ti351:TI eD 351 (.agg #[.slice Aa 0 0,.int .i64 0]) 2 32:=by unfold TI;kernel_rfl
def Ts:TI eD 364 (.agg #[.slice Aa 0 0]) 1 24:=by unfold TI;kernel_rfl
def Pz:TI eD 365 (.agg #[.int .i64 0,.int .i64 0,.int .i64 0,.int .i64 0,.int .i64 0,.int .i64 0,.int .i64 0,.int .i64 0,.int .i64 0,.int .i64 0,.int .i64 0,.int .i64 0,.int .i64 0,.int .i64 0,.int .i64 0,.int .i64 0,.int .i64 0,.int .i64 0,.int .i64 0,.int .i64 0,.int .i64 0,.int .i64 0]) 22 176:=by unfold TI;kernel_rfl
def oX:TI eD 367 (.agg #[.slice Aa 0 0,.slice Aa 0 0,.int .i64 0,.int .i64 0,.int .i64 0,.int .i64 0,.int .i64 0,.int .i64 0,.int .i64 0,.int .i64 0,.int .i64 0,.int .i64 0,.int .i64 0,.int .i64 0,.int .i64 0,.int .i64 0,.int .i64 0,.int .i64 0,.int .i64 0,.int .i64 0,.int .i64 0,.int .i64 0,.int .i64 0,.int .i64 0,.int .i64 0,.int .i64 0,.int .i64 0,.int .i64 0,.int .i64 0,.int .i64 0,.int .i64 0,.int .i64 0,.int .i64 0,.int .i64 0,.int .i64 0,.int .i64 0,.int .i64 0,.int .i64 0,.int .i64 0,.int .i64 0,.int .i64 0,.int .i64 0,.int .i64 0,.int .i64 0,.int .i64 0,.int .i64 0,.int .i64 0,.int .i64 0,.int .i64 0,.int .i64 0,.int .i64 0,.int .i64 0,.int .i64 0,.int .i64 0,.int .i64 0,.int .i64 0,.int .i64 0,.int .i64 0,.int .i64 0,.int .i64 0,.int .i64 0,.int .i64 0,.int .i64 0,.int .i64 0,.int .i64 0,.int .i64 0,.int .i64 0,.int .i64 0]) 68 576:=by unfold TI;kernel_rfl
def oY:TI eD 373 (.agg #[.int .i64 0,.int .i64 0,.int .i64 0,.int .i64 0]) 4 32:=by unfold TI;kernel_rfl
def ti376:TI eD 376 (.slice Aa 0 0) 1 24:=by unfold TI;kernel_rfl
def Js:TI eD 378 (.agg #[.int .i64 0,.int .i64 0]) 2 16:=by unfold TI;kernel_rfl
structure RP where
 round:Av Y
 m:Y
 ds:Ae Deferred
 post:AP->AE->Ad->Prop
def RP.F(R:RP):Fence:={ Fence.wide with round:=R.round }
structure FrD(R:RP)(n:Y)(U:BG)(a:AE):Prop where
 fr:Fr n U { a with defers:=[] }
 df:a.defers=R.ds
section
variable{R:RP}{n:Y}{U U':BG}{a:AE}
def FrD.ev(h:FrD R n U a){x:AD}{v:Ah}(hx:ev U x=J v):a.eval x=v:=by
 have:=h.fr.ev hx;assumption
def FrD.sub(h:FrD R n U a)(hs:DZ U' U):FrD R n U' a:=⟨h.fr.sub hs,h.df⟩
def FrD.put(h:FrD R n U a){d:Y}(hd:BK d n=Af)(v:Ah):FrD R n ((d,v)::U) (a.put (J d) v):=⟨h.fr.put hd v,h.df⟩
end
def Cs(P:AC)(R:RP):Ae KI->AP->AE->Ad->Prop
 |[],e=>R.post e
 |.code c::k,e=>match e with|.normal=>fun a w=>c.wpIn R.F R.m P (Cs P R k) a w|e=>Cs P R k e
 |.blk id::k,e=>match e with|.exit i=>fun a w=>if i=id then Cs P R k .normal a w else Cs P R k (.exit i) a w|e=>Cs P R k e
 |.asr I::k,e=>match e with|.normal=>I|e=>Cs P R k e
def KR(P:AC)(R:RP)(k:Ae KI)(n:Y)(U:BG)(w:Ad):Prop:=∀a,FrD R n U a->Cs P R k .normal a w
section
variable{P:AC}{R:RP}{k:Ae KI}{n:Y}{U:BG}{w:Ad}
def Abr(c:AL)(k:Ae KI):Cs P R (.code c::k)=Exit.then (fun a w=>c.wpIn R.F R.m P (Cs P R k) a w) (Cs P R k):=by
 funext e a w;cases e<;>simp[Cs,Exit.then]
def Abq(id:Y)(k:Ae KI):Cs P R (.blk id::k)=Exit.inBlock id (Cs P R k):=by
 funext e a w;cases e<;>simp[Cs,Exit.inBlock]
def Vz{id:Y}:∀{k k':Ae KI},GS id k=J k'->∀a w,Cs P R k (.exit id) a w=Cs P R k' .normal a w
 |[],_,h,_,_=>by simp[GS]at h
 |.code c::k,k',h,a,w=>by simp[GS]at h;exact Vz h a w
 |.asr I::k,k',h,a,w=>by simp[GS]at h;exact Vz h a w
 |.blk i::k,k',h,a,w=>by
  simp[GS]at h;simp only[Cs];by_cases e:id=i
  .simp_all
  .have:JE id i=Ai:=by
    cases hb:JE _ i with
    |false=>rfl
    |true=>simp_all
   rw[this]at h;rw[Ag e];exact Vz h a w
def VB:∀(k:Ae KI) (a:AE) (w:Ad),Cs P R k .ret a w=R.post .ret a w
 |[],_,_=>rfl
 |.code _::k,a,w=>VB k a w
 |.blk _::k,a,w=>VB k a w
 |.asr _::k,a,w=>VB k a w
def dD{x y:AL}(h:KR P R (.code x::.code y::k) n U w):KR P R (.code (.seq x y)::k) n U w:=fun a f=>by
 have:=h a f;refine wpIn_seq ?_;rwa[<-Abr]
def KR.block{id:Y}{c:AL}(h:KR P R (.code c::.blk id::k) n U w):KR P R (.code (.block id c)::k) n U w:=fun a f=>by
 have:=h a f;refine wpIn_block ?_;rwa[<-Abq]
def qO{id:Y}(h:KR P R k n U w):KR P R (.blk id::k) n U w:=Ck
def KR.skip(h:KR P R k n U w):KR P R (.code .skip::k) n U w:=fun a f=>wpIn_skip (h a f)
def qN{l:Y}(h:KR P R k n U w):KR P R (.code (.label l)::k) n U w:=fun a f=>wpIn_label (h a f)
def qL{id:Y}{k':Ae KI}(hk:GS id k=J k')(h:KR P R k' n U w):KR P R (.code (.exit id)::k) n U w:=fun a f=>
 wpIn_exit (by rw[Vz hk];exact h a f)
def IR(h:∀a,FrD R n U a->R.post .ret a w):KR P R (.code .ret::k) n U w:=fun a f=>wpIn_ret (by rw[VB];grind)
def KR.done(h:∀a,FrD R n U a->R.post .normal a w):KR P R [] n U w:=h
def RJ{c:AD}{x y:AL}{b:Ar}(g:ev U c=J (.bool b))(ht:b=Af->KR P R (.code x::k) n U w)(hf:b=Ai->KR P R (.code y::k) n U w):
 KR P R (.code (.cond c x y)::k) n U w:=fun a f=>
 wpIn_cond_split (f.ev g) (fun e=>ht e a f) (fun e=>hf e a f)
def Kj{c:AD}{x y:AL}{p:Prop}[Decidable p](hc:ev U c=J (.bool (decide p)))(ht:p->KR P R (.code x::k) n U w)(hf:¬p->KR P R (.code y::k) n U w):
 KR P R (.code (.cond c x y)::k) n U w:=
 RJ hc Bf Bf
def qK{c:AD}{x y:AL}(hc:ev U c=J (.bool Af))(h:KR P R (.code x::k) n U w):KR P R (.code (.cond c x y)::k) n U w:=
 RJ hc (fun _=>h) Bh
def qJ{c:AD}{x y:AL}(hc:ev U c=J (.bool Ai))(h:KR P R (.code y::k) n U w):KR P R (.code (.cond c x y)::k) n U w:=
 RJ hc Bh (fun _=>h)
def WZ{ι:Type}(R:RP)(n:Y)(I:ι->Prop)(S:ι->BG)(W:ι->Ad)(a:AE)(w:Ad):Prop:=∃i,I i/\FrD R n (S i) a/\w=W i
def KR.cut{ι:Type}(I:ι->Prop)(S:ι->BG)(W:ι->Ad){c:AL}(h:KR P R (.code c::.asr (WZ R n I S W)::k) n U w)(h2:∀i,I i->KR P R k n (S i) (W i)):
 KR P R (.code c::k) n U w:=fun a o=>by
 have f:=h a o;simp[Cs]at f ⊢;refine Code.wpIn_mono (fun e p w' q=>?_) f;cases e with
 |normal=>obtain⟨i,g,j,rfl⟩:=q;exact h2 i g _ j
 |_=>omega
def qT{ι:Type}{I:ι->Prop}{S:ι->BG}{W:ι->Ad}(i:ι)(hs:DZ (S i) U)(hw:w=W i)(hi:I i):KR P R (.asr (WZ R n I S W)::k) n U w:=
 fun _ ha=>⟨i,hi,ha.sub hs,hw⟩
def PI{ι:Type}(R:RP)(n:Y)(I:ι->Prop)(S:ι->BG)(W:ι->Ad)(μ:ι->Y)(i:ι)(a:AE)(w:Ad):Prop:=∃j,I j/\μ j<μ i/\FrD R n (S j) a/\w=W j
def KR.back{ι:Type}{I:ι->Prop}{S:ι->BG}{W:ι->Ad}{μ:ι->Y}{i:ι}(j:ι)(g:DZ (S j) U)(f:w=W j)(hi:I j)(hm:μ j<μ i):
 KR P R (.asr (PI R n I S W μ i)::k) n U w:=fun _ h=>⟨j,hi,hm,h.sub g,f⟩
def TJ{ι:Type}(I:ι->Prop)(S:ι->BG)(W:ι->Ad)(μ:ι->Y){c:AL}(i:ι)(K:DZ (S i) U)(G:w=W i)(hi:I i)
 (f:∀i,I i->KR P R (.code c::.asr (PI R n I S W μ i)::k) n (S i) (W i)):KR P R (.code (.loop c)::k) n U w:=fun a ha=>by
 let M (a:AE) (w:Ad) (m:Y):=∃i,I i/\FrD R n (S i) a/\w=W i/\μ i=m
 have p:∀a w,(∃m,M a w m)->∃m,M a w m/\∀m',M a w _->m<=m':=fun a w⟨m,o⟩=>kj _ m o
 let ν (a:AE) (w:Ad):=Classical.epsilon fun m=>M a w m/\∀m',M a w m'->m<=m'
 have C:∀a w,(∃m,M a w m)->M a w (ν a w)/\∀m',M a w _->ν a w<=m':=fun a w h=>Classical.epsilon_spec (p a w h);refine wpIn_loop (fun a w=>∃m,M a w m) ν ⟨_,i,hi,ha.sub K,G,Z⟩ fun a' w' o=>?_;obtain⟨⟨j,N,V,g,L⟩,_⟩:=C a' w' o;have h:=f j N _ V;subst g;refine Code.wpIn_mono (fun e ab E q=>?_) h;cases e with
 |normal=>
  obtain⟨j',B,h2,A,r⟩:=q;refine⟨⟨_,_,B,A,r,Z⟩,?_⟩;have:=(C _ _ ⟨_,_,B,A,r,Z⟩).2 _ ⟨_,B,A,r,Z⟩;omega
 |_=>exact q
end
section
variable{P:AC}{R:RP}{k:Ae KI}{n:Y}{U:BG}{w:Ad}
def cL{α:Type}(R:RP)(n:Y)(I:α->Prop)(S:α->BG)(W:α->Ad)(μ:α->Y)(x0:α):AE->Ad->Prop:=
 PI R n (fun p:α=>I p) (fun p=>S p) (fun p=>W p) (fun p=>μ p) x0
def qP{α:Type}(I:α->Prop)(S:α->BG)(W:α->Ad)(μ:α->Y){c:AL}(x0:α)(hs:DZ (S x0) U)(hw:w=W x0)(hi:I x0)
 (round:∀x0,I x0->KR P R (.code c::.asr (cL R n I S W μ x0)::k) n (S x0) (W x0)):KR P R (.code (.loop c)::k) n U w:=
 TJ (fun p:α=>I p) (fun p=>S p) (fun p=>W p) (fun p=>μ p) x0 hs hw hi fun p hp=>round p hp
def qG{α:Type}{I:α->Prop}{S:α->BG}{W:α->Ad}{μ:α->Y}{g:α}(f:α)(i:DZ (S f) U)(h:w=W f)(hi:I f)(hm:μ f<μ g):
 KR P R (.asr (cL R n I S W μ g)::k) n U w:=
 KR.back (I:=fun p:α=>I p) (S:=fun p=>S p) (W:=fun p=>W p) (μ:=fun p=>μ p) f i h hi hm
def cM{α β:Type}(R:RP)(n:Y)(I:α->β->Prop)(S:α->β->BG)(W:α->β->Ad)(μ:α->β->Y)(x0:α)(x1:β):AE->Ad->Prop:=
 PI R n (fun p:α×β=>I p.1 p.2) (fun p=>S p.1 p.2) (fun p=>W p.1 p.2) (fun p=>μ p.1 p.2) (x0,x1)
def dM{α β:Type}(R:RP)(n:Y)(I:α->β->Prop)(S:α->β->BG)(W:α->β->Ad):AE->Ad->Prop:=
 WZ R n (fun p:α×β=>I p.1 p.2) (fun p=>S p.1 p.2) (fun p=>W p.1 p.2)
def qQ{α β:Type}(I:α->β->Prop)(S:α->β->BG)(W:α->β->Ad)(μ:α->β->Y){c:AL}(x0:α)(x1:β)(hs:DZ (S x0 x1) U)(hw:w=W x0 x1)(hi:I x0 x1)
 (round:∀x0 x1,I x0 x1->KR P R (.code c::.asr (cM R n I S W μ x0 x1)::k) n (S x0 x1) (W x0 x1)):KR P R (.code (.loop c)::k) n U w:=
 TJ (fun p:α×β=>I p.1 p.2) (fun p=>S p.1 p.2) (fun p=>W p.1 p.2) (fun p=>μ p.1 p.2) (x0,x1) hs hw hi fun p hp=>round p.1 p.2 hp
def qH{α β:Type}{I:α->β->Prop}{S:α->β->BG}{W:α->β->Ad}{μ:α->β->Y}{i:α}{h:β}(g:α)(f:β)(o:DZ (S g f) U)(j:w=W g f)(hi:I g f)(hm:μ g f<μ i h):
 KR P R (.asr (cM R n I S W μ i h)::k) n U w:=
 KR.back (I:=fun p:α×β=>I p.1 p.2) (S:=fun p=>S p.1 p.2) (W:=fun p=>W p.1 p.2) (μ:=fun p=>μ p.1 p.2) (g,f) o j hi hm
def dB{α β:Type}(I:α->β->Prop)(S:α->β->BG)(W:α->β->Ad){c:AL}(h:KR P R (.code c::.asr (dM R n I S W)::k) n U w)
 (h2:∀x0 x1,I x0 x1->KR P R k n (S x0 x1) (W x0 x1)):KR P R (.code c::k) n U w:=
 KR.cut (fun p:α×β=>I p.1 p.2) (fun p=>S p.1 p.2) (fun p=>W p.1 p.2) h Bf
def LS{α β:Type}{I:α->β->Prop}{S:α->β->BG}{W:α->β->Ad}(g:α)(f:β)(i:DZ (S g f) U)(h:w=W g f)(hi:I g f):
 KR P R (.asr (dM R n I S W)::k) n U w:=
 qT (I:=fun p:α×β=>I p.1 p.2) (S:=fun p=>S p.1 p.2) (W:=fun p=>W p.1 p.2) (g,f) i h hi
def cN{α β γ:Type}(R:RP)(n:Y)(I:α->β->γ->Prop)(S:α->β->γ->BG)(W:α->β->γ->Ad)(μ:α->β->γ->Y)(x0:α)(x1:β)(x2:γ):AE->Ad->Prop:=
 PI R n (fun p:α×β×γ=>I p.1 p.2.1 p.2.2) (fun p=>S p.1 p.2.1 p.2.2) (fun p=>W p.1 p.2.1 p.2.2) (fun p=>μ p.1 p.2.1 p.2.2) (x0,x1,x2)
def qR{α β γ:Type}(I:α->β->γ->Prop)(S:α->β->γ->BG)(W:α->β->γ->Ad)(μ:α->β->γ->Y){c:AL}(x0:α)(x1:β)(x2:γ)(hs:DZ (S x0 x1 x2) U)(hw:w=W x0 x1 x2)(hi:I x0 x1 x2)
 (round:∀x0 x1 x2,I x0 x1 x2->KR P R (.code c::.asr (cN R n I S W μ x0 x1 x2)::k) n (S x0 x1 x2) (W x0 x1 x2)):KR P R (.code (.loop c)::k) n U w:=
 TJ (fun p:α×β×γ=>I p.1 p.2.1 p.2.2) (fun p=>S p.1 p.2.1 p.2.2) (fun p=>W p.1 p.2.1 p.2.2) (fun p=>μ p.1 p.2.1 p.2.2) (x0,x1,x2) hs hw hi fun p hp=>round p.1 p.2.1 p.2.2 hp
def qI{α β γ:Type}{I:α->β->γ->Prop}{S:α->β->γ->BG}{W:α->β->γ->Ad}{μ:α->β->γ->Y}{o:α}{j:β}{i:γ}(h:α)(g:β)(f:γ)(r:DZ (S h g f) U)(q:w=W h g f)(hi:I h g f)(hm:μ h g f<μ o j i):
 KR P R (.asr (cN R n I S W μ o j i)::k) n U w:=
 KR.back (I:=fun p:α×β×γ=>I p.1 p.2.1 p.2.2) (S:=fun p=>S p.1 p.2.1 p.2.2) (W:=fun p=>W p.1 p.2.1 p.2.2) (μ:=fun p=>μ p.1 p.2.1 p.2.2) (h,g,f) r q hi hm
def cO{α β γ δ:Type}(R:RP)(n:Y)(I:α->β->γ->δ->Prop)(S:α->β->γ->δ->BG)(W:α->β->γ->δ->Ad)(μ:α->β->γ->δ->Y)(x0:α)(x1:β)(x2:γ)(x3:δ):AE->Ad->Prop:=
 PI R n (fun p:α×β×γ×δ=>I p.1 p.2.1 p.2.2.1 p.2.2.2) (fun p=>S p.1 p.2.1 p.2.2.1 p.2.2.2) (fun p=>W p.1 p.2.1 p.2.2.1 p.2.2.2) (fun p=>μ p.1 p.2.1 p.2.2.1 p.2.2.2) (x0,x1,x2,x3)
def qS{α β γ δ:Type}(I:α->β->γ->δ->Prop)(S:α->β->γ->δ->BG)(W:α->β->γ->δ->Ad)(μ:α->β->γ->δ->Y){c:AL}(x0:α)(x1:β)(x2:γ)(x3:δ)(hs:DZ (S x0 x1 x2 x3) U)(hw:w=W x0 x1 x2 x3)(hi:I x0 x1 x2 x3)
 (round:∀x0 x1 x2 x3,I x0 x1 x2 x3->KR P R (.code c::.asr (cO R n I S W μ x0 x1 x2 x3)::k) n (S x0 x1 x2 x3) (W x0 x1 x2 x3)):KR P R (.code (.loop c)::k) n U w:=
 TJ (fun p:α×β×γ×δ=>I p.1 p.2.1 p.2.2.1 p.2.2.2) (fun p=>S p.1 p.2.1 p.2.2.1 p.2.2.2) (fun p=>W p.1 p.2.1 p.2.2.1 p.2.2.2) (fun p=>μ p.1 p.2.1 p.2.2.1 p.2.2.2) (x0,x1,x2,x3) hs hw hi fun p hp=>round p.1 p.2.1 p.2.2.1 p.2.2.2 hp
def WG{α β γ δ:Type}{I:α->β->γ->δ->Prop}{S:α->β->γ->δ->BG}{W:α->β->γ->δ->Ad}{μ:α->β->γ->δ->Y}{r:α}{q:β}{o:γ}{j:δ}(i:α)(h:β)(g:γ)(f:δ)(B:DZ (S i h g f) U)(A:w=W i h g f)(hi:I i h g f)(hm:μ i h g f<μ r q o j):
 KR P R (.asr (cO R n I S W μ r q o j)::k) n U w:=
 KR.back (I:=fun p:α×β×γ×δ=>I p.1 p.2.1 p.2.2.1 p.2.2.2) (S:=fun p=>S p.1 p.2.1 p.2.2.1 p.2.2.2) (W:=fun p=>W p.1 p.2.1 p.2.2.1 p.2.2.2) (μ:=fun p=>μ p.1 p.2.1 p.2.2.1 p.2.2.2) (i,h,g,f) B A hi hm
end
def OR(P:AC)(R:RP)(ops:Ap AG)(l:Ae AG)(k:Ae KI)(n:Y)(U:BG)(w:Ad):Prop:=∀a,FrD R n U a->wpListIn R.F R.m P ops (Cs P R k) l a w
section
variable{P:AC}{R:RP}{ops:Ap AG}{l rest:Ae AG}{k:Ae KI}{n:Y}{U:BG}{w w':Ad}
def KR.region{id:Y}(h:OR P R l.toArray l k n U w):KR P R (.code (.region id l.toArray Ai)::k) n U w:=fun a f=>wpIn_region_lit (h a f)
def OR.nil(h:KR P R k n U w):OR P R ops [] k n U w:=h
def FrD.as{a:AE}(t:Y)(v':Ah){v:Ah}(ht:lk U t=J v)(e:v=v')(ha:FrD R n U a):FrD R n ((t,v')::U) a:=
 ⟨⟨ha.fr.size,fun i u hu=>by
  rw[OV]at hu;by_cases e':t=i
  .subst e';simp at hu;subst hu;rw[<-e];exact ha.fr.val t _ ht
  .simp[e']at hu;exact ha.fr.val i u hu,Bh⟩,ha.df⟩
def OR.as(t:Y)(f:Ah){v:Ah}(ht:lk U t=J v)(e:v=f)(h:OR P R ops l k n ((t,f)::U) w):OR P R ops l k n U w:=fun a g=>h a (g.as t f ht e)
def KR.as(t:Y)(f:Ah){v:Ah}(ht:lk U t=J v)(e:v=f)(h:KR P R k n ((t,f)::U) w):KR P R k n U w:=fun a g=>h a (g.as t f ht e)
def OR.split(t:Y){b:Ar}(ht:lk U t=J (.bool b))(h1:b=Af->OR P R ops l k n ((t,.bool Af)::U) w)(h2:b=Ai->OR P R ops l k n ((t,.bool Ai)::U) w):OR P R ops l k n U w:=by
 cases b with
 |true=>exact OR.as t _ ht Z (h1 Z)
 |false=>exact OR.as t _ ht Z (h2 Z)
def Qe(t:Y){p:Prop}[Decidable p](ht:lk U t=J (.bool (decide p)))(h1:p->OR P R ops l k n ((t,.bool Af)::U) w)(h2:¬p->OR P R ops l k n ((t,.bool Ai)::U) w):OR P R ops l k n U w:=
 OR.split t ht Bf Bf
def MQ{a:AE}(ha:FrD R n U a){o:AG}{b:Ar}(h:BJ ops U o.guard=J b):Region.wanted o (yielded ops a.tmps)=b:=IL ha.fr h
def RP.semAt(R:RP){ρ:AD->Ah}{o:AG}{r:Result Next}{w:Ad}(h:(execOp ρ o).run P w=r)(f:∀c,o.op≠.defer c):(o.semAt R.F.round ρ).run P w=r:=by rw[Oper.semAt_eq _ _ _ f];omega
def EX.noDefer{op:Op}{ty:Aw}{v:Ah}(he:EX P n U op ty w v w'){a:AE}(f:Fr n U a):∀c,op≠.defer c:=fun c e=>by
 subst e;have h:=he a f Aa "" #[] Aa;unfold execOp at h;simp only[Sem.run_bind]at h;unfold Result.andThen at h;split at h<;>simp at h
def EU.noDefer{op:Op}{ty:Aw}(he:EU P n U op ty w w'){a:AE}(f:Fr n U a):∀c,op≠.defer c:=fun c e=>by
 subst e;have h:=he a f Aa "" #[] Aa;unfold execOp at h;simp only[Sem.run_bind]at h;unfold Result.andThen at h;split at h<;>simp at h
def EC.noDefer{op:Op}{ty:Aw}{f:FuncId}{args:Ap Ah}(he:EC P n U op ty w f args){a:AE}(g:Fr n U a):∀c,op≠.defer c:=fun c e=>by
 subst e;have h:=he a g Aa "" #[] Aa;unfold execOp at h;simp only[Sem.run_bind]at h;unfold Result.andThen at h;split at h<;>simp at h
def Mn(a:AE):({ a with defers:=[] }:AE).eval=a.eval:=by rfl
def OR.val{d:Y}{op:Op}{ty:Aw}{pos:AJ}{after:Ap Edge}{g:Av (Y×Ar)}{v:Ah}(j:BJ ops U g=J Af)(o:BK d n=Af)(he:EX P n U op ty w v w')
 (h:OR P R ops rest k n ((d,v)::U) w'):OR P R ops (⟨J d,op,ty,pos,after,g⟩::rest) k n U w:=fun a f=>by
 have i:=he _ f.fr (J d) pos after g;rw[Mn]at i;unfold wpListIn;rw[Aj (MQ f j)];refine⟨fun _ _=>trivial,?_⟩;rw[R.semAt i (he.noDefer f.fr)];exact h _ (f.put o v)
def dR{op:Op}{ty:Aw}{pos:AJ}{after:Ap Edge}{g:Av (Y×Ar)}(j:BJ ops U g=J Af)(he:EU P n U op ty w w')
 (h:OR P R ops rest k n U w'):OR P R ops (⟨Aa,op,ty,pos,after,g⟩::rest) k n U w:=fun a f=>by
 have i:=he _ f.fr Aa pos after g;rw[Mn]at i;unfold wpListIn;rw[Aj (MQ f j)];refine⟨fun _ _=>trivial,?_⟩;rw[R.semAt i (he.noDefer f.fr)];exact h _ f
def rr{d:Y}{op:Op}{ty:Aw}{pos:AJ}{after:Ap Edge}{g:Av (Y×Ar)}(i:BJ ops U g=J Ai)(j:BK d n=Af)
 (h:OR P R ops rest k n ((d,undef)::U) w):OR P R ops (⟨J d,op,ty,pos,after,g⟩::rest) k n U w:=fun a f=>by
 unfold wpListIn;rw[Ag (by rw[MQ f i];simp)];exact⟨fun _ _=>trivial,h _ (f.put j undef)⟩
def XD{r:Av Y}{m:Y}{f:FuncId}{args:Ap Ah}{Q:Ending->Ad->Prop}(h:Calls P f args w Q):CallsIn { Fence.wide with round:=r } m P f args w Q:=by
 have g:CallsIn _ m P f _ w Q:=callsIn_wide.2 h;exact g
def dQ{d:Y}{op:Op}{ty:Aw}{pos:AJ}{after:Ap Edge}{g:Av (Y×Ar)}{f:FuncId}{args:Bl}{Q:Ah->Ad->Prop}(p:BJ ops U g=J Af)(r:BK d n=Af)
 (he:EC P n U op ty w f args.toArray) (A:Bm P f args w Q) (h:∀v w',Q v w'->OR P R ops rest k n ((d,v)::U) w'):OR P R ops (⟨J d,op,ty,pos,after,g⟩::rest) k n U w:=fun a i=>by
 have j:=he _ i.fr (J d) pos after g;rw[Mn]at j;unfold wpListIn;rw[Aj (MQ i p)];refine⟨fun _ _=>trivial,?_⟩;rw[R.semAt j (he.noDefer i.fr)];refine⟨fun q=>(by cases q),?_⟩;refine XD (A.2.mono fun e o⟨v,he,q⟩=>?_);subst he;exact h v _ q _ (i.put r v)
def OR.call{d:Y}{f:FuncId}{xs:Ae AD}{i:Ap Aw}{ty:Aw}{pos:AJ}{after:Ap Edge}{g:Av (Y×Ar)}{vs:Bl}{Q:Ah->Ad->Prop}
 (o:BJ ops U g=J Af) (p:BK d n=Af) (hx:evs U xs=J vs) (j:Bm P f vs w Q) (h:∀v w',Q v w'->OR P R ops rest k n ((d,v)::U) w'):
 OR P R ops (⟨J d,.call { callee:=.value (.func f),args:=xs.toArray,argTypes:=i },ty,pos,after,g⟩::rest) k n U w:=by
 obtain⟨⟨fn,r,q⟩,_⟩:=id j;exact dQ o p (RB r q hx) j h
def Qj(P:AC)(m l:Y)(args:Bl)(W:Ad)(Q:Ah->Ad->Prop):Prop:=YieldAt Fence.wide m P l args.toArray W fun e W'=>∃v,e=.returned v/\Q v W'
def Xg{d:Y}{x t:AD}{j:Ap Aw}{ty:Aw}{pos:AJ}{after:Ap Edge}{g:Av (Y×Ar)}{p:Y}{v:Ah}{Q:Ah->Ad->Prop}(W:R.round=Aa)
 (C:BJ ops U g=J Af) (G:BK d n=Af) (ht:ev U t=J (.func (.yield p) #[] #[])) (hx:ev U x=J v) (I:Qj P (R.m-1) p [v] w Q)
 (h:∀u w',Q u w'->OR P R ops rest k n ((d,u)::U) w'):
 OR P R ops (⟨J d,.call { callee:=.value t,args:=#[x],argTypes:=j },ty,pos,after,g⟩::rest) k n U w:=fun a o=>by
 obtain⟨V,m,S,i⟩:=R;obtain⟨fn,f,assign,body,B,K⟩:=I;have N:=by have:=o.fr.ev ht;rwa[Mn]at this
 have ex:=by have:=o.fr.ev hx;rwa[Mn]at this
 unfold wpListIn;rw[Aj (MQ o C)];refine⟨fun _ _=>trivial,?_⟩
 have L:(execOp a.eval ⟨J d,.call { callee:=.value t,args:=#[x],argTypes:=j },ty,pos,after,g⟩).run P w=.ok (.round p fn f assign body) w:=by
  simp[execOp,resolve,Deferred.ofValue,N,invoke];simpa[ex]using B
 rw[RP.semAt _ L Bh];refine⟨fun q=>(by cases q),?_⟩;have r:RoundIn (RP.F ⟨_,m,S,i⟩) (m-1) P _ _ _ _ _ w _:=K;refine r.mono fun e A⟨u,E,q⟩=>?_;subst E;exact h u _ q _ (o.put G u)
end
section
variable{P:AC}{R:RP}{ops:Ap AG}{rest:Ae AG}{k:Ae KI}{n:Y}{U:BG}{w:Ad}{x y t:AD}{T T' e ty:Aw}{pos:AJ}{after:Ap Edge}{gd:Av (Y×Ar)}{d:Y}{v z:Ah}{s bs:Y}{l:Bl}
def dO(hg:BJ ops U gd=J Af)(hd:BK d n=Af)(hx:ev U x=J v)(h1:v.oneCell'=Af)
 (h:∀b w',w.heap.size<=b->Bk w' b T [v]->Be w w'->OR P R ops rest k n ((d,.pointer (J ⟨b,0,Aa⟩))::U) w'):
 OR P R ops (⟨J d,.box T x,ty,pos,after,gd⟩::rest) k n U w:=
 OR.val hg hd (cP hx h1) (h _ _ X (Bk.new w T [v]) (Be.alloc w _))
def dN(hg:BJ ops U gd=J Af)(hd:BK d n=Af)(hi:TI P T z s bs)(hl:z.cells.toList=l)
 (h:∀b w',w.heap.size<=b->Bk w' b T l->Be w w'->OR P R ops rest k n ((d,.pointer (J ⟨b,0,Aa⟩))::U) w'):
 OR P R ops (⟨J d,.alloc T,ty,pos,after,gd⟩::rest) k n U w:=
 OR.val hg hd (EX.alloc hi hl) (h _ _ X (Bk.new w T l) (Be.alloc w _))
def ru{b i:Y}(hg:BJ ops U gd=J Af)(hi:TI P T z 1 bs)(hx:ev U x=J (.pointer (J ⟨b,i,Aa⟩)))(hy:ev U y=J v)(h1:v.oneCell'=Af)(hb:Bk w b T' l)(hlt:i<Alz l)
 (h:∀w',Bk w' b T' (l.set i v)->Mo w w' [b]->OR P R ops rest k n U w'):
 OR P R ops (⟨Aa,.store T x y,ty,pos,after,gd⟩::rest) k n U w:=
 dR hg (RC hi hx hy h1 hb hlt) (h _ (hb.set i v) (Mo.set w b i v))
def dP{BN:Ap (Y×AD)}{vs:Bl}(len:Y)(hg:BJ ops U gd=J Af)(hd:BK d n=Af)(ht:P.underlying T=J (.slice e))(hi:TI P e z 1 bs)(hz1:z.oneCell'=Af)
 (hv:evs U (BN.toList.map (·.2))=J vs) (hp:BN.toList.map (·.1)=Hh 0 (Alz BN.toList)) (hl:Alz vs=len) (h1:vs.all (·.oneCell')=Af) (hlen:len<=16777216)
 (h:∀b w',w.heap.size<=b->Bk w' b e vs->Be w w'->OR P R ops rest k n ((d,.slice (J ⟨b,0,Aa⟩) len len)::U) w'):
 OR P R ops (⟨J d,.buildSlice T len BN,ty,pos,after,gd⟩::rest) k n U w:=
 OR.val hg hd (EX.buildSlice len ht hi hz1 hv hp hl h1 hlen) (h _ _ X (Bk.new w e vs) (Be.alloc w _))
def rn{f:FuncId}{xs:Ae AD}{g:Ap Aw}{vs j o args:Bl}{Q:Ah->Ad->Prop}
 (p:BJ ops U gd=J Af) (q:BK d n=Af) (ht:ev U t=J (.func (.func f) j.toArray o.toArray)) (hx:evs U xs=J vs) (he:j++vs++o=args) (i:Bm P f args w Q)
 (h:∀v w',Q v w'->OR P R ops rest k n ((d,v)::U) w'):
 OR P R ops (⟨J d,.call { callee:=.value t,args:=xs.toArray,argTypes:=g },ty,pos,after,gd⟩::rest) k n U w:=by
 obtain⟨⟨fn,A,r⟩,_⟩:=id i;exact dQ p q (EC.val A r ht hx he) i h
end
section
variable{P:AC}{R:RP}{ops:Ap AG}{rest:Ae AG}{k:Ae KI}{n:Y}{U:BG}{w:Ad}{x y:AD}{t t' e ty:Aw}{pos:AJ}{after:Ap Edge}{gd:Av (Y×Ar)}{d:Y}
def OR.append(B:Y){z:Ah}{s bs:Y}(K:BJ ops U gd=J Af)(L:BK d n=Af)(ht:P.underlying t=J (.slice e))(hi:TI P e z s bs)(p:z.cells.size=s)(q:0<s)
 {v C:Ah} {m l:Y} {xs i:Bl} (hx:ev U x=J v) (G:ev U y=J C) (o:Bn w B e s v l xs) (j:Src P s t' C m i w)
 (r:l+m<=maxLen) (f:(l+m)*bs<=140737488355328) (N:B<=w.heap.size)
 (h:∀v' w',Bn w' B e s v' (l+m) (xs++i)->w.grownBy w' (Pi v)->(Pi v'=Pi v∨Pi v'=J w.heap.size)->OR P R ops rest k n ((d,v')::U) w'):
 OR P R ops (⟨J d,.call { callee:=.builtin .append,args:=#[x,y],argTypes:=#[t,t'] },ty,pos,after,gd⟩::rest) k n U w:=by
 obtain⟨v',w',I,h2,W,V⟩:=VL (P:=P) B t t' ty e ht hi p q o j r f N;refine OR.val K L (v:=v') (w':=w') ?_ Bf;intro A E S pos after g;simp[execOp,resolve,invoke,builtin,Sem.run_bind,Sem.run_pure,Result.andThen_ok,GC,Cm,Em,E.ev hx,E.ev G,I]
end
section
variable{P:AC}{R:RP}{ops:Ap AG}{rest:Ae AG}{k:Ae KI}{n:Y}{U:BG}{w w0:Ad}{x y:AD}{t t' e ty ty1:Aw}{pos pos1:AJ}{after after1:Ap Edge}{gd gd1:Av (Y×Ar)}{d d1:Y}
def rk{z:Ah}{s bs:Y}(hg:BJ ops U gd=J Af)(hd:BK d n=Af)(ht:P.underlying t=J (.slice e))(hi:TI P e z s bs)(hzs:z.cells.size=s)(hs0:0<s)
 {v xv:Ah} {m l:Y} {xs news:Bl} (hx:ev U x=J v) (hy:ev U y=J xv) (hext:Be w0 w) (hown:Bn w w0.heap.size e s v l xs) (hsrc:Src P s t' xv m news w)
 (h63:l+m<=maxLen) (hbytes:(l+m)*bs<=140737488355328)
 (h:∀v' w',Bn w' w0.heap.size e s v' (l+m) (xs++news)->Be w0 w'->w.grownBy w' (Pi v)->(Pi v'=Pi v∨Pi v'=J w.heap.size)->OR P R ops rest k n ((d,v')::U) w'):
 OR P R ops (⟨J d,.call { callee:=.builtin .append,args:=#[x,y],argTypes:=#[t,t'] },ty,pos,after,gd⟩::rest) k n U w:=
 OR.append w0.heap.size hg hd ht hi hzs hs0 hx hy hown hsrc h63 hbytes hext.size fun v' w' h1 h2 h3=>h v' w' h1 (hext.grown h2 fun g hg=>(hown.lt g hg).1) h2 h3
def OR.push{z:Ah}{bs:Y}(C:BJ ops U gd1=J Af)(E:BK d1 n=Af)(S:∀u,BJ ops ((d1,u)::U) gd=J Af)(V:BK d n=Af)(ht:P.underlying t=J (.slice e))(hi:TI P e z 1 bs)(i:z.oneCell'=Af)
 {v u:Ah} {l:Y} {xs:Bl} (L:ev U y=J u) (hx:∀q,ev ((d1,q)::U) x=J v) (hu:u.oneCell'=Af) (p:Be w0 w) (o:Bn w w0.heap.size e 1 v l xs)
 (G:l+1<=maxLen) (f:(l+1)*bs<=140737488355328)
 (h:∀q v' w',Bn w' w0.heap.size e 1 v' (l+1) (xs++[u])->Be w0 w'->w.grownBy w' (Pi v)->(Pi v'=Pi v∨∃g,Pi v'=J g/\w.heap.size<=g)->OR P R ops rest k n ((d,v')::(d1,q)::U) w'):
 OR P R ops (⟨J d1,.buildSlice t 1 #[(0,y)],ty1,pos1,after1,gd1⟩::⟨J d,.call { callee:=.builtin .append,args:=#[x,.tmp d1],argTypes:=#[t,t] },ty,pos,after,gd⟩::rest) k n U w:=by
 refine OR.val C E (EX.buildSlice (vs:=[u]) 1 ht hi i (by simp[evs,L]) Z Z Bf Bc) ?_;have A:Be _ (w.alloc (.cells [u].toArray e)):=p.trans (Be.alloc w _);have K:=Bk.new w e [u];refine rk (S _) V ht hi (LD i▸Z) Bc (hx _) (OX _ _ _) A (o.alloc _) (Src.Akm ht (Sl.Akk K K.lt) Z Bf Bc) G f ?_;intro v' w' h1 W r I;refine h _ _ _ h1 W ⟨r.os,r.tape,r.output,by have:=r.size;simp_all;omega,fun j N B=>?_⟩ ?_
 .rw[r.block j Bv B];exact Below.heap_alloc w _ j N
 .rcases I with I|I
  .grind
  .simp_all
end
def RP.mark(R:RP)(D:Y):RP:={ R with ds:={ target:=.collected D,args:=#[] }::R.ds }
def Pn{P:AC}{R:RP}{D:Y}:∀(k:Ae KI) (e:AP),Cs P (R.mark D) k e=Cs P R k e
 |[],e=>rfl
 |.code c::k,e=>by
  have ih:Cs P (R.mark D) k=Cs P R k:=funext (Pn k);cases e<;>(simp[Cs,ih];try rfl)
 |.blk id::k,e=>by
  have ih:Cs P (R.mark D) k=Cs P R k:=funext (Pn k);cases e<;>simp[Cs,ih]
 |.asr I::k,e=>by
  have ih:Cs P (R.mark D) k=Cs P R k:=funext (Pn k);cases e<;>simp[Cs,ih]
section
variable{P:AC}{R:RP}{k:Ae KI}{n:Y}{U:BG}{w:Ad}
def Rp{b:Frame}{a:AE}{c:AL}{k:Ae Item}{cs:Ae Frame}:step P (lone (b.atR a (.code (.scope c)::k)) cs w)=.next (lone (b.atR a (.code c::.inScope c::k)) cs w):=
 step_lone_go (by rfl)
def Agz{b:Frame}{a:AE}{c:AL}{k:Ae Item}{cs:Ae Frame}:step P (lone (b.atR a (.inScope c::k)) cs w)=.next (lone (b.atR a k) cs w):=
 step_lone_go (by rfl)
def Ajn{F:Fence}{n:Y}{a:AE}{Q:AP->AE->Ad->Prop}{c:AL}(h:c.wpIn F n P Q a w)(G:∀l a w,Q (.goto l) a w->False):(Code.scope c).wpIn F n P Q a w:=by
 intro b k B j r p;have g:(lone (b.atR a (.code (.scope c)::k)) _ w).fenced P F:=fenced_calm r p Z;obtain⟨e,I,C,i,f⟩:=h b (.inScope c::k) B j r p;cases e with
 |normal=>exact⟨_,_,_,i,.head g Rp (StepsIn.trans f (.one (fenced_calm r p Z) Agz))⟩
 |exit id=>
  have A:exitTo id (.inScope c::k)=exitTo id k:=by simp[exitTo]
  exact⟨_,_,_,i,fun E q=>.head g Rp (f.1 _ (A▸q)),
   fun o q=>let ⟨_,h1,h2⟩:=f.2 o (A▸q);⟨_,h1,.head g Rp h2⟩⟩
 |goto l=>grind
 |ret=>exact⟨_,_,_,i,.of_steps (.one g Rp) f⟩
 |panic ch=>exact⟨_,_,_,i,.of_steps (.one g Rp) f⟩
 |outgrown=>exact⟨_,_,_,i,.of_steps (.one g Rp) f⟩
def VA{l:Y}:∀(k:Ae KI) (a:AE) (w:Ad),Cs P R k (.goto l) a w=R.post (.goto l) a w
 |[],_,_=>rfl
 |.code _::k,a,w=>VA k a w
 |.blk _::k,a,w=>VA k a w
 |.asr _::k,a,w=>VA k a w
def KR.scope{c:AL}(f:∀l a w,R.post (.goto l) a w->False)(h:KR P R (.code c::k) n U w):KR P R (.code (.scope c)::k) n U w:=fun a g=>
 Ajn (h a g) (fun l a w q=>f l a w (by rw[VA]at q;omega))
def qM{id:Y}(hk:GS id k=Aa)(h:∀a,FrD R n U a->R.post (.exit id) a w):KR P R (.code (.exit id)::k) n U w:=fun a g=>by
 refine wpIn_exit ?_
 have f:∀k,GS id k=Aa->Cs P R k (.exit id) a w=R.post (.exit id) a w:=by
  intro k
  induction k with
  |nil=>intro _;rfl
  |cons x k ih=>
   intro hk;cases x with
   |code c=>exact ih hk
   |asr I=>exact ih hk
   |blk i=>
    simp[GS]at hk;by_cases e:id=i
    .simp_all
    .have:JE id i=Ai:=by
      cases hb:JE _ i with
      |false=>rfl
      |true=>grind
     simp[Cs];grind
 grind
def qV{α:Type}(hr:R.round=Aa)(hm:1<=R.m){g:AD}{p d id:Y}{op:Op}{ty:Aw}{pos:AJ}{after:Ap Edge}{body:AL}{gf:Y}{lb:Bl}{fn:Func}
 (hf:P.funcs[gf]? =J fn) (hn:(!(fn.name== "runtime.NumGoroutine") && fn.body.isSome)=Af)
 (hg:ev U g=J (.func (.func gf) #[] lb.toArray)) (hp:BK p n=Af) (hd:BK d n=Af)
 (af:∀(a:AE) (W:Ad),(execOp a.eval ⟨J d,op,ty,pos,after,Aa⟩).run P W=.ok (.value (a.eval (.tmp p))) W) (L:∀c,op≠.defer c)
 {enc:α->Ah} {Kp:Ad->Ad->Prop} {S Sp:Ae α->Prop} {N:Y} (G:SeqStopsK Fence.wide (R.m-1) P gf lb.toArray (fun x=>#[enc x]) Kp S Sp N w)
 (aj:∀{A B C:Ad},Kp A B->Kp B C->Kp A C) (al:∀(W:Ad) (l:Y) (o o':Obj),w.heap.size<=l->W.heap[l]? =J o->o.isCells=Ai->o.isWalk=Ai->Kp W (W.putObj l o'))
 (I:Ae α->Ad->Prop) (Ix:AL->Ae α->Ad->Prop) (hI:OwnFrom w.heap.size I) (ao:∀c,OwnFrom w.heap.size (Ix c)) (h0:I [] w)
 (r:∀(l:Y) (pre:Ae α) (x:α) (W:Ad),I pre W->Alz pre<N->KR P ⟨J l,R.m-1-1,[],ownPostK Kp I Ix (pre++[x]) W⟩ [.code body] n ((d,enc x)::(p,enc x)::U) W)
 (q:∀(D:Y) (xs:Ae α) (W:Ad),w.heap.size<=D->S xs->I xs W->W.heap[D]? =J (.deferred (J []))->KR P (R.mark D) k n U W)
 (j:∀(D:Y) (c:AL) (pre:Ae α) (W:Ad),w.heap.size<=D->Sp pre->Ix c pre W->W.heap[D]? =J (.deferred (J []))->KR P (R.mark D) (.code c::k) n U W):
 KR P R (.code (.rangeFunc g #[p] (.region id #[⟨J d,op,ty,pos,after,Aa⟩] Ai) body)::k) n U w:=fun a E=>by
 obtain⟨ro,m,ds,a0⟩:=R;subst hr;have ai:=E.ev hg;have ab:p<a.tmps.size:=by have:=E.fr.size;rw[this];simpa[Nat.blt_eq]using hp
 refine wpIn_rangeFunc_ownF (F:=Fence.wide) (n:=m) Z hm (lb:=lb.toArray) ai Ay (fun i w=>Pt hf hn i) G aj al (Below.refl _ _) (fun _=>rfl) I Ix hI ao h0
  (fun x=>{ tmps:=(a.tmps.setIfInBounds p (enc x)).setIfInBounds d (enc x),defers:=[] }) ?_ ?_ ?_ ?_
 .intro l x W K hK;refine wpIn_region_lit ?_;have ez:∀f,((#[p]:Ap Tmp).zip #[enc x]).foldl f a.tmps=f a.tmps (p,enc x):=Bh;rw[ez];unfold wpListIn;refine⟨fun _ _=>trivial,?_⟩;rw[Oper.semAt_eq _ _ _ L,af];have e:(({ tmps:=a.tmps.setIfInBounds p (enc x),defers:=[] }:AE).eval (.tmp p))=enc x:=by simp[Act.eval,ab]
  rwa[e]
 .intro l pre x W V hl;exact r l _ x W V hl _ ⟨(E.fr.put hp _).put hd _,Z⟩
 .intro D xs W hD hS V hK;have h:=q D _ W hD hS V hK { a with defers:={ target:=.collected D,args:=#[] }::a.defers } ⟨E.fr,by show _::a.defers=_::ds;rw[E.df]⟩;rwa[Pn]at h
 .intro D c pre W hD hS V hK;have h:=j D c _ W hD hS V hK { a with defers:={ target:=.collected D,args:=#[] }::a.defers } ⟨E.fr,by show _::a.defers=_::ds;rw[E.df]⟩;rwa[Pn]at h
end
def Bm.Aks{P:AC}{f:FuncId}{fn:Func}{c:AL}{args:Bl}{w:Ad}{Q:Ah->Ad->Prop}{n:Y}(m:Y)(hf:P.funcs[f]? =J fn)(j:fn.body=J c)(g:fn.ntmps=n)
 (o:(!(fn.name== "runtime.NumGoroutine") && fn.body.isSome)=Af) (hl:Alz args+(n-Alz args)=n)
 (h:KR P ⟨Aa,m,[],bodyPostM Fence.wide m P fn (fun e w'=>∃v,e=.returned v/\Q v w')⟩ [.code c] n (IY 0 args) w):Bm P f args w Q:=by
 refine⟨Bf,(callsIn_wide (n:=m)).1 (callsIn_of_wp_marks hf j Ay ?_)⟩
 have i:Fr n (IY 0 args) { tmps:=args.toArray++Jv (fn.ntmps-args.toArray.size) undef,defers:=[] }:=by
  have:=Fr.start args (n-Alz args);rw[hl]at this;simpa[g]using this
 exact h _ ⟨i,Z⟩
section
variable{P:AC}{fn:Func}{Q:Ah->Ad->Prop}{n m D:Y}{U:BG}{w:Ad}{R:RP}
def mN{v:Ah}{e:AP}(he:e=.normal∨e=.ret)(f:R.ds=[])(j:R.post=bodyPostM Fence.wide m P fn (fun e w'=>∃v,e=.returned v/\Q v w'))(h:∀a,FrD R n U a->(results fn a.tmps).run P w=.ok v w)(i:Q v w):
 ∀a,FrD R n U a->R.post e a w:=fun a g=>by
 rw[j]
 have o:LeavesInM Fence.wide m P fn a.tmps (fun e w'=>∃v,e=.returned v/\Q v w') a.defers .returning w:=by
  rw[g.df,f];exact⟨v,h a g,v,Z,i⟩
 rcases he with rfl|rfl<;>exact o
def mL{v:Ah}{e:AP}(he:e=.normal∨e=.ret)(f:R.ds=[{ target:=.collected D,args:=#[] }])(j:R.post=bodyPostM Fence.wide m P fn (fun e w'=>∃v,e=.returned v/\Q v w'))(o:w.heap[D]? =J (.deferred (J [])))
 (h:∀a w,FrD R n U a->(results fn a.tmps).run P w=.ok v w) (i:Q v (w.putObj D (.deferred Aa))):
 ∀a,FrD R n U a->R.post e a w:=fun a g=>by
 rw[j]
 have p:LeavesInM Fence.wide m P fn a.tmps (fun e w'=>∃v,e=.returned v/\Q v w') a.defers .returning w:=by
  rw[g.df,f];exact⟨Bh,.inl ⟨D,_,Z,run_takeDeferred o,v,h a _ g,v,Z,i⟩⟩
 rcases he with rfl|rfl<;>exact p
def Pq{e:AP}(he:e=.normal∨e=.ret)(hds:R.ds=[])(hp:R.post=bodyPostM Fence.wide m P fn (fun e w'=>∃v,e=.returned v/\Q v w'))(hs:fn.results=#[])(hq:Q (.tuple #[]) w):∀a,FrD R n U a->R.post e a w:=
 mN he hds hp (fun _ _=>results_none hs _ _ _) hq
def mM{e:AP}(he:e=.normal∨e=.ret){t u:Y}{v x:Ah}(hds:R.ds=[])(hp:R.post=bodyPostM Fence.wide m P fn (fun e w'=>∃v,e=.returned v/\Q v w'))(hs:fn.results=#[.tmp t,.tmp u])(hv:lk U t=J v)(hx:lk U u=J x)(hq:Q (.tuple #[v,x]) w):
 ∀a,FrD R n U a->R.post e a w:=
 mN he hds hp (fun a ha=>by rw[results_tmp2 hs];have h1:=ha.fr.val t v hv;have h2:=ha.fr.val u x hx;simp_all) hq
def VG{e:AP}(he:e=.normal∨e=.ret){t u:Y}{v x:Ah}(hds:R.ds=[{ target:=.collected D,args:=#[] }])(hp:R.post=bodyPostM Fence.wide m P fn (fun e w'=>∃v,e=.returned v/\Q v w'))(hK:w.heap[D]? =J (.deferred (J [])))(hs:fn.results=#[.tmp t,.tmp u])(hv:lk U t=J v)(hx:lk U u=J x)(hq:Q (.tuple #[v,x]) (w.putObj D (.deferred Aa))):
 ∀a,FrD R n U a->R.post e a w:=
 mL he hds hp hK (fun a w ha=>by rw[results_tmp2 hs];have h1:=ha.fr.val t v hv;have h2:=ha.fr.val u x hx;simp_all) hq
end
def Be.putObj{w W:Ad}(h:Be w W){D:Y}(hD:w.heap.size<=D)(o:Obj):Be w (W.putObj D o):=
 ⟨h.os,h.tape,h.output,by simpa using h.size,fun k hk=>(World.putObj_heap_other X).trans (h.block k hk)⟩
def Bk.putObj{w:Ad}{b D:Y}{T:Aw}{l:Bl}(h:Bk w b T l)(hD:b≠D)(o:Obj):Bk (w.putObj D o) b T l:=h.of_block (World.putObj_heap_other hD)
section
variable{P:AC}{R:RP}{ops:Ap AG}{rest:Ae AG}{k:Ae KI}{n:Y}{U:BG}{w w0:Ad}{x y t:AD}{T T' e ty ty1:Aw}{pos pos1:AJ}{after after1:Ap Edge}{gd gd1:Av (Y×Ar)}{d d1:Y}{v z:Ah}{s bs:Y}{l:Bl}
def Xf{b o:Y}{vs:Bl}(j:BJ ops U gd=J Af)(hi:TI P T z s bs)(hx:ev U x=J (.pointer (J ⟨b,o,Aa⟩)))(g:ev U y=J (.agg vs.toArray))(i:Alz vs=s)(h1:vs.all (·.oneCell')=Af)(q:Bk w b T' l)(hlt:o+Alz vs<=Alz l)
 (h:∀w',Bk w' b T' (l.take o++vs++l.drop (o+Alz vs))->Mo w w' [b]->OR P R ops rest k n U w'):
 OR P R ops (⟨Aa,.store T x y,ty,pos,after,gd⟩::rest) k n U w:=by
 obtain⟨w',p,f,a⟩:=Ty (P:=P) (n:=n) (ty:=ty) hi hx g i h1 q hlt;exact dR j p (h _ f (Mo.grown a Bh))
def dS{t e:Aw}(B:Y){z:Ah}(p:BJ ops U gd1=J Af)(r:BK d1 n=Af)(I:∀u,BJ ops ((d1,u)::U) gd=J Af)(K:BK d n=Af)(ht:P.underlying t=J (.slice e))(hi:TI P e z s bs)(i:z.cells.size=s)(f:0<s)(G:s<=16777216)
 {v:Ah} {vs:Bl} {l:Y} {xs:Bl} (E:ev U y=J (.agg vs.toArray)) (hl:Alz vs=s) (hx:∀q,ev ((d1,q)::U) x=J v) (W:vs.all (·.oneCell')=Af) (L:B<=w.heap.size) (j:Bn w B e s v l xs)
 (A:l+1<=maxLen) (a:(l+1)*bs<=140737488355328)
 (h:∀q v' w',Bn w' B e s v' (l+1) (xs++vs)->Mo w w' v.ownBlock.toList->(Pi v'=Pi v∨∃g,Pi v'=J g/\w.heap.size<=g)->OR P R ops rest k n ((d,v')::(d1,q)::U) w'):
 OR P R ops (⟨J d1,.buildSlice t 1 #[(0,y)],ty1,pos1,after1,gd1⟩::⟨J d,.call { callee:=.builtin .append,args:=#[x,.tmp d1],argTypes:=#[t,t] },ty,pos,after,gd⟩::rest) k n U w:=by
 refine OR.val p r (Ws ht hi i f G E hl) ?_;have o:Be w (w.alloc (.cells vs.toArray e)):=Be.alloc w _;have C:=Bk.new w e vs;refine OR.append B (I _) K ht hi i f (hx _) (OX _ _ _) (j.alloc _) (Src.Akm ht (Sl.Akk C C.lt) X Bf f) A a (BA L Bh) ?_;intro v' w' V S N;exact h _ _ _ V (Mo.append o S) (N.imp id fun e=>⟨_,e,Bh⟩)
def ry{x y t:AD}{g:Ap Aw}{j:Y}{v u:Ah}{Q:Ah->Ad->Prop}(C:R.round=Aa)
 (G:BJ ops U gd=J Af) (K:BK d n=Af) (ht:ev U t=J (.func (.yield j) #[] #[])) (hx:ev U x=J v) (A:ev U y=J u) (L:Qj P (R.m-1) j [v,u] w Q)
 (h:∀u w',Q u w'->OR P R ops rest k n ((d,u)::U) w'):
 OR P R ops (⟨J d,.call { callee:=.value t,args:=#[x,y],argTypes:=g },ty,pos,after,gd⟩::rest) k n U w:=fun a p=>by
 obtain⟨ro,m,ds,i⟩:=R;simp only at C;subst C;obtain⟨fn,f,assign,body,E,N⟩:=L;have W:a.eval t=.func (.yield j) #[] #[]:=by have:=p.fr.ev ht;rwa[Mn]at this
 have ex:a.eval x=v:=by have:=p.fr.ev hx;rwa[Mn]at this
 have V:a.eval y=u:=by have:=p.fr.ev A;rwa[Mn]at this
 unfold wpListIn;rw[Aj (MQ p (o:=⟨J d,.call { callee:=.value t,args:=#[x,y],argTypes:=g },ty,pos,after,gd⟩) G)];refine⟨fun _ _=>trivial,?_⟩
 have S:(execOp a.eval ⟨J d,.call { callee:=.value t,args:=#[x,y],argTypes:=g },ty,pos,after,gd⟩).run P w=.ok (.round j fn f assign body) w:=by
  simp only[execOp,resolve,Deferred.ofValue,W,Sem.run_bind,Sem.run_pure,Result.andThen_ok,invoke];simpa[ex,V]using E
 rw[RP.semAt _ S Bh];refine⟨fun q=>(by cases q),?_⟩;have B:RoundIn (RP.F ⟨Aa,m,ds,i⟩) (m-1) P j fn f assign body w _:=N;refine B.mono fun e r⟨u,I,q⟩=>?_;subst I;exact h u r q _ (p.put K u)
end
section
variable{P:AC}{fn:Func}{Q:Ah->Ad->Prop}{n m D:Y}{U:BG}{w:Ad}{R:RP}
def QH{T T':Aw}{b:Y}{v:Ah}{d:TypeDesc}(a:P.underlying T=J d)(f:flat d=Af)(h:Bk w b T' [v]):(loadVar T ⟨b,0,Aa⟩).run P w=.ok v w:=by
 have g:=h.I (i:=0) Z;simp[loadVar,Jl a,f,Sem.run,g]
def Acq{t u:Y}{T f:Aw}(h:fn.results=#[.cell t T,.cell u f])(tmps:Ap Ah)(P:AC)(w:Ad):
 (results fn tmps).run P w=((asAddr (tmps.getD t undef)).run P w).andThen fun a w₁=>((loadVar T a).run P w₁).andThen fun v w₂=>((asAddr (tmps.getD u undef)).run P w₂).andThen fun a' w₃=>((loadVar f a').run P w₃).andThen fun v' w₄=>.ok (.tuple #[v,v']) w₄:=by
 simp only[results,h];simp
def Aec{t u:Y}{T h T' E:Aw}{b c:Y}{v x:Ah}{d j:TypeDesc}(p:fn.results=#[.cell t T,.cell u h])(o:P.underlying T=J d)(q:flat d=Af)(f:P.underlying h=J j)(g:flat j=Af)
 (hv:lk U t=J (.pointer (J ⟨b,0,Aa⟩))) (hx:lk U u=J (.pointer (J ⟨c,0,Aa⟩))) (A:Bk w b T' [v]) (r:Bk w c E [x]) (a:AE) (i:FrD R n U a):(results fn a.tmps).run P w=.ok (.tuple #[v,x]) w:=by
 rw[Acq p];have C:=i.fr.val t _ hv;have B:=i.fr.val u _ hx;simp[C,B,asAddr,QH o q A,QH f g r]
def Acs{e:AP}(he:e=.normal∨e=.ret){t u:Y}{T j T' L:Aw}{b c:Y}{v x:Ah}{d A:TypeDesc}(g:R.ds=[{ target:=.collected D,args:=#[] }])(G:R.post=bodyPostM Fence.wide m P fn (fun e w'=>∃v,e=.returned v/\Q v w'))(K:w.heap[D]? =J (.deferred (J [])))(C:fn.results=#[.cell t T,.cell u j])(B:P.underlying T=J d)(I:flat d=Af)(f:P.underlying j=J A)(i:flat A=Af)
 (hv:lk U t=J (.pointer (J ⟨b,0,Aa⟩))) (hx:lk U u=J (.pointer (J ⟨c,0,Aa⟩))) (p:Bk w b T' [v]) (o:Bk w c L [x]) (E:Q (.tuple #[v,x]) (w.putObj D (.deferred Aa))):∀a,FrD R n U a->R.post e a w:=fun a q=>by
 have nb:∀{b:Y} {T:Aw} {l:Bl},Bk w b T l->b≠D:=fun {b T l} h e=>by
  obtain⟨N,r,_⟩:=h;grind
 rw[G]
 have r:LeavesInM Fence.wide m P fn a.tmps (fun e w'=>∃v,e=.returned v/\Q v w') a.defers .returning w:=by
  rw[q.df,g];exact⟨Bh,.inl ⟨D,_,Z,run_takeDeferred K,_,Aec C B I f i hv hx (p.putObj (nb p) _) (o.putObj (nb o) _) a q,_,Z,E⟩⟩
 rcases he with rfl|rfl<;>exact r
end
def Hr{n:Y}{U:BG}{w:Ad}{P:AC}{fn:Func}{Q:Ah->Ad->Prop}{t u q:Y}{T T':Aw}{b s bs:Y}{z x y:Ah}{d:TypeDesc}{l:Bl}(i:fn.results=#[.cell t T,.tmp u,.tmp q])(g:P.underlying T=J d)(o:flat d=Ai)(hi:TI P T z s bs)(hv:lk U t=J (.pointer (J ⟨b,0,Aa⟩)))(hx:lk U u=J x)(f:lk U q=J y)
 (p:Bk w b T' l) (hl:Alz l=s) (j:Q (.tuple #[.agg l.toArray,x,y]) w):∀a,Fr n U a->bodyPost P fn (fun e w'=>∃v,e=.returned v/\Q v w') .ret a w:=
 MH (fun a ha=>by
  have h:=Ke (x:=.tmp t) (ty:=0) g o hi hv p hl a ha Aa "" #[] Aa
  have h1:(loadVar T ⟨b,0,Aa⟩).run P w=.ok (.agg l.toArray) w:=by
   have C:=ha.ev (x:=.tmp t) hv;simp[execOp,Instr.loadAt,Instr.sureAddr,Sem.run_pure]at h;cases hr:(loadVar T _).run P w with
   |ok v w'=>simp_all
   |halt q w'=>simp_all
  have B:=ha.val t _ hv;have A:=ha.val u _ hx;have r:=ha.val q _ f;simp only[results,i];simp[B,A,r,asAddr,h1]) j
section
variable{P:AC}{R:AE->Ad->Prop}{k:Ae KI}{n:Y}{U:BG}{w:Ad}{c c':AL}
end
def Abd{β:Type}(S:Bj)(B:Y)(I:β->Ad->Prop):Prop:=∀s W W' T,I s W->Mo W W' T->(∀k∈T,k∈S∨(B<=k/\∃o:Obj,W.heap[k]? =J o/\o.isCells=Ai))->I s W'
def AbS{β:Type}(S:Bj)(j6:β->Ad->Prop):Prop:=∀s W W',j6 s W->Mo W W' S->j6 s W'
def Sc{α:Type}(n:Y)(P:AC)(g:Y)(lb:Bl)(encs:α->Bl)(S:Bj)(G:Ad->Prop)(Fin Stop:Ae α->Prop)(N:Y)(w:Ad):Prop:=
 ∀(l:Y) (j6 Jx:Ae α->Ad->Prop) (W:Ad),Be w W->AbS S j6->AbS S Jx->(∀pre W1,j6 pre W1->G W1)->
  (∀pre x W1,j6 pre W1->Alz pre<N->Qj P (n-1) l (encs x) W1 fun v W'=>(v=.bool Af/\j6 (pre++[x]) W'/\∀k∈S,W'.heap[k]? =W1.heap[k]?)∨(v=.bool Ai/\Jx (pre++[x]) W'))->
  j6 [] W->CallsIn Fence.wide n P g (#[.func (.yield l) #[] #[]]++lb.toArray) W fun e W'=>(∃v,e=.returned v)/\((∃xs,Fin xs/\j6 xs W')∨(∃pre,Stop pre/\Jx pre W'))
def Mx(w:Ad)(l:Y)(o:Obj):Mo w (w.putObj l o) [l]:=⟨Z,Z,Z,Bh,fun k _ hk=>World.putObj_heap_other Bf⟩
def Bk.abd{W W':Ad}{S T:Bj}{b B:Y}{j8:Aw}{l:Bl}(h:Bk W b j8 l)(hm:Mo W W' T)(hT:∀k∈T,k∈S∨(B<=k/\∃o:Obj,W.heap[k]? =J o/\o.isCells=Ai))(hb:b∉S):Bk W' b j8 l:=
 h.j hm fun hk=>by
  rcases hT b hk with q|⟨_,o,ho,hc⟩
  .grind
  .obtain⟨fr,h1,_⟩:=h;rw[h1]at ho;cases ho;cases hc
def Bn.abd{W W':Ad}{S T:Bj}{B B0 s n:Y}{j8:Aw}{v:Ah}{xs:Bl}(h:Bn W B0 j8 s v n xs)(hm:Mo W W' T)(hT:∀k∈T,k∈S∨(B<=k/\∃o:Obj,W.heap[k]? =J o/\o.isCells=Ai))(hb:∀k,Pi v=J k->k∉S):Bn W' B0 j8 s v n xs:=
 h.j hm fun k hk hkT=>by
  rcases hT k hkT with q|⟨_,o,ho,hc⟩
  .grind
  .obtain⟨_,l,fr,h1,_⟩:=h.K k hk;rw[h1]at ho;cases ho;cases hc
def rS{T S:Bj}{W:Ad}{B C:Y}(hT:∀k∈T,k∈S∨(B<=k/\∃o:Obj,W.heap[k]? =J o/\o.isCells=Ai))(hS:∀k∈S,C<=k)(hB:C<=B):∀k∈T,C<=k:=Bf
section
variable{P:AC}{R:RP}{ops:Ap AG}{rest:Ae AG}{k:Ae KI}{n:Y}{U:BG}{w:Ad}
def Vy{ds:Ae Deferred}:∀(k:Ae KI) (e:AP),Cs P { R with ds:=ds } k e=Cs P R k e
 |[],e=>rfl
 |.code c::k,e=>by
  have ih:Cs P { R with ds:=ds } k=Cs P R k:=funext (Vy k);cases e<;>(simp[Cs,ih];try rfl)
 |.blk id::k,e=>by
  have ih:Cs P { R with ds:=ds } k=Cs P R k:=funext (Vy k);cases e<;>simp[Cs,ih]
 |.asr I::k,e=>by
  have ih:Cs P { R with ds:=ds } k=Cs P R k:=funext (Vy k);cases e<;>simp[Cs,ih]
def rp{t:Y}{f:FuncId}{cap:Ap Ah}{ty:Aw}{pos:AJ}{after:Ap Edge}{g:Av (Y×Ar)}(l:R.round=Aa)(o:BJ ops U g=J Af)(ht:lk U t=J (.func (.func f) #[] cap))
 (h:OR P { R with ds:={ target:=.fn (.func f) cap,args:=#[] }::R.ds } ops rest k n U w):OR P R ops (⟨Aa,.defer { callee:=.value (.tmp t),args:=#[],argTypes:=#[] },ty,pos,after,g⟩::rest) k n U w:=fun a e=>by
 have j:=e.ev (x:=.tmp t) ht;unfold wpListIn;rw[Aj (MQ e o)];refine⟨fun _ _=>trivial,?_⟩
 have q:((⟨Aa,.defer { callee:=.value (.tmp t),args:=#[],argTypes:=#[] },ty,pos,after,g⟩:AG).semAt R.F.round a.eval).run P w=.ok (.defer { target:=.fn (.func f) cap,args:=#[] }) w:=by
  rw[show R.F.round=Aa from l,Oper.semAt_none];simp[execOp,resolve,j,Deferred.ofValue]
 rw[q];have p:=h { a with defers:={ target:=.fn _ _,args:=#[] }::a.defers } ⟨e.fr,by rw[e.df]⟩;rwa[show Cs P { R with ds:={ target:=.fn (.func f) cap,args:=#[] }::R.ds } k=Cs P R k from funext (Vy k)]at p
end
def qk{P:AC}{n:Y}{U:BG}{w:Ad}{x:AD}{t T ty:Aw}(hd:∀d,(Op.equalIn (d+1) t .nilIface .nilIface).run P w=.ok Af w)(hx:ev U x=J .nilIface):EX P n U (.binOp .neq t x (.const .nilIface) T) ty w (.bool Ai) w:=
 FP hx Z (by unfold eqGuard;simp) (VM Z hd)
section
variable{m n:Y}{P:AC}{ops:Ap AG}{Q:AP->AE->Ae Frame->Ad->Prop}{rest:Bj}{a:AE}{cs:Ae Frame}{w w':Ad}{i d:Y}{ty:Aw}{pos:AJ}{after:Ap Edge}{U:BG}{v:Ah}
def Ajg(g:ops[i]? =J ⟨J d,.call { callee:=.builtin .recover,args:=#[],argTypes:=#[] },ty,pos,after,Aa⟩)(j:recoverD cs=Aa)(h:wpOpsSIn Fence.wide m P ops Q rest (a.put (J d) .nilIface) cs w):wpOpsSIn Fence.wide m P ops Q (i::rest) a cs w:=by
 unfold wpOpsSIn;simp[g];refine⟨fun _ _=>trivial,?_⟩;have f:Region.wanted (⟨J d,.call { callee:=.builtin .recover,args:=#[],argTypes:=#[] },ty,pos,after,Aa⟩) (yielded ops a.tmps)=Af:=rfl;have e:(execOp a.eval ⟨J d,.call { callee:=.builtin .recover,args:=#[],argTypes:=#[] },ty,pos,after,Aa⟩).run P w=.ok .recover w:=by simp[execOp,resolve,invoke,builtin]
 grind
def Wh{op:Op}(hf:Fr n U a)(f:ops[i]? =J ⟨J d,op,ty,pos,after,Aa⟩)(he:EX P n U op ty w v w')(h:wpOpsSIn Fence.wide m P ops Q rest (a.put (J d) v) cs w'):wpOpsSIn Fence.wide m P ops Q (i::rest) a cs w:=by
 unfold wpOpsSIn;simp[f];refine⟨fun _ _=>trivial,?_⟩;have e:Region.wanted (⟨J d,op,ty,pos,after,Aa⟩) (yielded ops a.tmps)=Af:=rfl;rw[Aj e,he a hf];omega
end
section
variable{P:AC}{fn:Func}{Q:Ah->Ad->Prop}{n m:Y}{U:BG}{w:Ad}{R:RP}
def nj{T N L I:Y}{T1 T2 T3 T4 U1 U2 U3 U4:Aw}{b1 b2 b3 W:Y}{v1 v2 G E:Ah}{d1 d2 V d4:TypeDesc}(hs:fn.results=#[.cell T T1,.cell N T2,.cell L T3,.cell I T4])(q:P.underlying T1=J d1)(y:flat d1=Af)(p:P.underlying T2=J d2)(x:flat d2=Af)(o:P.underlying T3=J V)(t:flat V=Af)(l:P.underlying T4=J d4)(r:flat d4=Af)
 (j:lk U T=J (.pointer (J ⟨b1,0,Aa⟩))) (h:lk U N=J (.pointer (J ⟨b2,0,Aa⟩))) (g:lk U L=J (.pointer (J ⟨b3,0,Aa⟩))) (f:lk U I=J (.pointer (J ⟨W,0,Aa⟩))) (D:Bk w b1 U1 [v1]) (C:Bk w b2 U2 [v2]) (B:Bk w b3 U3 [G]) (A:Bk w W U4 [E]) (a:AE) (e:FrD R n U a):(results fn a.tmps).run P w=.ok (.tuple #[v1,v2,G,E]) w:=by
 have e1:=e.fr.val _ _ j;have e2:=e.fr.val _ _ h;have e3:=e.fr.val _ _ g;have e4:=e.fr.val _ _ f;simp only[results,hs];simp[e1,e2,e3,e4,asAddr,QH q y D,QH p x C,QH o t B,QH l r A]
def Acr {v:Ah} {e:AP} {f:FuncId} {cap:Ap Ah} {p:Func} (j:P.funcs[f]? =J p) (g:(!(p.name== "runtime.NumGoroutine") && p.body.isSome)=Af) (he:e=.normal∨e=.ret) (l:R.ds=[{ target:=.fn (.func f) cap,args:=#[] }]) (x:R.post=bodyPostM Fence.wide m P fn (fun e w'=>∃v,e=.returned v/\Q v w')) (r:∀a,FrD R n U a->(results fn a.tmps).run P w=.ok v w)
 (y:CallsDIn Fence.wide (m-1) P f cap .returning w fun e u' w'=>e=.returned (.tuple #[])/\u'=.returning/\w'=w) (t:Q v w):∀a,FrD R n U a->R.post e a w:=fun a q=>by
 rw[x]
 have o:LeavesInM Fence.wide m P fn a.tmps (fun e w'=>∃v,e=.returned v/\Q v w') a.defers .returning w:=by
  rw[q.df,l];refine⟨Bh,.inr ⟨fun h=>by simp[Fence.wide]at h,.func f,cap,f,cap,Z,by simp[invoke,Pt j g],fun _ _=>trivial,y.mono fun e u' w'⟨o,B,A⟩=>?_⟩⟩;subst o B A;exact⟨v,r a q,v,Z,t⟩
 rcases he with rfl|rfl<;>exact o
end
def Pp{P:AC}{fn:Func}{Q:Ah->Ad->Prop}{n:Y}{U:BG}{w:Ad}{t u s q:Y}{v x y z:Ah}(hs:fn.results=#[.tmp t,.tmp u,.tmp s,.tmp q])(hv:lk U t=J v)(hx:lk U u=J x)(hy:lk U s=J y)(hz:lk U q=J z)(hq:Q (.tuple #[v,x,y,z]) w):
 ∀a,Fr n U a->bodyPost P fn (fun e w'=>∃v,e=.returned v/\Q v w') .ret a w:=
 MH (fun a ha=>by simp only[results,hs];simp[ha.val t v hv,ha.val u x hx,ha.val s y hy,ha.val q z hz]) hq
def Act.l(ds:Ae Deferred)(a:AE):AE:={ a with defers:=a.defers++ds }
section
variable{P:AC}{ops:Ap AG}{S:Ad->Prop}{Q0 Q:AP->AE->Ad->Prop}{K0 K:AE->Ad->Prop}{ds:Ae Deferred}{a:AE}{w:Ad}
def ZN(d:Av Y)(v:Ah):Act.l ds (a.put d v)=(Act.l ds a).put d v:=by cases d<;>rfl
def zd:(Act.l ds a).eval=a.eval:=by rfl
def Ajq{o:AG}(p:∀a w,K0 a w->K (Act.l ds a) w)(l:∀e a w,Q0 e a w->Q e (Act.l ds a) w)(h:o.wp P a w K0 Q0):o.wp P (Act.l ds a) w K Q:=by
 unfold Oper.wp at*;rw[zd];generalize(execOp _ o).run P w=r at*;have t:LetsOut Q0->LetsOut Q:=fun⟨b,g,q⟩=>⟨_,g,l _ b g q⟩;have j:∀v w',K0 (a.put o.dst v) w'->K ((Act.l ds a).put o.dst v) w':=fun v w' q=>by rw[<-ZN];grind
 cases r with
 |ok x w'=>
  cases x with
  |value v=>exact j _ _ h
  |skip=>exact j _ _ h
  |defer d=>
   have e:Act.l ds _=({ Act.l ds a with defers:=d::(Act.l _ a).defers }.put _ undef):=ZN (a:={ a with defers:=d::a.defers }) o.dst _;show K _ _;rw[<-e];exact p _ _ h
  |enter f args=>
   refine Calls.mono h fun e g q=>?_;grind
  |row r args=>exact Rows.mono h X
  |_=>exact h.elim
 |halt x w'=>
  cases x with
  |panic v=>exact l _ _ _ h
  |_=>exact h.elim
def Ajo{i:Y}(g:∀a w,K0 a w->K (Act.l ds a) w)(f:∀e a w,Q0 e a w->Q e (Act.l ds a) w)(h:wpOp P ops Q0 i K0 a w):wpOp P ops Q i K (Act.l ds a) w:=by
 unfold wpOp at*;split
 .grind
 .rename_i o e;rw[e]at h;simp at h;have l:(Act.l ds a).tmps=a.tmps:=rfl;rw[l];split
  .rename_i q;rw[Aj q]at h;rcases h with h|⟨r,b,p,j⟩
   .exact .inl (Ajq g f h)
   .refine .inr ⟨?_,_,_,f _ b _ j⟩;assumption
  .rename_i q;rw[<-ZN];grind
def pE(hQ:∀e a w,Q0 e a w->Q e (Act.l ds a) w):∀(fuel:Y) (listed:Ap Ar) (a:AE) (w:Ad),wpAnyH P .any ops Q0 S fuel listed a w->wpAnyH P .any ops Q S fuel listed (Act.l ds a) w
 |0,_,a,w,h=>⟨h.1,hQ _ _ _ h.2⟩
 |fuel+1,_,a,w,h=>⟨fun e=>hQ _ _ _ (h.1 e),fun i hi=>Ajo (fun a w q=>⟨q.1,pE hQ fuel _ a w q.2⟩) hQ (h.2 i hi)⟩
end
section
variable{P:AC}{R:RP}{k:Ae KI}{n:Y}{U:BG}{w:Ad}
def onR(P:AC)(R:RP)(k:Ae KI):Ae KI:=[.asr fun a w=>Cs P R k .normal (Act.l R.ds a) w]
def WH{id N:Y}{l:Ae AG}(S:Ad->Prop)(hm:P.follows .mixedOrders=Af)(o:l.toArray.size=N)(h:GW P (fun _ _=>False) l.toArray S N (Jv N Ai) (onR P R k) n U w.drew)(j:R.round=Aa:=by rfl):KR P R (.code (.region id l.toArray Af)::k) n U w:=fun a f=>by
 subst o;have p:R.F=Fence.wide:=by unfold RP.F;rw[j];rfl
 show(Code.region _ _ _).wpIn _ _ P _ a w;rw[p,wpIn_wide];have g:=pE (fun e a w q=>by cases e<;>first|exact q|exact q.elim) _ _ _ _ (h _ f.fr)
 have e:Act.l R.ds { a with defers:=[] }=a:=by
  unfold Act.l;rw[EW,<-f.df]
 rw[e]at g;exact wp_region_held hm g
def KQ(h:KR P R k n U w):KW P (fun _ _=>False) (onR P R k) n U w:=fun a e=>h (Act.l R.ds a) ⟨⟨e.size,e.val,Z⟩,by unfold Act.l;rw[e.df];rfl⟩
end
def Mqy(P:AC)(f:FuncId)(args:Bl)(w:Ad)(Q y9:Ah->Ad->Prop):Prop:=
 (∃fn,P.funcs[f]? =J fn/\(!(fn.name== "runtime.NumGoroutine") && fn.body.isSome)=Af)/\Calls P f args.toArray w fun e w'=>(∃v,e=.returned v/\Q v w')∨∃x,e=.panicked [{ v:=x,recovered:=Ai }]/\y9 x w'
section
variable{P:AC}{R:RP}{ops:Ap AG}{rest:Ae AG}{k:Ae KI}{n m:Y}{U:BG}{w:Ad}{fn:Func}
def SR{c:Ae PanicEntry}:∀(k:Ae KI) (a:AE) (w:Ad),Cs P R k (.panic c) a w=R.post (.panic c) a w
 |[],_,_=>rfl
 |.code _::k,a,w=>SR k a w
 |.blk _::k,a,w=>SR k a w
 |.asr _::k,a,w=>SR k a w
section
variable{d:Y}{op:Op}{ty:Aw}{pos:AJ}{after:Ap Edge}{g:Av (Y×Ar)}{f:FuncId}{Q y9:Ah->Ad->Prop}
def rq{args:Bl}(y:BJ ops U g=J Af)(A:BK d n=Af)(he:EC P n U op ty w f args.toArray)(B:Mqy P f args w Q y9)
 (r:∀x w',y9 x w'->∀a,FrD R n U a->R.post (.panic [{ v:=x,recovered:=Ai }]) a w') (h:∀v w',Q v w'->OR P R ops rest k n ((d,v)::U) w'):OR P R ops (⟨J d,op,ty,pos,after,g⟩::rest) k n U w:=fun a l=>by
 have p:=he _ l.fr (J d) pos after g;rw[Mn]at p;unfold wpListIn;rw[Aj (MQ l (o:=⟨J d,op,ty,pos,after,g⟩) y)];refine⟨fun _ _=>trivial,?_⟩;rw[R.semAt p (he.noDefer l.fr)];refine⟨fun q=>(by cases q),?_⟩;refine XD (B.2.mono fun e j q=>?_);rcases q with⟨v,rfl,q⟩|⟨x,rfl,q⟩
 .exact h v j q _ (l.put A v)
 .show Cs P R k (.panic _) a j;rw[SR];exact r x j q a l
def Um{t:AD}{xs:Ae AD}{e:Ap Aw}{vs l o args:Bl}(q:BJ ops U g=J Af)(r:BK d n=Af)(ht:ev U t=J (.func (.func f) l.toArray o.toArray))(hx:evs U xs=J vs)(he:l++vs++o=args)(j:Mqy P f args w Q y9)
 (p:∀x w',y9 x w'->∀a,FrD R n U a->R.post (.panic [{ v:=x,recovered:=Ai }]) a w') (h:∀v w',Q v w'->OR P R ops rest k n ((d,v)::U) w'):
 OR P R ops (⟨J d,.call { callee:=.value t,args:=xs.toArray,argTypes:=e },ty,pos,after,g⟩::rest) k n U w:=by
 obtain⟨⟨fn,A,y⟩,_⟩:=id j;exact rq q r (EC.val A y ht hx he) j p h
def OR.panic{e:Av Y}{x:AD}{T:Aw}{u:Ah}(l:BJ ops U g=J Af)(hx:ev U x=J (.iface T u))(h:∀a,FrD R n U a->R.post (.panic [{ v:=.iface T u,recovered:=Ai }]) a w):
 OR P R ops (⟨e,.panic x,ty,pos,after,g⟩::rest) k n U w:=fun a j=>by
 have ex:a.eval x=.iface T u:=j.ev hx;unfold wpListIn;rw[Aj (MQ j (o:=⟨e,.panic x,ty,pos,after,g⟩) l)];refine⟨fun _ _=>trivial,?_⟩
 have p:(execOp a.eval ⟨e,.panic x,ty,pos,after,g⟩).run P w=.halt (.panic (.iface T u)) w:=by
  simp[execOp,ex,Instr.panic,goPanic,Sem.run_bind,Sem.run_halt,Result.andThen]
 rw[R.semAt p Bh];show Cs P R k (.panic _) a w;rw[SR];exact h a j
end
def Mqy.Aks{f:FuncId}{c:AL}{args:Bl}{Q y9:Ah->Ad->Prop}(m:Y)(hf:P.funcs[f]? =J fn)(p:fn.body=J c)(j:fn.ntmps=n)
 (o:(!(fn.name== "runtime.NumGoroutine") && fn.body.isSome)=Af) (hl:Alz args+(n-Alz args)=n)
 (h:KR P ⟨Aa,m,[],bodyPostM Fence.wide m P fn fun e w'=>(∃v,e=.returned v/\Q v w')∨∃x,e=.panicked [{ v:=x,recovered:=Ai }]/\y9 x w'⟩ [.code c] n (IY 0 args) w):Mqy P f args w Q y9:=by
 refine⟨⟨fn,hf,o⟩,(callsIn_wide (n:=m)).1 (callsIn_of_wp_marks hf p Ay ?_)⟩
 have l:Fr n (IY 0 args) { tmps:=args.toArray++Jv (fn.ntmps-args.toArray.size) undef,defers:=[] }:=by
  have:=Fr.start args (n-Alz args);rw[hl]at this;simpa[j]using this
 exact h _ ⟨l,Z⟩
section
variable{Q y9:Ah->Ad->Prop}
def lQ{x:Ah}(h:R.ds=[])(l:R.post=bodyPostM Fence.wide m P fn fun e w'=>(∃v,e=.returned v/\Q v w')∨∃x,e=.panicked [{ v:=x,recovered:=Ai }]/\y9 x w')(j:y9 x w):
 ∀a,FrD R n U a->R.post (.panic [{ v:=x,recovered:=Ai }]) a w:=fun a o=>by
 rw[l];show LeavesInM Fence.wide m P fn a.tmps _ a.defers (.panicking _) w;rw[o.df,h];exact .inr ⟨x,Z,j⟩
def Aaq {x:Ah} {f:FuncId} {cap:Ap Ah} {q:Func} {y:Ad->Prop} (l:P.funcs[f]? =J q) (j:(!(q.name== "runtime.NumGoroutine") && q.body.isSome)=Af) (o:R.ds=[{ target:=.fn (.func f) cap,args:=#[] }]) (D:R.post=bodyPostM Fence.wide m P fn (fun e w'=>∃v,e=.returned v/\Q v w'))
 (E:CallsDIn Fence.wide (m-1) P f cap (.panicking [{ v:=x,recovered:=Ai }]) w fun e u' w'=>e=.returned (.tuple #[])/\u'=.panicking [{ v:=x,recovered:=Af }]/\y w')
 (B:∀w',y w'->∀a,FrD R n U a->∃v,(results fn a.tmps).run P w'=.ok v w'/\Q v w'):∀a,FrD R n U a->R.post (.panic [{ v:=x,recovered:=Ai }]) a w:=fun a r=>by
 rw[D]
 have p:LeavesInM Fence.wide m P fn a.tmps (fun e w'=>∃v,e=.returned v/\Q v w') a.defers (.panicking [{ v:=x,recovered:=Ai }]) w:=by
  rw[r.df,o];refine⟨Bh,.inr ⟨fun h=>by simp[Fence.wide]at h,.func f,cap,f,cap,Z,by simp[invoke,Pt l j],fun _ _=>trivial,E.mono fun e u' w'⟨p,I,G⟩=>?_⟩⟩;subst p I;obtain⟨v,A,C⟩:=B w' G a r;exact⟨v,A,v,Z,C⟩
 exact p
end
end
section
variable{P:AC}{n:Y}{U:BG}{w:Ad}{x:AD}{t T ty:Aw}{u:Ah}{d:TypeDesc}
def dm(h:P.underlying T=J d)(j:(match d with|.interface _=>Ai|_=>Af)=Af)(hx:ev U x=J u):EX P n U (.makeInterface T x) ty w (.iface T u) w:=fun a l o pos after g=>by
 have e:(Instr.makeInterface T u).run P w=.ok (.iface T u) w:=by
  unfold Instr.makeInterface;rw[Sem.run_bind,run_underlying h];cases d<;>first|rfl|cases j
 simp only[execOp,l.ev hx,Sem.run_bind,e,Result.andThen_ok];rfl
def pM(h:P.underlying T=J d)(j:(match d with|.interface _=>Ai|_=>Af)=Af)(hx:ev U x=J (.iface T u)):EX P n U (.typeAssert x t T Af) ty w (.tuple #[u,.bool Af]) w:=fun a l o pos after g=>by
 have e:(Instr.typeAssert (.iface T u) t T Af).run P w=.ok (.tuple #[u,.bool Af]) w:=by
  unfold Instr.typeAssert;rw[Sem.run_bind,run_underlying h];cases d<;>first|(simp[Result.andThen];done)|cases j
 simp only[execOp,l.ev hx,Sem.run_bind,e,Result.andThen_ok];rfl
def qm{T':Aw}(hd:∀d,(Op.equalIn (d+1) t (.iface T u) .nilIface).run P w=.ok Ai w)(hx:ev U x=J (.iface T u)):EX P n U (.binOp .neq t x (.const .nilIface) T') ty w (.bool Af) w:=
 FP hx Z (by unfold eqGuard;cases x<;>rfl) (VM Z hd)
end
section
variable{m n:Y}{P:AC}{ops:Ap AG}{Q:AP->AE->Ae Frame->Ad->Prop}{rest:Bj}{a:AE}{cs:Ae Frame}{w w':Ad}{i d:Y}{ty:Aw}{pos:AJ}{after:Ap Edge}{U:BG}{v:Ah}
def Ajh{j:Ae Frame}(p:ops[i]? =J ⟨J d,.call { callee:=.builtin .recover,args:=#[],argTypes:=#[] },ty,pos,after,Aa⟩)(o:recoverD cs=J (v,j))(h:wpOpsSIn Fence.wide m P ops Q rest (a.put (J d) v) j w):wpOpsSIn Fence.wide m P ops Q (i::rest) a cs w:=by
 unfold wpOpsSIn;simp only[p];refine⟨fun _ _=>trivial,?_⟩;have l:Region.wanted (⟨J d,.call { callee:=.builtin .recover,args:=#[],argTypes:=#[] },ty,pos,after,Aa⟩:AG) (yielded ops a.tmps)=Af:=rfl;rw[Aj l];have e:(execOp a.eval ⟨J d,.call { callee:=.builtin .recover,args:=#[],argTypes:=#[] },ty,pos,after,Aa⟩).run P w=.ok .recover w:=by simp[execOp,resolve,invoke,builtin,Sem.run_bind]
 rw[e];simp only[o];exact h
def qU{c:AL}(hf:Fr n U a)(h:KR P ⟨Aa,m,[],fun e a w=>Q e a cs w⟩ [.code c] n U w):c.wpSIn Fence.wide m P Q a cs w:=
 wpSIn_of_wpIn Z (h a ⟨by have:=hf.df;exact⟨hf.size,hf.val,Z⟩,hf.df⟩)
end
inductive TB(α:Type) where
 |e
 |n (x:α) (l r:TB α)
def TB.get{α:Type}(f:α->Y):TB α->Y->Av α
 |.e,_=>Aa
 |.n x l r,t=>bif JE (f x) t then J x else bif BK t (f x)then l.get f t else r.get f t
def TB.ok{α:Type}{f:α->Y}{t:Y}{x:α}:∀{b:TB α},b.get f t=J x->f x=t
 |.e,h=>by cases h
 |.n y l r,h=>by
  unfold TB.get at h;rcases q:JE (f y) t with _|_
  .rw[q]at h;rcases q2:BK t (f y)with _|_
   .rw[q2]at h;exact TB.ok (b:=r) h
   .rw[q2]at h;exact TB.ok (b:=l) h
  .rw[q]at h;cases h;exact Nat.eq_of_beq_eq_true q
noncomputable def uTab:TB {e:Y×TypeDesc//eD.underlying e.1=J e.2}:=(.n ⟨(189,_),iK⟩ (.n ⟨(83,_),iT⟩ (.n ⟨(33,_),underlying33⟩ (.n ⟨(20,_),mp⟩ (.n ⟨(4,_),underlying4⟩ (.n ⟨(2,_),underlying2⟩ (.n ⟨(0,_),underlying0⟩ .e .e) (.n ⟨(3,_),io⟩ .e .e)) (.n ⟨(9,_),eT⟩ (.n ⟨(5,_),iB⟩ .e .e) .e)) (.n ⟨(26,_),mt⟩ (.n ⟨(22,_),underlying22⟩ (.n ⟨(21,_),underlying21⟩ .e .e) (.n ⟨(23,_),im⟩ .e .e)) (.n ⟨(31,_),ip⟩ (.n ⟨(27,_),underlying27⟩ .e .e) .e))) (.n ⟨(56,_),iU⟩ (.n ⟨(40,_),iV⟩ (.n ⟨(36,_),iL⟩ (.n ⟨(34,_),iW⟩ .e .e) (.n ⟨(38,_),na⟩ .e .e)) (.n ⟨(53,_),underlying53⟩ (.n ⟨(51,_),hU⟩ .e .e) .e)) (.n ⟨(66,_),iX⟩ (.n ⟨(60,_),iM⟩ (.n ⟨(58,_),iN⟩ .e .e) (.n ⟨(64,_),iu⟩ .e .e)) (.n ⟨(82,_),iO⟩ (.n ⟨(80,_),nn⟩ .e .e) .e)))) (.n ⟨(139,_),iY⟩ (.n ⟨(105,_),underlying105⟩ (.n ⟨(97,_),iZ⟩ (.n ⟨(90,_),underlying90⟩ (.n ⟨(85,_),underlying85⟩ .e .e) (.n ⟨(93,_),iI⟩ .e .e)) (.n ⟨(102,_),iP⟩ (.n ⟨(100,_),ko⟩ .e .e) .e)) (.n ⟨(121,_),nz⟩ (.n ⟨(116,_),li⟩ (.n ⟨(106,_),underlying106⟩ .e .e) (.n ⟨(118,_),iv⟩ .e .e)) (.n ⟨(137,_),pw⟩ (.n ⟨(133,_),ql⟩ .e .e) .e))) (.n ⟨(165,_),underlying165⟩ (.n ⟨(151,_),underlying151⟩ (.n ⟨(144,_),underlying144⟩ (.n ⟨(140,_),lj⟩ .e .e) (.n ⟨(149,_),iQ⟩ .e .e)) (.n ⟨(164,_),underlying164⟩ (.n ⟨(157,_),qr⟩ .e .e) .e)) (.n ⟨(174,_),underlying174⟩ (.n ⟨(170,_),underlying170⟩ (.n ⟨(167,_),underlying167⟩ .e .e) .e) (.n ⟨(180,_),iJ⟩ (.n ⟨(178,_),qx⟩ .e .e) .e))))) (.n ⟨(321,_),underlying321⟩ (.n ⟨(246,_),underlying246⟩ (.n ⟨(211,_),iw⟩ (.n ⟨(201,_),rg⟩ (.n ⟨(194,_),rt⟩ (.n ⟨(192,_),iE⟩ .e .e) (.n ⟨(196,_),underlying196⟩ .e .e)) (.n ⟨(210,_),iC⟩ (.n ⟨(206,_),underlying206⟩ .e .e) .e)) (.n ⟨(232,_),underlying232⟩ (.n ⟨(226,_),underlying226⟩ (.n ⟨(218,_),underlying218⟩ .e .e) (.n ⟨(227,_),iq⟩ .e .e)) (.n ⟨(242,_),underlying242⟩ (.n ⟨(241,_),underlying241⟩ .e .e) .e))) (.n ⟨(285,_),underlying285⟩ (.n ⟨(260,_),iF⟩ (.n ⟨(253,_),underlying253⟩ (.n ⟨(252,_),underlying252⟩ .e .e) (.n ⟨(258,_),ir⟩ .e .e)) (.n ⟨(282,_),underlying282⟩ (.n ⟨(280,_),lr⟩ .e .e) .e)) (.n ⟨(294,_),underlying294⟩ (.n ⟨(292,_),iR⟩ (.n ⟨(289,_),underlying289⟩ .e .e) .e) (.n ⟨(316,_),underlying316⟩ (.n ⟨(296,_),mo⟩ .e .e) .e)))) (.n ⟨(373,_),rx⟩ (.n ⟨(345,_),se⟩ (.n ⟨(332,_),underlying332⟩ (.n ⟨(327,_),underlying327⟩ (.n ⟨(324,_),iG⟩ .e .e) (.n ⟨(329,_),underlying329⟩ .e .e)) (.n ⟨(343,_),iS⟩ (.n ⟨(333,_),underlying333⟩ .e .e) .e)) (.n ⟨(364,_),sz⟩ (.n ⟨(351,_),underlying351⟩ (.n ⟨(349,_),iD⟩ .e .e) (.n ⟨(360,_),underlying360⟩ .e .e)) (.n ⟨(367,_),iy⟩ (.n ⟨(365,_),iz⟩ .e .e) .e))) (.n ⟨(396,_),underlying396⟩ (.n ⟨(381,_),underlying381⟩ (.n ⟨(378,_),iH⟩ (.n ⟨(376,_),iA⟩ .e .e) (.n ⟨(380,_),underlying380⟩ .e .e)) (.n ⟨(394,_),underlying394⟩ (.n ⟨(383,_),underlying383⟩ .e .e) .e)) (.n ⟨(400,_),underlying400⟩ (.n ⟨(399,_),underlying399⟩ (.n ⟨(397,_),underlying397⟩ .e .e) .e) (.n ⟨(412,_),underlying412⟩ (.n ⟨(411,_),underlying411⟩ .e .e) .e))))))
noncomputable def tTab:TB {e:Y×Ah×Y×Y//TI eD e.1 e.2.1 e.2.2.1 e.2.2.2}:=(.n ⟨(164,_,_,_),ti164⟩ (.n ⟨(60,_,_,_),Tt⟩ (.n ⟨(34,_,_,_),ti34⟩ (.n ⟨(23,_,_,_),Rs⟩ (.n ⟨(5,_,_,_),CE⟩ (.n ⟨(4,_,_,_),ti4⟩ (.n ⟨(3,_,_,_),BZ⟩ .e .e) .e) (.n ⟨(9,_,_,_),Ii⟩ .e .e)) (.n ⟨(31,_,_,_),ti31⟩ (.n ⟨(26,_,_,_),bO⟩ .e .e) (.n ⟨(33,_,_,_),bQ⟩ .e .e))) (.n ⟨(51,_,_,_),GY⟩ (.n ⟨(38,_,_,_),ti38⟩ (.n ⟨(36,_,_,_),ti36⟩ .e .e) (.n ⟨(40,_,_,_),ti40⟩ .e .e)) (.n ⟨(56,_,_,_),ti56⟩ (.n ⟨(53,_,_,_),ti53⟩ .e .e) (.n ⟨(58,_,_,_),NN⟩ .e .e)))) (.n ⟨(100,_,_,_),ti100⟩ (.n ⟨(83,_,_,_),ti83⟩ (.n ⟨(80,_,_,_),Wa⟩ (.n ⟨(66,_,_,_),VZ⟩ (.n ⟨(64,_,_,_),Eu⟩ .e .e) .e) (.n ⟨(82,_,_,_),ti82⟩ .e .e)) (.n ⟨(93,_,_,_),ti93⟩ (.n ⟨(85,_,_,_),ti85⟩ .e .e) (.n ⟨(97,_,_,_),ti97⟩ .e .e))) (.n ⟨(137,_,_,_),bL⟩ (.n ⟨(116,_,_,_),MO⟩ (.n ⟨(102,_,_,_),ti102⟩ .e .e) (.n ⟨(121,_,_,_),LK⟩ .e .e)) (.n ⟨(140,_,_,_),ti140⟩ (.n ⟨(139,_,_,_),LL⟩ .e .e) (.n ⟨(144,_,_,_),ti144⟩ .e .e))))) (.n ⟨(280,_,_,_),ti280⟩ (.n ⟨(210,_,_,_),ti210⟩ (.n ⟨(189,_,_,_),bM⟩ (.n ⟨(174,_,_,_),oS⟩ (.n ⟨(167,_,_,_),ti167⟩ (.n ⟨(165,_,_,_),ti165⟩ .e .e) .e) (.n ⟨(178,_,_,_),ti178⟩ .e .e)) (.n ⟨(194,_,_,_),bN⟩ (.n ⟨(192,_,_,_),ti192⟩ .e .e) (.n ⟨(196,_,_,_),oT⟩ .e .e))) (.n ⟨(252,_,_,_),ti252⟩ (.n ⟨(226,_,_,_),Ih⟩ (.n ⟨(211,_,_,_),Py⟩ .e .e) (.n ⟨(227,_,_,_),ti227⟩ .e .e)) (.n ⟨(258,_,_,_),oU⟩ (.n ⟨(253,_,_,_),ti253⟩ .e .e) (.n ⟨(260,_,_,_),NM⟩ .e .e)))) (.n ⟨(345,_,_,_),ti345⟩ (.n ⟨(316,_,_,_),LM⟩ (.n ⟨(294,_,_,_),ti294⟩ (.n ⟨(292,_,_,_),ti292⟩ (.n ⟨(285,_,_,_),ti285⟩ .e .e) .e) (.n ⟨(296,_,_,_),oV⟩ .e .e)) (.n ⟨(324,_,_,_),bP⟩ (.n ⟨(321,_,_,_),ti321⟩ .e .e) (.n ⟨(343,_,_,_),oW⟩ .e .e))) (.n ⟨(367,_,_,_),oX⟩ (.n ⟨(364,_,_,_),Ts⟩ (.n ⟨(351,_,_,_),ti351⟩ .e .e) (.n ⟨(365,_,_,_),Pz⟩ .e .e)) (.n ⟨(376,_,_,_),ti376⟩ (.n ⟨(373,_,_,_),oY⟩ .e .e) (.n ⟨(378,_,_,_),Js⟩ .e .e))))))
noncomputable def pTab:TB (Y×Ae (Y×Y)):=(.n (192,[(0,1)]) (.n (85,[(0,1),(1,1),(2,1),(3,1),(4,2),(6,1),(7,1)]) (.n (64,[(0,1),(1,1)]) (.n (38,[(0,1),(1,1)]) (.n (33,[(0,1)]) .e .e) (.n (60,[(0,1),(1,1),(2,1),(3,1),(4,1)]) .e .e)) (.n (80,[(0,1),(1,1),(2,1),(3,1),(4,1)]) (.n (66,[(0,1),(1,2)]) .e .e) (.n (82,[(0,5)]) .e .e))) (.n (144,[(0,1),(1,1),(2,1),(3,1)]) (.n (121,[(0,1),(1,1)]) (.n (116,[(0,1),(1,5)]) .e .e) (.n (139,[(0,1),(1,1),(2,1)]) .e .e)) (.n (174,[(0,1),(1,1)]) (.n (167,[(0,1),(1,1),(2,1),(3,1),(4,1),(5,1),(6,2),(8,2)]) .e .e) .e))) (.n (296,[(0,1)]) (.n (260,[(0,1),(1,1)]) (.n (226,[(0,1),(1,1)]) (.n (194,[(0,1)]) .e .e) (.n (252,[(0,1),(1,1)]) .e .e)) (.n (294,[(0,1),(1,1),(2,1)]) (.n (280,[(0,1),(1,1)]) .e .e) .e)) (.n (364,[(0,1)]) (.n (345,[(0,1),(1,1)]) (.n (316,[(0,1),(1,1)]) .e .e) (.n (351,[(0,1),(1,1)]) .e .e)) (.n (378,[(0,1),(1,1)]) (.n (367,[(0,1),(1,1),(2,22),(24,22),(46,22)]) .e .e) .e))))
def uF{t:Y}{d:TypeDesc}(h:(uTab.get (fun e=>e.1.1) t).map (fun e=>e.1.2)=J d):eD.underlying t=J d:=by
 obtain⟨e,q,p⟩:=Nc.1 h;rw[<-TB.ok q,<-p];exact e.2
def tF{t:Y}{z:Ah}{s b:Y}(h:(tTab.get (fun e=>e.1.1) t).map (fun e=>e.1.2)=J (z,s,b)):TI eD t z s b:=by
 obtain⟨e,q,p⟩:=Nc.1 h;have:=e.2;rw[TB.ok q,p]at this;exact this
def NV(U:BG)(x:AD)(k:AK)(a:Y):Prop:=ev U x=J (.int k (a:H))
def NV.c{U:BG}{k:AK}{m:Y}:NV U (.const (.int k (@OfNat.ofNat H m _))) k (@OfNat.ofNat Y m _):=rfl
def Di{U:BG}{x:AD}{k:AK}{a:Y}(h:ev U x=J (.int k (a:H))):NV U x k a:=h
inductive Rn:Y->Prop->Prop->Prop
 |z {p:Prop}:Rn 0 p p
 |s {m:Y} {p r q:Prop} (h:r->p) (k:Rn m r q):Rn (m+1) p q
structure Tg(i:Y)(r p:Prop):Prop where
 f:r->p
inductive Rl:Bj->Prop->Prop->Prop
 |z {p:Prop}:Rl [] p p
 |s {i:Y} {l:Bj} {p r q:Prop} (h:Tg i r p) (k:Rl l r q):Rl (i::l) p q
def Rl.ok{l:Bj}{p q:Prop}(h:Rl l p q):q->p:=by
 induction h with
 |z=>exact id
 |s h _ ih=>exact fun x=>h.f (ih x)
def Rn.ok{m:Y}{p q:Prop}(h:Rn m p q):q->p:=by
 induction h with
 |z=>exact id
 |s h _ ih=>exact fun x=>h (ih x)
section
variable{R:AE->Ad->Prop}{ops:Ap AG}{rest:Ae AG}{K:Ae KI}{n:Y}{U:BG}{w w0 w':Ad}{x y f:AD}{t t' e ty T T':Aw}{k k':AK}{a b s o d bs len cap i j m N fuel:Y}{op:Op}{pos:AJ}{after:Ap Edge}{g:Av (Y×Ar)}{v z:Ah}{l vs xs news:Bl}{fs:Ap Field}{ats:Ap Aw}{Q:Ah->Ad->Prop}{S:Ad->Prop}{listed:Ap Ar}{c c':AL}{dd:TypeDesc}{fid:FuncId}{vl:Bl}{B:Y}{A:Av AB}
def Xlss(hx:NV U x k a:=by first|exact NV.c|exact Di Z)(hy:NV U y k b:=by first|exact NV.c|exact Di Z):EX eD n U (.binOp .lss t x y t') ty w (.bool (decide (a<b))) w:=cT hx hy
def Xleq(hx:NV U x k a:=by first|exact NV.c|exact Di Z)(hy:NV U y k b:=by first|exact NV.c|exact Di Z):EX eD n U (.binOp .leq t x y t') ty w (.bool (decide (a<=b))) w:=qa hx hy
def Xgtr(hx:NV U x k a:=by first|exact NV.c|exact Di Z)(hy:NV U y k b:=by first|exact NV.c|exact Di Z):EX eD n U (.binOp .gtr t x y t') ty w (.bool (decide (b<a))) w:=cR hx hy
def Xgeq(hx:NV U x k a:=by first|exact NV.c|exact Di Z)(hy:NV U y k b:=by first|exact NV.c|exact Di Z):EX eD n U (.binOp .geq t x y t') ty w (.bool (decide (b<=a))) w:=pY hx hy
def Xeql(hx:NV U x k a:=by first|exact NV.c|exact Di Z)(hy:NV U y k b:=by first|exact NV.c|exact Di Z):EX eD n U (.binOp .eql t x y t') ty w (.bool (decide (a=b))) w:=Wt hx hy
def Xneq(hx:NV U x k a:=by first|exact NV.c|exact Di Z)(hy:NV U y k b:=by first|exact NV.c|exact Di Z):EX eD n U (.binOp .neq t x y t') ty w (.bool (decide (a≠b))) w:=qn hx hy
def Xadd(hx:NV U x k a:=by first|exact NV.c|exact Di Z)(hy:NV U y k b:=by first|exact NV.c|exact Di Z)(h:a+b<=_root_.Go.Proofs.YtkmlafmjaeeanaaGreatDoor.maxN k:=by simp only[maxN];omega):EX eD n U (.binOp .add t x y t') ty w (.int k ((a+b:Y):H)) w:=Tz hx hy Z h
def Xsub(hx:NV U x k a:=by first|exact NV.c|exact Di Z)(hy:NV U y k b:=by first|exact NV.c|exact Di Z)(h:b<=a/\a<=_root_.Go.Proofs.YtkmlafmjaeeanaaGreatDoor.maxN k:=by simp only[maxN];omega):EX eD n U (.binOp .sub t x y t') ty w (.int k ((a-b:Y):H)) w:=Kg hx hy Z h
def Xmul(hx:NV U x k a:=by first|exact NV.c|exact Di Z)(hy:NV U y k b:=by first|exact NV.c|exact Di Z)(h:a*b<=_root_.Go.Proofs.YtkmlafmjaeeanaaGreatDoor.maxN k:=by simp only[maxN];omega):EX eD n U (.binOp .mul t x y t') ty w (.int k ((a*b:Y):H)) w:=Ww hx hy Z h
def Xquo(hx:NV U x k a:=by first|exact NV.c|exact Di Z)(hy:NV U y k b:=by first|exact NV.c|exact Di Z)(h:0<b/\a<=_root_.Go.Proofs.YtkmlafmjaeeanaaGreatDoor.maxN k:=by simp only[maxN];omega):EX eD n U (.binOp .quo t x y t') ty w (.int k ((a/b:Y):H)) w:=dh hx hy Z h
def Xrem(hx:NV U x k a:=by first|exact NV.c|exact Di Z)(hy:NV U y k b:=by first|exact NV.c|exact Di Z)(h:0<b:=by omega):EX eD n U (.binOp .rem t x y t') ty w (.int k ((a%b:Y):H)) w:=di hx hy h
def Xmin(hx:NV U x k a:=by first|exact NV.c|exact Di Z)(hy:NV U y k b:=by first|exact NV.c|exact Di Z):EX eD n U (.call { callee:=.builtin .min,args:=#[x,y],argTypes:=ats }) ty w (.int k ((min a b:Y):H)) w:=qf hx hy
def Xmax(hx:NV U x k a:=by first|exact NV.c|exact Di Z)(hy:NV U y k b:=by first|exact NV.c|exact Di Z):EX eD n U (.call { callee:=.builtin .max,args:=#[x,y],argTypes:=ats }) ty w (.int k ((max a b:Y):H)) w:=EX.maxN hx hy
def Xcv(p:eD.underlying t=J dd:=by exact uF Z)(hv:eD.underlying e=J (.int k):=by exact uF Z)(hx:NV U x k' a:=by first|exact NV.c|exact Di Z)(h:a<=_root_.Go.Proofs.YtkmlafmjaeeanaaGreatDoor.maxN k:=by simp only[maxN];omega):EX eD n U (.convert t e x) ty w (.int k (a:H)) w:=RF p hv hx Z h
def Xcw(m:Y)(p:eD.underlying t=J dd:=by exact uF Z)(hv:eD.underlying e=J (.int k):=by exact uF Z)(hx:NV U x k' a:=by first|exact NV.c|exact Di Z)(hm:QK k=m:=by exact Z)(h:0<m:=by decide):EX eD n U (.convert t e x) ty w (.int k ((a%m:Y):H)) w:=RG p hv hx hm h
def XfA{f C:Y}{p q r:AJ}{h:Aw}{D:Ar}{ex:Y}(hx:ev U x=J (.pointer (J ⟨b,o,Aa⟩)):=by exact Z)(hu:eD.underlying t=J (.struct fs):=by exact uF Z)(hf:fs[f]? =J ⟨p,h,C,D,q,r,ex⟩:=by exact Z)(hi:TI eD h z s bs:=by exact tF Z)(hs:BK 0 s=Af:=by exact Z):EX eD n U (.fieldAddr t x f) ty w (.pointer (J ⟨b,o+C,Aa⟩)) w:=Dw hu hf Z hi hs hx
def Xi0(hx:ev U x=J (.slice (J ⟨b,0,Aa⟩) len cap):=by exact Z)(hy:NV U y k i:=by first|exact NV.c|exact Di Z)(hi:i<len:=by omega)(hu:eD.underlying t=J (.slice e):=by exact uF Z)(h:TI eD e z 1 bs:=by exact tF Z):EX eD n U (.indexAddr t x y) ty w (.pointer (J ⟨b,i,Aa⟩)) w:=KV hu h hx hy hi
def Xi1(hx:ev U x=J (.slice (J ⟨b,o,Aa⟩) len cap):=by exact Z)(hy:NV U y k i:=by first|exact NV.c|exact Di Z)(hi:i<len:=by omega)(hu:eD.underlying t=J (.slice e):=by exact uF Z)(h:TI eD e z 1 bs:=by exact tF Z):EX eD n U (.indexAddr t x y) ty w (.pointer (J ⟨b,o+i,Aa⟩)) w:=KX hu h hx hy hi
def Xis(hx:ev U x=J (.slice (J ⟨b,o,Aa⟩) len cap):=by exact Z)(hy:NV U y k i:=by first|exact NV.c|exact Di Z)(hi:i<len:=by omega)(hu:eD.underlying t=J (.slice e):=by exact uF Z)(h:TI eD e z s bs:=by exact tF Z):EX eD n U (.indexAddr t x y) ty w (.pointer (J ⟨b,o+i*s,Aa⟩)) w:=MT hu h hx hy hi
def Xa0(hx:ev U x=J (.pointer (J ⟨b,0,Aa⟩)):=by exact Z)(hy:NV U y k i:=by first|exact NV.c|exact Di Z)(hu:eD.underlying t=J (.array m e):=by exact uF Z)(h:TI eD e z 1 bs:=by exact tF Z)(hi:i<m:=by omega):EX eD n U (.indexAddr t x y) ty w (.pointer (J ⟨b,i,Aa⟩)) w:=LP hu h hx hy hi
def Xa1(hx:ev U x=J (.pointer (J ⟨b,o,Aa⟩)):=by exact Z)(hy:NV U y k i:=by first|exact NV.c|exact Di Z)(hu:eD.underlying t=J (.array m e):=by exact uF Z)(h:TI eD e z 1 bs:=by exact tF Z)(hi:i<m:=by omega):EX eD n U (.indexAddr t x y) ty w (.pointer (J ⟨b,o+i,Aa⟩)) w:=LQ hu h hx hy hi
def Xas(hx:ev U x=J (.pointer (J ⟨b,o,Aa⟩)):=by exact Z)(hy:NV U y k i:=by first|exact NV.c|exact Di Z)(hu:eD.underlying t=J (.array m e):=by exact uF Z)(h:TI eD e z s bs:=by exact tF Z)(hi:i<m:=by omega):EX eD n U (.indexAddr t x y) ty w (.pointer (J ⟨b,o+i*s,Aa⟩)) w:=PM hu h hx hy hi
def Xln(hx:ev U x=J (.slice A len cap):=by exact Z)(hu:eD.underlying t=J (.slice e):=by exact uF Z):EX eD n U (.call { callee:=.builtin .len,args:=#[x],argTypes:=#[t] }) ty w (.int .i64 (len:H)) w:=PN hu hx
def XlS{q:Bg}(hx:ev U x=J (str q):=by exact Z)(hu:eD.underlying t=J .string:=by exact uF Z):EX eD n U (.call { callee:=.builtin .len,args:=#[x],argTypes:=#[t] }) ty w (.int .i64 (Alz q:H)) w:=Wv hu hx
def XiS{q:Bg}(hx:ev U x=J (str q):=by exact Z)(hy:NV U y k i:=by first|exact NV.c|exact Di Z)(hu:eD.underlying t=J .string:=by exact uF Z)(hi:i<Alz q:=by omega):EX eD n U (.index t x y) ty w (.int .u8 (q[i].toNat:H)) w:=FQ hu hx hy (BQ hi)
def XaS{q r:Bg}(hx:ev U x=J (str q):=by exact Z)(hy:ev U y=J (str r):=by exact Z)(h:Alz q+Alz r<=9223372036854775807:=by first|omega|(simp only[Bx,CF,ET,BW,CA,Cn];omega)):EX eD n U (.binOp .add t x y t') ty w (str (q++r)) w:=Kd hx hy h
def BR(h:w.cell? ⟨b,o,Aa⟩=J v)(hx:ev U x=J (.pointer (J ⟨b,o,Aa⟩)):=by exact Z)(hu:eD.underlying t=J dd:=by exact uF Z)(hd:flat dd=Af:=by exact Z):EX eD n U (.load t x) ty w v w:=CV hu hd hx h
def Bo(h:Bk w b T l)(hx:ev U x=J (.pointer (J ⟨b,o,Aa⟩)):=by exact Z)(hi:l[o]? =J v:=by exact Z)(hu:eD.underlying t=J dd:=by exact uF Z)(hd:flat dd=Af:=by exact Z):EX eD n U (.load t x) ty w v w:=CV hu hd hx (h.I hi)
def Xll(hx:ev U x=J (.pointer (J ⟨b,o,Aa⟩)):=by exact Z)(hc:Bk w b T l:=by with_reducible assumption)(hi:l[o]? =J v:=by exact Z)(hu:eD.underlying t=J dd:=by exact uF Z)(hd:flat dd=Af:=by exact Z):EX eD n U (.load t x) ty w v w:=CV hu hd hx (hc.I hi)
def BX(p:Bk w b T l)(hx:ev U x=J (.pointer (J ⟨b,0,Aa⟩)):=by exact Z)(h:TI eD t z s bs:=by exact tF Z)(hs:Alz l=s:=by exact Z)(hu:eD.underlying t=J dd:=by exact uF Z)(hd:flat dd=Ai:=by exact Z):EX eD n U (.load t x) ty w (.agg l.toArray) w:=Ke hu hd h hx p hs
def Dj(l:Bl)(p:∀j u,l[j]? =J u->w.cell? ⟨b,o+j,Aa⟩=J u)(hx:ev U x=J (.pointer (J ⟨b,o,Aa⟩)):=by exact Z)(h:TI eD t z s bs:=by exact tF Z)(hs:Alz l=s:=by exact Z)(hu:eD.underlying t=J dd:=by exact uF Z)(hd:flat dd=Ai:=by exact Z):EX eD n U (.load t x) ty w (.agg l.toArray) w:=KY hu hd h hx hs p
def rR{q:AB}(hx:ev U x=J (.pointer (J q)):=by exact Z)(hy:ev U y=J (.pointer Aa):=by exact Z)(hu:eD.underlying t=J (.pointer e):=by exact uF Z):EX eD n U (.binOp .eql t x y T) ty w (.bool Ai) w:=pU hu hx hy
def rQ(hx:ev U x=J (.pointer Aa):=by exact Z)(hy:ev U y=J (.pointer Aa):=by exact Z)(hu:eD.underlying t=J (.pointer e):=by exact uF Z):EX eD n U (.binOp .eql t x y T) ty w (.bool Af) w:=pT hu hx hy
def rP{q:AB}(hx:ev U x=J (.slice (J q) len cap):=by exact Z)(hy:ev U y=J (.slice Aa 0 0):=by exact Z)(hu:eD.underlying t=J (.slice e):=by exact uF Z):EX eD n U (.binOp .eql t x y T) ty w (.bool Ai) w:=pR hu hx hy
def rO(hx:ev U x=J (.slice Aa len cap):=by exact Z)(hy:ev U y=J (.slice Aa 0 0):=by exact Z)(hu:eD.underlying t=J (.slice e):=by exact uF Z):EX eD n U (.binOp .eql t x y T) ty w (.bool Af) w:=pQ hu hx hy
def DR{q:Bg}(h:Sl w B A (BI q))(hx:ev U x=J (.slice A len cap):=by exact Z)(hl:Alz q=len:=by exact Z)(hu:eD.underlying t=J (.slice e):=by exact uF Z)(he:eD.underlying e=J (.int .u8):=by exact uF Z)(ht':eD.underlying t'=J .string:=by exact uF Z):EX eD n U (.convert t t' x) ty w (str q) w:=qA hu he ht' hx h hl
def XbS{BN:Ap (Y×AD)}{pl:Ae (Y×Y)}{ks is:Bj}{zs:Bl}(h:eD.underlying t=J (.struct fs):=by exact uF Z)(hi:TI eD t (.agg zs.toArray) s bs:=by exact tF Z)(hp0:(pTab.get (fun e=>e.1) t).map (fun e=>e.2)=J pl:=by exact Z)(hp:places eD fs.toList=J pl:=by kernel_rfl)(hk:BN.toList.map (·.1)=ks:=by exact Z)(his:ks=is:=by exact Z)(hv:evs U (BN.toList.map (·.2))=J vs:=by exact Z)(hc:Pk pl (Alz zs) ks is=Af:=by exact Z)(h1:vs.all (·.oneCell')=Af:=by first|rfl|(simp only[Hb,Hc,GZ,Hu,Bool.and_eq_true,Value.oneCell'];repeat (first|assumption|exact Bn.one Ck|constructor)))(hl:LI zs is vs=l:=by exact Z):EX eD n U (.build t BN) ty w (.agg l.toArray) w:=RD h hi hp hk hv hc h1 hl
def nV{p:Prop}(h:p:=by first|exact NV.c|exact Di Z):p:=h
def Xx{p:Prop}(h:p:=by first|(apply EX.move;exact Z)|(apply HI;exact Z)|(apply EX.extract;exact Z;exact Z)|(apply DU;exact Z)|(apply XfA;exact Z;exact uF Z;exact Z;exact tF Z;exact Z)|(apply Xll;exact Z;(with_reducible assumption);exact Z;exact uF Z;exact Z)|(apply Xi0;exact Z;exact nV;omega;exact uF Z;exact tF Z)|(apply Xi1;exact Z;exact nV;omega;exact uF Z;exact tF Z)|(apply Xlss;exact nV;exact nV)|(apply Xneq;exact nV;exact nV)|(apply Xeql;exact nV;exact nV)|(apply Xadd;exact nV;exact nV;simp only[maxN];omega)|(apply Xsub;exact nV;exact nV;simp only[maxN];omega)|(apply Xln;exact Z;exact uF Z)|(apply XlS;exact Z;exact uF Z)|(apply Xgtr;exact nV;exact nV)|(apply Xgeq;exact nV;exact nV)|(apply Xleq;exact nV;exact nV)|(apply Xmul;exact nV;exact nV;simp only[maxN];omega)|(apply de;exact Z;exact Z)|(apply TF;exact Z;exact Z)|exact qt Z|(apply qq;exact Z)|(apply Xcv;exact uF Z;exact uF Z;exact nV;simp only[maxN];omega)|(apply Xcw 256;exact uF Z;exact uF Z;exact nV;exact Z;decide)|(apply Xcw 4294967296;exact uF Z;exact uF Z;exact nV;exact Z;decide)|(apply Xcw 18446744073709551616;exact uF Z;exact uF Z;exact nV;exact Z;decide)|(apply Xcw 65536;exact uF Z;exact uF Z;exact nV;exact Z;decide)|(apply XbS;exact uF Z;exact tF Z;exact Z;(show _=_;kernel_rfl);(show _=_;simp only[Cm,Em,List.toList_toArray]<;>exact Z);exact Z;exact Z;exact Z;(first|rfl|(simp only[Hb,Hc,GZ,Hu,Bool.and_eq_true,Value.oneCell'];repeat (first|assumption|exact Bn.one Ck|constructor)));(show _=_;simp only[LI,IW,Lj]<;>exact Z))|(apply XiS;exact Z;exact nV;exact uF Z;omega)|(apply XaS;exact Z;exact Z;(first|omega|(simp only[Bx,CF,ET,BW,CA,Cn];omega)))|(apply Xis;exact Z;exact nV;omega;exact uF Z;exact tF Z)|(apply Xa0;exact Z;exact nV;exact uF Z;exact tF Z;omega)|(apply Xa1;exact Z;exact nV;exact uF Z;exact tF Z;omega)|(apply Xas;exact Z;exact nV;exact uF Z;exact tF Z;omega)|(apply Xquo;exact nV;exact nV;simp only[maxN];omega)|(apply Xrem;exact nV;exact nV;omega)|(apply Xmin;exact nV;exact nV)|(apply Xmax;exact nV;exact nV)|(apply Xshl;exact nV;exact nV;(show _=_;simp only[Xe]<;>exact Z);decide;simp only[maxN];omega)|(apply Xshr;exact nV;exact nV;(show _=_;simp only[Xe]<;>exact Z);decide)|(apply rR;exact Z;exact Z;exact uF Z)|(apply rQ;exact Z;exact Z;exact uF Z)|(apply rP;exact Z;exact Z;exact uF Z)|(apply rO;exact Z;exact Z;exact uF Z)|(apply cU;exact Z;exact Z)|(apply qc;exact Z;exact Z)|(apply cS;exact Z;exact Z)|(apply pZ;exact Z;exact Z)|(apply Wu;exact Z;exact Z)|(apply qp;exact Z;exact Z)|(apply TA (m:=9223372036854775807);exact Z;exact Z;exact Z;exact Z;omega)|(apply RH (m:=9223372036854775807);exact Z;exact Z;exact Z;exact Z;omega)|(apply HJ;exact Z;exact Z)|(apply MV;exact Z;exact Z)):p:=h
def Zv(he:EX eD n U op ty w v w':=by exact Xx)(hg:BJ ops U g=J Af:=by exact Z)(hd:BK d n=Af:=by exact Z)(h:OW eD R ops rest K n ((d,v)::U) w'):OW eD R ops (⟨J d,op,ty,pos,after,g⟩::rest) K n U w:=OW.val hg hd he h
def Zq(he:∀m,EX eD n U op ty (w.drewN m) v (w.drewN m):=by intro j;first|exact Xx|exact Bo (Bk.drewN (by with_reducible assumption) _))(hg:BJ ops U g=J Af:=by exact Z)(hd:BK d n=Af:=by exact Z)(h:QW eD R ops rest K n ((d,v)::U) w):QW eD R ops (⟨J d,op,ty,pos,after,g⟩::rest) K n U w:=QW.val hg hd he h
def Zc{p:Ae AD}(q:Bm eD fid vs w Q)(hx:evs U p=J vs:=by exact Z)(hg:BJ ops U g=J Af:=by exact Z)(hd:BK d n=Af:=by exact Z)(h:∀v w',Q v w'->OW eD R ops rest K n ((d,v)::U) w'):OW eD R ops (⟨J d,.call { callee:=.value (.func fid),args:=p.toArray,argTypes:=ats },ty,pos,after,g⟩::rest) K n U w:=OW.call hg hd hx q h
def Zs(p:Bk w b T' l)(hi:TI eD T z s bs:=by exact tF Z)(hx:ev U x=J (.pointer (J ⟨b,o,Aa⟩)):=by exact Z)(hy:ev U y=J (.agg vs.toArray):=by exact Z)(hs:Alz vs=s:=by exact Z)(h1:vs.all (·.oneCell')=Af:=by first|rfl|(simp only[Hb,Hc,GZ,Hu,Bool.and_eq_true,Value.oneCell'];repeat (first|assumption|exact Bn.one Ck|constructor)))(hlt:o+Alz vs<=Alz l:=by first|decide|(simp;done)|omega)(hg:BJ ops U g=J Af:=by exact Z)(h:∀w',Bk w' b T' (l.take o++vs++l.drop (o+Alz vs))->Mo w w' [b]->OW eD R ops rest K n U w'):OW eD R ops (⟨Aa,.store T x y,ty,pos,after,g⟩::rest) K n U w:=Uo hg hi hx hy hs h1 p hlt h
def Zt(p:Bk w b T' l)(hi:TI eD T z 1 bs:=by exact tF Z)(hx:ev U x=J (.pointer (J ⟨b,o,Aa⟩)):=by exact Z)(hy:ev U y=J v:=by exact Z)(h1:v.oneCell'=Af:=by first|rfl|assumption|exact Bn.one Ck)(hlt:o<Alz l:=by first|decide|(simp;done)|omega|(simp;omega))(hg:BJ ops U g=J Af:=by exact Z)(h:∀w',Bk w' b T' (l.set o v)->Mo w w' [b]->OW eD R ops rest K n U w'):OW eD R ops (⟨Aa,.store T x y,ty,pos,after,g⟩::rest) K n U w:=Un hg hi hx hy h1 p hlt h
def EF(i:Y){p:Prop}[Decidable p](ht:lk U i=J (.bool (decide p)):=by exact Z)(e:p:=by first|omega|assumption|decide)(h:KW eD R K n ((i,.bool Af)::U) w):KW eD R K n U w:=KW.as i _ ht (AF Value.bool (AM e)) h
def Ci(i:Y){p:Prop}[Decidable p](ht:lk U i=J (.bool (decide p)):=by exact Z)(e:¬p:=by first|omega|assumption|decide|exact fun h=>h Z)(h:KW eD R K n ((i,.bool Ai)::U) w):KW eD R K n U w:=KW.as i _ ht (AF Value.bool (AN e)) h
def Zoa(i:Y){p:Prop}[Decidable p](ht:lk U i=J (.bool (decide p)):=by exact Z)(e:p:=by first|omega|assumption|decide|exact fun h=>h Z)(h:OW eD R ops rest K n ((i,.bool Af)::U) w):OW eD R ops rest K n U w:=OW.as i _ ht (AF Value.bool (AM e)) h
def Kw(i:Y){p:Prop}[Decidable p](ht:lk U i=J (.bool (decide p)):=by exact Z)(e:¬p:=by first|omega|assumption|decide|exact fun h=>h Z)(h:OW eD R ops rest K n ((i,.bool Ai)::U) w):OW eD R ops rest K n U w:=OW.as i _ ht (AF Value.bool (AN e)) h
def Zqa(i:Y){p:Prop}[Decidable p](ht:lk U i=J (.bool (decide p)):=by exact Z)(e:p:=by first|omega|assumption|decide|exact fun h=>h Z)(h:QW eD R ops rest K n ((i,.bool Af)::U) w):QW eD R ops rest K n U w:=QW.as i _ ht (AF Value.bool (AM e)) h
def Zqf(i:Y){p:Prop}[Decidable p](ht:lk U i=J (.bool (decide p)):=by exact Z)(e:¬p:=by first|omega|assumption|decide|exact fun h=>h Z)(h:QW eD R ops rest K n ((i,.bool Ai)::U) w):QW eD R ops rest K n U w:=QW.as i _ ht (AF Value.bool (AN e)) h
def Zga(i:Y){p:Prop}[Decidable p](ht:lk U i=J (.bool (decide p)):=by exact Z)(e:p:=by first|omega|assumption|decide|exact fun h=>h Z)(h:GW eD R ops S fuel listed K n ((i,.bool Af)::U) w):GW eD R ops S fuel listed K n U w:=GW.as i _ ht (AF Value.bool (AM e)) h
def Ng(i:Y){p:Prop}[Decidable p](ht:lk U i=J (.bool (decide p)):=by exact Z)(e:¬p:=by first|omega|assumption|decide|exact fun h=>h Z)(h:GW eD R ops S fuel listed K n ((i,.bool Ai)::U) w):GW eD R ops S fuel listed K n U w:=GW.as i _ ht (AF Value.bool (AN e)) h
def Zi{p:Prop}[Decidable p]{u:AL}(ht:p->KW eD R (.code c::K) n U w)(hf:¬p->KW eD R (.code u::K) n U w)(h:ev U x=J (.bool (decide p)):=by exact Z):KW eD R (.code (.cond x c u)::K) n U w:=TK h ht hf
def Zd(i:Y){p:Prop}[Decidable p](h1:p->OW eD R ops rest K n ((i,.bool Af)::U) w)(h2:¬p->OW eD R ops rest K n ((i,.bool Ai)::U) w)(h:lk U i=J (.bool (decide p)):=by exact Z):OW eD R ops rest K n U w:=rJ i h h1 h2
def Nh(i:Y){p:Prop}[Decidable p](h1:p->QW eD R ops rest K n ((i,.bool Af)::U) w)(h2:¬p->QW eD R ops rest K n ((i,.bool Ai)::U) w)(h:lk U i=J (.bool (decide p)):=by exact Z):QW eD R ops rest K n U w:=rN i h h1 h2
def Bu{fn:Func}{q:Y}(p:fn.results=#[.tmp q]:=by exact Z)(hv:lk U q=J v:=by exact Z)(h:Q v w):KW eD (fun a w'=>bodyPost eD fn (fun e w'=>∃v,e=.returned v/\Q v w') .ret a w') (.code .ret::K) n U w:=DC (ret1 p hv h)
def BF{fn:Func}{q r:Y}{u:Ah}(p:fn.results=#[.tmp q,.tmp r]:=by exact Z)(hv:lk U q=J v:=by exact Z)(hu:lk U r=J u:=by exact Z)(h:Q (.tuple #[v,u]) w):KW eD (fun a w'=>bodyPost eD fn (fun e w'=>∃v,e=.returned v/\Q v w') .ret a w') (.code .ret::K) n U w:=DC (ret2 p hv hu h)
def Cy{fn:Func}{q r s:Y}{u x:Ah}(p:fn.results=#[.tmp q,.tmp r,.tmp s]:=by exact Z)(hv:lk U q=J v:=by exact Z)(hu:lk U r=J u:=by exact Z)(hx:lk U s=J x:=by exact Z)(h:Q (.tuple #[v,u,x]) w):KW eD (fun a w'=>bodyPost eD fn (fun e w'=>∃v,e=.returned v/\Q v w') .ret a w') (.code .ret::K) n U w:=DC (ret3 p hv hu hx h)
def Bkf{ι:Type}(n:Y)(F:ι->Prop×BG×Ad×Y)(i:ι):AE->Ad->Prop:=NW n (fun p=>(F p).1) (fun p=>(F p).2.1) (fun p=>(F p).2.2.1) (fun p=>(F p).2.2.2) i
def Mtf{ι:Type}(n:Y)(F:ι->Prop×BG×Ad):AE->Ad->Prop:=Met n (fun p=>(F p).1) (fun p=>(F p).2.1) (fun p=>(F p).2.2)
def Lo{ι:Type}(F:ι->Prop×BG×Ad×Y)(i:ι)(hi:match F i with|(I,_)=>I)(h:∀i,match F i with|(I,S,W,_)=>I->KW eD R (.code c::.asr (Bkf n F i)::K) n S W)(q:match F i with|(_,S,W,_)=>DZ S U/\w=W:=by refine⟨?_,?_⟩;repeat (first|exact Ay|exact Z|refine⟨Z,?_⟩)):KW eD R (.code (.loop c)::K) n U w:=RL _ _ _ (fun p=>(F p).2.2.2) i q.1 q.2 hi fun j r=>(h j) r
def Lb{ι:Type}{F:ι->Prop×BG×Ad×Y}{i:ι}(j:ι)(hi:match F j with|(I,_)=>I)(h:match F j with|(_,S,W,_)=>DZ S U/\w=W:=by refine⟨?_,?_⟩;repeat (first|exact Ay|exact Z|refine⟨Z,?_⟩))(hm:match F j,F i with|(_,_,_,a),(_,_,_,b)=>a<b:=by show _<_;omega):KW eD R (.asr (Bkf n F i)::K) n U w:=KW.back (μ:=fun p=>(F p).2.2.2) j h.1 h.2 hi hm
def Lm{ι:Type}{F:ι->Prop×BG×Ad}(j:ι)(h:match F j with|(_,S,W)=>DZ S U/\w=W:=by refine⟨?_,?_⟩;repeat (first|exact Ay|exact Z|refine⟨Z,?_⟩))(hi:match F j with|(I,_)=>I):KW eD R (.asr (Mtf n F)::K) n U w:=dF j h.1 h.2 hi
def Lc{ι:Type}(F:ι->Prop×BG×Ad)(h:KW eD R (.code c::.asr (Mtf n F)::K) n U w)(h2:∀i,match F i with|(I,S,W)=>I->KW eD R K n S W):KW eD R (.code c::K) n U w:=KW.cut _ _ _ h fun j hj=>(h2 j) hj
def Ld{ι:Type}(F:ι->Prop×BG×Ad)(h:KW eD R (.code c::.code c'::.asr (Mtf n F)::K) n U w)(h2:∀i,match F i with|(I,S,W)=>I->KW eD R K n S W):KW eD R (.code c::.code c'::K) n U w:=re _ _ _ h fun j hj=>(h2 j) hj
def Yv(hi:ops[i]? =J ⟨J d,op,ty,pos,after,g⟩:=by exact Z)(hf:Region.free .any ops listed i=Af:=by kernel_rfl)(hr:(Region.ready .any ops listed).contains i=Af:=by kernel_rfl)(hs:Region.noSelect ops=Af:=by kernel_rfl)(hg:BJ ops U g=J Af:=by exact Z)(hd:BK d n=Af:=by exact Z)(hS:S w:=by assumption)(he:∀w',S w'->EX eD n U op ty w' v w':=by intro w' p;first|exact Xx|exact Bo p|exact Bo p.1|exact Bo p.2|exact Bo p.2.1|exact Bo p.2.2|exact Bo p.2.2.1|exact Bo p.2.2.2|exact Bo p.2.2.2.1):Tg i (GW eD R ops S fuel (listed.setIfInBounds i Af) K n ((d,v)::U) w) (GW eD R ops S (fuel+1) listed K n U w):=⟨fun h=>GW.val i hi hs hf hr hg hd hS he h⟩
def Yp(hi:ops[i]? =J ⟨J d,op,ty,pos,after,g⟩:=by exact Z)(hf:Region.free .any ops listed i=Af:=by kernel_rfl)(hr:(Region.ready .any ops listed).contains i=Af:=by kernel_rfl)(hs:Region.noSelect ops=Af:=by kernel_rfl)(hg:BJ ops U g=J Ai:=by exact Z)(hd:BK d n=Af:=by exact Z)(hS:S w:=by assumption):Tg i (GW eD R ops S fuel (listed.setIfInBounds i Af) K n ((d,undef)::U) w) (GW eD R ops S (fuel+1) listed K n U w):=⟨fun h=>qF i hi hs hf hr hg hd hS h⟩
def Yc(i:Y){p:Ae AD}(q:Bm eD fid vs w Q)(hi:ops[i]? =J ⟨J d,(.call { callee:=.value (.func fid),args:=p.toArray,argTypes:=ats }),ty,pos,after,g⟩:=by exact Z)(hr:Region.ready .any ops listed=[i]:=by kernel_rfl)(hg:BJ ops U g=J Af:=by exact Z)(hd:BK d n=Af:=by exact Z)(hx:evs U p=J vs:=by exact Z)(h:∀v w',Q v w'->S w'/\(S w'->GW eD R ops S fuel (listed.setIfInBounds i Af) K n ((d,v)::U) w')):GW eD R ops S (fuel+1) listed K n U w:=GW.call i hi hr hg hd hx q h
def Yt(i:Y)(p:Bk w b T' l)(hi:ops[i]? =J ⟨Aa,.store T x y,ty,pos,after,g⟩:=by exact Z)(hr:Region.ready .any ops listed=[i]:=by kernel_rfl)(hg:BJ ops U g=J Af:=by exact Z)(ht:TI eD T z 1 bs:=by exact tF Z)(hx:ev U x=J (.pointer (J ⟨b,o,Aa⟩)):=by exact Z)(hy:ev U y=J v:=by exact Z)(h1:v.oneCell'=Af:=by first|rfl|assumption|exact Bn.one Ck)(hlt:o<Alz l:=by first|decide|(simp;done)|omega|(simp;omega))(h:∀w',Bk w' b T' (l.set o v)->Mo w w' [b]->S w'/\(S w'->GW eD R ops S fuel (listed.setIfInBounds i Af) K n U w')):GW eD R ops S (fuel+1) listed K n U w:=dy i hi hr hg ht hx hy h1 p hlt h
def Ys(i:Y)(p:Bk w b T' l)(hi:ops[i]? =J ⟨Aa,.store T x y,ty,pos,after,g⟩:=by exact Z)(hr:Region.ready .any ops listed=[i]:=by kernel_rfl)(hg:BJ ops U g=J Af:=by exact Z)(ht:TI eD T z s bs:=by exact tF Z)(hx:ev U x=J (.pointer (J ⟨b,o,Aa⟩)):=by exact Z)(hy:ev U y=J (.agg vs.toArray):=by exact Z)(hs:Alz vs=s:=by exact Z)(h1:vs.all (·.oneCell')=Af:=by first|rfl|(simp only[Hb,Hc,GZ,Hu,Bool.and_eq_true,Value.oneCell'];repeat (first|assumption|exact Bn.one Ck|constructor)))(hlt:o+Alz vs<=Alz l:=by first|decide|(simp;done)|omega)(h:∀w',Bk w' b T' (l.take o++vs++l.drop (o+Alz vs))->Mo w w' [b]->S w'/\(S w'->GW eD R ops S fuel (listed.setIfInBounds i Af) K n U w')):GW eD R ops S (fuel+1) listed K n U w:=dz i hi hr hg ht hx hy hs h1 p hlt h
def Yn(i:Y)(hi:ops[i]? =J ⟨J d,.alloc T,ty,pos,after,g⟩:=by exact Z)(hr:Region.ready .any ops listed=[i]:=by kernel_rfl)(hg:BJ ops U g=J Af:=by exact Z)(hd:BK d n=Af:=by exact Z)(ht:TI eD T (.agg l.toArray) s bs:=by exact tF Z)(hl:((.agg l.toArray):Ah).cells.toList=l:=by exact Z)(h:∀b w',w.heap.size<=b->Bk w' b T l->Be w w'->S w'/\(S w'->GW eD R ops S fuel (listed.setIfInBounds i Af) K n ((d,.pointer (J ⟨b,0,Aa⟩))::U) w')):GW eD R ops S (fuel+1) listed K n U w:=du i hi hr hg hd ht hl h
def Ym(i:Y)(hi:ops[i]? =J ⟨J d,.alloc T,ty,pos,after,g⟩:=by exact Z)(hr:Region.ready .any ops listed=[i]:=by kernel_rfl)(hg:BJ ops U g=J Af:=by exact Z)(hd:BK d n=Af:=by exact Z)(ht:TI eD T z s bs:=by exact tF Z)(hl:(z:Ah).cells.toList=[z]:=by exact Z)(h:∀b w',w.heap.size<=b->Bk w' b T [z]->Be w w'->S w'/\(S w'->GW eD R ops S fuel (listed.setIfInBounds i Af) K n ((d,.pointer (J ⟨b,0,Aa⟩))::U) w')):GW eD R ops S (fuel+1) listed K n U w:=du i hi hr hg hd ht hl h
def Yo(i:Y)(hi:ops[i]? =J ⟨J d,op,ty,pos,after,g⟩:=by exact Z)(hr:Region.ready .any ops listed=[i]:=by kernel_rfl)(hg:BJ ops U g=J Af:=by exact Z)(hd:BK d n=Af:=by exact Z)(he:EX eD n U op ty w v w)(hS:S w:=by assumption)(h:S w->GW eD R ops S fuel (listed.setIfInBounds i Af) K n ((d,v)::U) w):GW eD R ops S (fuel+1) listed K n U w:=GW.new i hi hr hg hd he ⟨hS,h⟩
def Jc(i:Y){p:Ae AD}(q:Bm eD fid vs w Q)(hi:ops[i]? =J ⟨J d,(.call { callee:=.value (.func fid),args:=p.toArray,argTypes:=ats }),ty,pos,after,g⟩:=by exact Z)(hg:BJ ops U g=J Af:=by exact Z)(hd:BK d n=Af:=by exact Z)(hx:evs U p=J vs:=by exact Z)(h:∀v w',Q v w'->S w'/\(S w'->GW eD R ops S fuel (listed.setIfInBounds i Af) K n ((d,v)::U) w')):GO eD R ops S fuel listed K n U w i:=GO.call i hi hg hd hx q h
def Jn(i:Y)(hi:ops[i]? =J ⟨J d,.alloc T,ty,pos,after,g⟩:=by exact Z)(hg:BJ ops U g=J Af:=by exact Z)(hd:BK d n=Af:=by exact Z)(ht:TI eD T (.agg l.toArray) s bs:=by exact tF Z)(hl:((.agg l.toArray):Ah).cells.toList=l:=by exact Z)(h:∀b w',w.heap.size<=b->Bk w' b T l->Be w w'->S w'/\(S w'->GW eD R ops S fuel (listed.setIfInBounds i Af) K n ((d,.pointer (J ⟨b,0,Aa⟩))::U) w')):GO eD R ops S fuel listed K n U w i:=dr i hi hg hd ht hl h
def Jm(i:Y)(hi:ops[i]? =J ⟨J d,.alloc T,ty,pos,after,g⟩:=by exact Z)(hg:BJ ops U g=J Af:=by exact Z)(hd:BK d n=Af:=by exact Z)(ht:TI eD T z s bs:=by exact tF Z)(hl:(z:Ah).cells.toList=[z]:=by exact Z)(h:∀b w',w.heap.size<=b->Bk w' b T [z]->Be w w'->S w'/\(S w'->GW eD R ops S fuel (listed.setIfInBounds i Af) K n ((d,.pointer (J ⟨b,0,Aa⟩))::U) w')):GO eD R ops S fuel listed K n U w i:=dr i hi hg hd ht hl h
def Jo(i:Y)(hi:ops[i]? =J ⟨J d,op,ty,pos,after,g⟩:=by exact Z)(hg:BJ ops U g=J Af:=by exact Z)(hd:BK d n=Af:=by exact Z)(he:EX eD n U op ty w v w)(hS:S w:=by assumption)(h:S w->GW eD R ops S fuel (listed.setIfInBounds i Af) K n ((d,v)::U) w):GO eD R ops S fuel listed K n U w i:=GO.new i hi hg hd he ⟨hS,h⟩
def Yw(i:Y)(hi:ops[i]? =J ⟨J d,op,ty,pos,after,g⟩:=by exact Z)(hf:Region.free .any ops listed i=Af:=by kernel_rfl)(hr:(Region.ready .any ops listed).contains i=Af:=by kernel_rfl)(hs:Region.noSelect ops=Af:=by kernel_rfl)(hg:BJ ops U g=J Af:=by exact Z)(hd:BK d n=Af:=by exact Z)(hS:S w:=by assumption)(he:∀w',S w'->EX eD n U op ty w' v w')(h:GW eD R ops S fuel (listed.setIfInBounds i Af) K n ((d,v)::U) w):GW eD R ops S (fuel+1) listed K n U w:=GW.val i hi hs hf hr hg hd hS he h
def Yr(N:Y)(S:Ad->Prop){id:Y}{vl:Ae AG}(p:S w.drew)(hm:eD.follows .mixedOrders=Af:=by kernel_rfl)(hN:vl.toArray.size=N:=by exact Z)(h:S w.drew->GW eD R vl.toArray S N (Jv N Ai) K n U w.drew):KW eD R (.code (.region id vl.toArray Af)::K) n U w:=PR S hm hN (h p)
def Zn(hi:TI eD T (.agg l.toArray) s bs:=by exact tF Z)(hl:((.agg l.toArray):Ah).cells.toList=l:=by exact Z)(hg:BJ ops U g=J Af:=by exact Z)(hd:BK d n=Af:=by exact Z)(h:∀b w',w.heap.size<=b->Bk w' b T l->Be w w'->OW eD R ops rest K n ((d,.pointer (J ⟨b,0,Aa⟩))::U) w'):OW eD R ops (⟨J d,.alloc T,ty,pos,after,g⟩::rest) K n U w:=dT hg hd hi hl h
def Mf(hi:TI eD T z s bs:=by exact tF Z)(hl:(z:Ah).cells.toList=[z]:=by exact Z)(hg:BJ ops U g=J Af:=by exact Z)(hd:BK d n=Af:=by exact Z)(h:∀b w',w.heap.size<=b->Bk w' b T [z]->Be w w'->OW eD R ops rest K n ((d,.pointer (J ⟨b,0,Aa⟩))::U) w'):OW eD R ops (⟨J d,.alloc T,ty,pos,after,g⟩::rest) K n U w:=dT hg hd hi hl h
def Ct(i:Y)(u:Ah)(ht:lk U i=J v:=by exact Z)(e:v=u:=by rfl)(h:KW eD R K n ((i,u)::U) w):KW eD R K n U w:=KW.as i u ht e h
def Ea{q r vs xs:Bl}{p:Ae AD}(D:Bm eD fid xs w Q)(C:BJ ops U g=J Af:=by exact Z)(hd:BK d n=Af:=by exact Z)(ht:ev U f=J (.func (.func fid) q.toArray r.toArray):=by exact Z)(hx:evs U p=J vs:=by exact Z)(he:q++vs++r=xs:=by exact Z)(h:∀v w',Q v w'->OW eD R ops rest K n ((d,v)::U) w'):OW eD R ops (⟨J d,.call { callee:=.value f,args:=p.toArray,argTypes:=ats },ty,pos,after,g⟩::rest) K n U w:=rC C hd ht hx he D h
def Gc(p:eD.underlying t=J (.slice e):=by exact uF Z)(hti:TI eD e z 1 bs:=by exact tF Z)(hz1:z.oneCell'=Af:=by exact Z)(hx:NV U x k len:=by exact nV)(hy:NV U y k' len:=by exact nV)(hb:bs*len<=281474976710656:=by omega)(h63:len<=9223372036854775807:=by omega)(hg:BJ ops U g=J Af:=by exact Z)(hd:BK d n=Af:=by exact Z)(h:∀b w',w.heap.size<=b->Bk w' b e (BH len z)->Be w w'->OW eD R ops rest K n ((d,.slice (J ⟨b,0,Aa⟩) len len)::U) w'):OW eD R ops (⟨J d,.makeSlice t x y,ty,pos,after,g⟩::rest) K n U w:=Xh hg hd p hti hz1 hx hy hb h63 h
def Hk{d1 G:Y}{r:AJ}{p:Ap Edge}{E:Av (Y×Ar)}{v:Ah}{l:Y}{xs:Bl}{u:Ah}(D:Be w0 w)(C:Bn w w0.heap.size e 1 v l xs)(I:BJ ops U E=J Af:=by exact Z)(hd1:BK d1 n=Af:=by exact Z)(hg:∀u,BJ ops ((d1,u)::U) g=J Af:=by exact fun _=>rfl)(hd:BK d n=Af:=by exact Z)(ht:eD.underlying t=J (.slice e):=by exact uF Z)(hi:TI eD e z 1 bs:=by exact tF Z)(hz1:z.oneCell'=Af:=by exact Z)(hy:ev U y=J u:=by exact Z)(hx:∀q,ev ((d1,q)::U) x=J v:=by exact fun _=>rfl)(hu:u.oneCell'=Af:=by first|rfl|assumption|exact Bn.one Ck)(h63:l+1<=maxLen:=by simp only[maxLen];omega)(hbytes:(l+1)*bs<=140737488355328:=by omega)(h:∀q v' w',Bn w' w0.heap.size e 1 v' (l+1) (xs++[u])->Be w0 w'->w.grownBy w' (Pi v)->(Pi v'=Pi v∨∃g,Pi v'=J g/\w.heap.size<=g)->OW eD R ops rest K n ((d,v')::(d1,q)::U) w'):OW eD R ops (⟨J d1,.buildSlice t 1 #[(0,y)],G,r,p,E⟩::⟨J d,.call { callee:=.builtin .append,args:=#[x,.tmp d1],argTypes:=#[t,t] },ty,pos,after,g⟩::rest) K n U w:=OW.push I hd1 hg hd ht hi hz1 hy hx hu D C h63 hbytes h
def Qk{d1 E:Y}{r:AJ}{p:Ap Edge}{D:Av (Y×Ar)}{v:Ah}{l:Y}{xs:Bl}{u:Ah}(B:Y)(I:B<=w.heap.size)(C:Bn w B e 1 v l xs)(G:BJ ops U D=J Af:=by exact Z)(hd1:BK d1 n=Af:=by exact Z)(hg:∀u,BJ ops ((d1,u)::U) g=J Af:=by exact fun _=>rfl)(hd:BK d n=Af:=by exact Z)(ht:eD.underlying t=J (.slice e):=by exact uF Z)(hi:TI eD e z 1 bs:=by exact tF Z)(hz1:z.oneCell'=Af:=by exact Z)(hy:ev U y=J u:=by exact Z)(hx:∀q,ev ((d1,q)::U) x=J v:=by exact fun _=>rfl)(hu:u.oneCell'=Af:=by first|rfl|assumption|exact Bn.one Ck)(h63:l+1<=maxLen:=by simp only[maxLen];omega)(hbytes:(l+1)*bs<=140737488355328:=by omega)(h:∀q v' w',Bn w' B e 1 v' (l+1) (xs++[u])->Mo w w' v.ownBlock.toList->(Pi v'=Pi v∨∃g,Pi v'=J g/\w.heap.size<=g)->OW eD R ops rest K n ((d,v')::(d1,q)::U) w'):OW eD R ops (⟨J d1,.buildSlice t 1 #[(0,y)],E,r,p,D⟩::⟨J d,.call { callee:=.builtin .append,args:=#[x,.tmp d1],argTypes:=#[t,t] },ty,pos,after,g⟩::rest) K n U w:=rG B G hd1 hg hd ht hi hz1 hy hx hu I C h63 hbytes h
def Kx{d1 G:Y}{r:AJ}{p:Ap Edge}{E:Av (Y×Ar)}{v:Ah}{l:Y}{xs:Bl}{vs:Bl}(D:Be w0 w)(C:Bn w w0.heap.size e s v l xs)(I:BJ ops U E=J Af:=by exact Z)(hd1:BK d1 n=Af:=by exact Z)(hg:∀u,BJ ops ((d1,u)::U) g=J Af:=by exact fun _=>rfl)(hd:BK d n=Af:=by exact Z)(ht:eD.underlying t=J (.slice e):=by exact uF Z)(hi:TI eD e z s bs:=by exact tF Z)(hzs:z.cells.size=s:=by exact Z)(hs0:0<s:=by decide)(hs:s<=16777216:=by decide)(hy:ev U y=J (.agg vs.toArray):=by exact Z)(hl:Alz vs=s:=by exact Z)(hx:∀q,ev ((d1,q)::U) x=J v:=by exact fun _=>rfl)(hu:vs.all (·.oneCell')=Af:=by first|rfl|assumption|(simp only[Hb,Hc,GZ,Hu,Bool.and_eq_true,Value.oneCell'];repeat (first|assumption|exact Bn.one Ck|constructor)))(h63:l+1<=maxLen:=by simp only[maxLen];omega)(hbytes:(l+1)*bs<=140737488355328:=by omega)(h:∀q v' w',Bn w' w0.heap.size e s v' (l+1) (xs++vs)->Be w0 w'->w.grownBy w' (Pi v)->OW eD R ops rest K n ((d,v')::(d1,q)::U) w'):OW eD R ops (⟨J d1,.buildSlice t 1 #[(0,y)],G,r,p,E⟩::⟨J d,.call { callee:=.builtin .append,args:=#[x,.tmp d1],argTypes:=#[t,t] },ty,pos,after,g⟩::rest) K n U w:=rH I hd1 hg hd ht hi hzs hs0 hs hy hl hx hu D C h63 hbytes h
def Kv{fn:Func}{q:Y}(r:Bk w b T' l)(p:fn.results=#[.cell q T]:=by exact Z)(hu:eD.underlying T=J dd:=by exact uF Z)(hd:flat dd=Ai:=by exact Z)(hi:TI eD T z s bs:=by exact tF Z)(hv:lk U q=J (.pointer (J ⟨b,0,Aa⟩)):=by exact Z)(hl:Alz l=s:=by exact Z)(h:Q (.agg l.toArray) w):KW eD (fun a w'=>bodyPost eD fn (fun e w'=>∃v,e=.returned v/\Q v w') .ret a w') (.code .ret::K) n U w:=DC (retC1 p hu hd hi hv r hl h)
def Dx{fn:Func}{q r:Y}{u:Ah}(C:Bk w b T' l)(p:fn.results=#[.cell q T,.tmp r]:=by exact Z)(hu:eD.underlying T=J dd:=by exact uF Z)(hd:flat dd=Ai:=by exact Z)(hi:TI eD T z s bs:=by exact tF Z)(hv:lk U q=J (.pointer (J ⟨b,0,Aa⟩)):=by exact Z)(hx:lk U r=J u:=by exact Z)(hl:Alz l=s:=by exact Z)(h:Q (.tuple #[.agg l.toArray,u]) w):KW eD (fun a w'=>bodyPost eD fn (fun e w'=>∃v,e=.returned v/\Q v w') .ret a w') (.code .ret::K) n U w:=DC (retC2 p hu hd hi hv hx C hl h)
def Ye(i j:Y)(h1:GO eD R ops S fuel listed K n U w i)(h2:GO eD R ops S fuel listed K n U w j)(h:Region.ready .any ops listed=[i,j]:=by kernel_rfl):GW eD R ops S (fuel+1) listed K n U w:=GW.two i j h h1 h2
def Xshl{a2:Y}(hx:NV U x k a:=by first|exact NV.c|exact Di Z)(hy:NV U y k' s:=by exact nV)(hp:2 ^ s=a2:=by simp only[Xe]<;>exact Z)(hs:s<=k.bits:=by decide)(h:a*a2<=_root_.Go.Proofs.YtkmlafmjaeeanaaGreatDoor.maxN k:=by simp only[maxN];omega):EX eD n U (.binOp .shl t x y t') ty w (.int k ((a*a2:Y):H)) w:=Hv hx hy hp hs Z h
def Xshr{a2:Y}(hx:NV U x k a:=by first|exact NV.c|exact Di Z)(hy:NV U y k' s:=by exact nV)(hp:2 ^ s=a2:=by simp only[Xe]<;>exact Z)(hs:s<=k.bits:=by decide):EX eD n U (.binOp .shr t x y t') ty w (.int k ((a/a2:Y):H)) w:=IP hx hy hp hs
def Yd(p:Region.ready .any ops listed=[]:=by kernel_rfl)(h:KW eD R K n U w):GW eD R ops S fuel listed K n U w:=GW.done p h
def Rv{R:RP}(he:EX eD n U op ty w v w':=by exact Xx)(hg:BJ ops U g=J Af:=by exact Z)(hd:BK d n=Af:=by exact Z)(h:OR eD R ops rest K n ((d,v)::U) w'):OR eD R ops (⟨J d,op,ty,pos,after,g⟩::rest) K n U w:=OR.val hg hd he h
def Rc{R:RP}{p:Ae AD}(q:Bm eD fid vs w Q)(hx:evs U p=J vs:=by exact Z)(hg:BJ ops U g=J Af:=by exact Z)(hd:BK d n=Af:=by exact Z)(h:∀v w',Q v w'->OR eD R ops rest K n ((d,v)::U) w'):OR eD R ops (⟨J d,.call { callee:=.value (.func fid),args:=p.toArray,argTypes:=ats },ty,pos,after,g⟩::rest) K n U w:=OR.call hg hd hx q h
def Qh{R:RP}{q r vs xs:Bl}{p:Ae AD}(D:Bm eD fid xs w Q)(C:BJ ops U g=J Af:=by exact Z)(hd:BK d n=Af:=by exact Z)(ht:ev U f=J (.func (.func fid) q.toArray r.toArray):=by exact Z)(hx:evs U p=J vs:=by exact Z)(he:q++vs++r=xs:=by exact Z)(h:∀v w',Q v w'->OR eD R ops rest K n ((d,v)::U) w'):OR eD R ops (⟨J d,.call { callee:=.value f,args:=p.toArray,argTypes:=ats },ty,pos,after,g⟩::rest) K n U w:=rn C hd ht hx he D h
def Rt{R:RP}(p:Bk w b T' l)(hi:TI eD T z 1 bs:=by exact tF Z)(hx:ev U x=J (.pointer (J ⟨b,o,Aa⟩)):=by exact Z)(hy:ev U y=J v:=by exact Z)(h1:v.oneCell'=Af:=by first|rfl|assumption|exact Bn.one Ck)(hlt:o<Alz l:=by first|decide|(simp;done)|omega|(simp;omega))(hg:BJ ops U g=J Af:=by exact Z)(h:∀w',Bk w' b T' (l.set o v)->Mo w w' [b]->OR eD R ops rest K n U w'):OR eD R ops (⟨Aa,.store T x y,ty,pos,after,g⟩::rest) K n U w:=ru hg hi hx hy h1 p hlt h
def Ra{R:RP}(hi:TI eD T (.agg l.toArray) s bs:=by exact tF Z)(hl:((.agg l.toArray):Ah).cells.toList=l:=by exact Z)(hg:BJ ops U g=J Af:=by exact Z)(hd:BK d n=Af:=by exact Z)(h:∀b w',w.heap.size<=b->Bk w' b T l->Be w w'->OR eD R ops rest K n ((d,.pointer (J ⟨b,0,Aa⟩))::U) w'):OR eD R ops (⟨J d,.alloc T,ty,pos,after,g⟩::rest) K n U w:=dN hg hd hi hl h
def Rm{R:RP}(hi:TI eD T z s bs:=by exact tF Z)(hl:(z:Ah).cells.toList=[z]:=by exact Z)(hg:BJ ops U g=J Af:=by exact Z)(hd:BK d n=Af:=by exact Z)(h:∀b w',w.heap.size<=b->Bk w' b T [z]->Be w w'->OR eD R ops rest K n ((d,.pointer (J ⟨b,0,Aa⟩))::U) w'):OR eD R ops (⟨J d,.alloc T,ty,pos,after,g⟩::rest) K n U w:=dN hg hd hi hl h
end
def O(m:Y){p q:Prop}(c:Rn m p q:=by
 repeat (first|exact Rn.z|(apply Rn.s;first
  |(apply OW.val;exact Z;exact Z;exact Xx)
  |(apply OW.nil)
  |(apply El)
  |(apply KW.region)
  |(apply KW.skip)
  |(apply KW.block)
  |(apply dE)
  |(apply rh;exact Z)
  |(apply HN;exact Z;exact Z)
  |(apply QW.val;exact Z;exact Z;(intro j;first|exact Xx|exact Bo (Bk.drewN (by with_reducible assumption) _)))
  |(apply rM;exact Z;exact Z)
  |(apply rc;exact Z)
  |(apply ra;exact Z)
  |(apply WI;kernel_rfl;kernel_rfl)
  |(apply ri)
  |(apply KW.scope)
  
   |(apply OR.val;exact Z;exact Z;exact Xx)
   |(apply OR.nil)
   |(apply dD)
   |(apply KR.region)
   |(apply KR.skip)
   |(apply KR.block)
   |(apply qO)
   |(apply qL;exact Z)
   |(apply rr;exact Z;exact Z)
   |(apply qK;exact Z)
   |(apply qJ;exact Z)
   |(apply qN)
   ))) (h:q):p:=c.ok h
def Gv(l:Bj){p q:Prop}(c:Rl l p q:=by
 repeat (first|exact Rl.z|(apply Rl.s;first|exact Yv|exact Yp))) (h:q):p:=c.ok h
section
variable{P:AC}{R:AE->Ad->Prop}{ops:Ap AG}{S:Ad->Prop}{fuel:Y}{listed:Ap Ar}{k:Ae KI}{n:Y}{U:BG}{w:Ad}
def GW.all{l:Bj}(m:Region.ready .any ops listed=l)(f:l≠[])(h:∀i∈l,GO P R ops S fuel listed k n U w i):GW P R ops S (fuel+1) listed k n U w:=fun a p=>
 wpAnyH_all m f fun q o=>h q o a p
def WE(i j m:Y)(hr:Region.ready .any ops listed=[i,j,m])(h1:GO P R ops S fuel listed k n U w i)(h2:GO P R ops S fuel listed k n U w j)(h3:GO P R ops S fuel listed k n U w m):GW P R ops S (fuel+1) listed k n U w:=
 GW.all hr Bh Bf
def GW.one(i:Y)(hr:Region.ready .any ops listed=[i])(h:GO P R ops S fuel listed k n U w i):GW P R ops S (fuel+1) listed k n U w:=
 GW.all hr Bh Bf
def DK(i:Y){d:Y}{T e ty:Aw}{pos:AJ}{after:Ap Edge}{g:Av (Y×Ar)}{x y:AD}{z:Ah}{bs len:Y}{kl kc:AK}(hi:ops[i]? =J ⟨J d,.makeSlice T x y,ty,pos,after,g⟩)
 (hg:BJ ops U g=J Af) (hd:BK d n=Af) (ht:P.underlying T=J (.slice e)) (hti:TI P e z 1 bs) (hz1:z.oneCell'=Af) (hx:ev U x=J (.int kl (len:H))) (hy:ev U y=J (.int kc (len:H))) (hb:bs*len<=281474976710656) (h63:len<=9223372036854775807)
 (h:∀b w',w.heap.size<=b->Bk w' b e (BH len z)->Be w w'->S w'/\(S w'->GW P R ops S fuel (listed.setIfInBounds i Af) k n ((d,.slice (J ⟨b,0,Aa⟩) len len)::U) w')):GO P R ops S fuel listed k n U w i:=
 GO.new i hi hg hd (cV ht hti hz1 hx hy hb h63) (h _ _ X (Bk.new w e _) (Be.alloc w _))
end
section
variable{P:AC}{n:Y}{U:BG}{w:Ad}{x y:AD}{ty t e:Aw}
def TE{len i bs:Y}{l:Bl}{k:AK}{d:TypeDesc}{v z:Ah}(ht:P.underlying t=J (.array len e))(he:P.underlying e=J d)(m:flat d=Af)(a:TI P e z 1 bs)(hx:ev U x=J (.agg l.toArray))(h:ev U y=J (.int k (i:H)))(hl:i<len)(hi:l[i]? =J v):EX P n U (.index t x y) ty w v w:=fun A f o pos after g=>by
 simp only[execOp,f.ev hx,f.ev h];have hi':(i:H)<len:=X;simp[Instr.index,asIntOf,run_underlying ht,Sem.run_bind,hi',Fc a,part,Jl he,m,hi];omega
end
section
variable{P:AC}{R:AE->Ad->Prop}{ops:Ap AG}{rest:Ae AG}{k:Ae KI}{n:Y}{U:BG}{w w0:Ad}{x y:AD}{t t' e ty:Aw}{pos:AJ}{after:Ap Edge}{gd:Av (Y×Ar)}{d:Y}{z:Ah}{bs:Y}
def Aea{m ki:AK}{B:Y}(ht:P.underlying t=J (.slice e))(hk:P.underlying t'=J (.int m))(hi:TI P e z 1 bs){v:Ah}{l:Y}{xs:Bl}(a:Bn w B e 1 v l xs):
 (Builtin.append_ #[t,t'] ty #[v,.int ki 0]).run P w=.ok v w:=by
 obtain⟨i,h,q,f,rfl⟩:=hi.at;rcases a.2 with⟨rfl,rfl⟩|⟨g,cap,rest,rfl,C,A,r,o,p⟩
 .simp[Builtin.append_,run_underlying ht,run_underlying hk,sizeOf,typeInfo,h,f,asInt,asIntOf,IntKind.wrap_i64,Sem.run_bind]
 .simp[Builtin.append_,run_underlying ht,run_underlying hk,sizeOf,typeInfo,h,f,asInt,asIntOf,IntKind.wrap_i64,Sem.run_bind,o,storeCells]
def rB{E ki:AK}{v:Ah}{m l:Y}{xs:Bl}(B:BJ ops U gd=J Af)(C:BK d n=Af)(ht:P.underlying t=J (.slice e))(hk:P.underlying t'=J (.int E))(hi:TI P e z 1 bs)(p:z.oneCell'=Af)
 (hx:ev U x=J v) (r:ev U y=J (.int ki (m:H))) (o:Be w0 w) (f:Bn w w0.heap.size e 1 v l xs)
 (q:l+m<=maxLen) (a:(l+m)*bs<=140737488355328)
 (h:∀v' w',Bn w' w0.heap.size e 1 v' (l+m) (xs++BH m z)->Be w0 w'->OW P R ops rest k n ((d,v')::U) w'):
 OW P R ops (⟨J d,.call { callee:=.builtin .append,args:=#[x,y],argTypes:=#[t,t'] },ty,pos,after,gd⟩::rest) k n U w:=by
 rcases JF m with rfl|G
 .refine OW.val B C (v:=v) (w':=w) ?_ Bf;intro A D I pos after g;simp only[execOp,resolve,invoke,builtin,Sem.run_bind,Sem.run_pure,Result.andThen_ok,GC,Cm,Em,D.ev hx,D.ev r];have:=Aea (ty:=ty) (ki:=ki) ht hk hi f;simp_all
 .exact rz B C ht hk hi p hx r o f G q a Bf
end
section
variable{P:AC}{n:Y}{U:BG}{w:Ad}{x lo hi':AD}{t e ty:Aw}{z:Ah}{bs g len cap i j:Y}{kk k2:AK}
def cZ(ht:P.underlying t=J (.slice e))(hi:TI P e z 1 bs)(hx:ev U x=J (.slice (J ⟨g,0,Aa⟩) len cap))(hl:ev U lo=J (.int kk (i:H)))(l:ev U hi'=J (.int k2 (j:H)))(h:i<=j/\j<=len/\len<=cap):
 EX P n U (.slice t x (J lo) (J hi') Aa) ty w (.slice (J ⟨g,if cap=i then 0 else i,Aa⟩) (j-i) (cap-i)) w:=fun Ac a m pos after gd=>by
 have f:(⟨g,0,Aa⟩:AB).add i=⟨g,i,Aa⟩:=by unfold Addr.add;split<;>simp_all
 simp only[execOp,a.ev hx,a.ev hl,a.ev l,FU,Nd];simp[Instr.sliceAt,run_underlying ht,Instr.slice,Instr.sliceBounds,Sem.run_bind,NH j _ h.1,NH cap _ (BA h.2.1 h.2.2),Fc hi];split<;>simp_all
def Wx{s:Y}(ht:P.underlying t=J (.slice e))(hi:TI P e z s bs)(hx:ev U x=J (.slice (J ⟨g,0,Aa⟩) len cap))(l:ev U hi'=J (.int k2 (j:H)))(h:j<=len/\len<=cap):
 EX P n U (.slice t x Aa (J hi') Aa) ty w (.slice (J ⟨g,0,Aa⟩) j cap) w:=fun Ac f m pos after gd=>by
 have a:(⟨g,0,Aa⟩:AB).add 0=⟨g,0,Aa⟩:=by unfold Addr.add;split<;>simp_all
 simp only[execOp,f.ev hx,f.ev l,FU,Nd];simp[Instr.sliceAt,run_underlying ht,Instr.slice,Instr.sliceBounds,Sem.run_bind,NH cap _ (BA h.1 h.2),Fc hi,a]
end
def kY{L:Bl}{k i cap:Y}{v:Ah}(h:L[k]? =J v)(hi:i=if cap=1 then 0 else 1)(hk:cap=1->k=0):(L.take i++L.take k++L.drop (i+Alz (L.take k))).set 0 v=v::L.eraseIdx k:=by
 cases L with
 |nil=>grind
 |cons a r=>
  by_cases c:cap=1
  .grind
  .grind
section
variable{P:AC}{R:AE->Ad->Prop}{ops:Ap AG}{rest:Ae AG}{k:Ae KI}{n:Y}{U:BG}{w:Ad}{x y:AD}{T e ty:Aw}{pos:AJ}{after:Ap Edge}{gd:Av (Y×Ar)}{d:Y}{z:Ah}{s bs:Y}
def rE{len:Y}{f l:AK}(B:BJ ops U gd=J Af)(C:BK d n=Af)(ht:P.underlying T=J (.slice e))(hi:TI P e z s bs)(hx:ev U x=J (.int f (len:H)))(p:ev U y=J (.int l (len:H)))
 (G:bs*len<=281474976710656) (D:len<=9223372036854775807)
 (h:∀b w' y9,w.heap.size<=b->Alz y9=len*s->Bk w' b e y9->Be w w'->OW P R ops rest k n ((d,.slice (J ⟨b,0,Aa⟩) len len)::U) w'):
 OW P R ops (⟨J d,.makeSlice T x y,ty,pos,after,gd⟩::rest) k n U w:=by
 obtain⟨i,v,o,q,rfl⟩:=hi.at
 have a:=by
  have h:((i.bytes*len:Y):H)<=281474976710656:=X;rwa[WF]at h
 have r:=run_make w T e i z ht v o f l len _ X X a X;refine OW.val B C ?_ (h _ _ (madeCells z.cells (len*i.size)).toList X (by rw[Array.length_toList,size_madeCells,q]) (Bk.new w e _) (Be.alloc w _));intro A m E pos after g;simp only[execOp,m.ev hx,m.ev p,Sem.run_bind,r];rfl
end
end
section
open Go.MapKept
open Go.ChangeMaps (setBlock)
abbrev KZ:=Ae (Bg×Ah)
structure Mp(w:Ad)(b:Y)(es:Ap MapEntry)(c:Y)(l:KZ):Prop where
 blk:w.heap[b]? =J (.map es c)
 st:Stamped es c
 kv:es.toList.map (fun e=>(e.key,e.val))=l.map (fun p=>(str p.1,p.2))
def Hp{α:Type}(l:Ae (Bg×α))(s:Bg)(v:α):Ae (Bg×α):=if s∈l.map (·.1)then l.map (fun p=>if p.1=s then(s,v)else p)else l++[(s,v)]
def Jb{α:Type}(l:Ae (Bg×α))(s:Bg):Ae (Bg×α):=l.filter (fun p=>decide (p.1≠s))
def bw{a b:Bg}(h:str a=str b):a=b:=by
 grind
section
variable{w w':Ad}{b c:Y}{es:Ap MapEntry}{l:KZ}
def Mp.lt(h:Mp w b es c l):b<w.heap.size:=by
 rcases CM b w.heap.size with a|a
 .omega
 .have:=h.blk;grind
def Mp.of_block(h:Mp w b es c l)(hb:w'.heap[b]? =w.heap[b]?):Mp w' b es c l:=⟨hb.trans h.blk,h.st,h.kv⟩
def Mp.a(h:Mp w b es c l)(hx:Be w w'):Mp w' b es c l:=h.of_block (hx.block b h.lt)
def Mp.j{S:Bj}(h:Mp w b es c l)(hm:Mo w w' S)(hb:b∉S):Mp w' b es c l:=h.of_block (hm.block b h.lt hb)
def Mp.Alj{k:Y}{T:Aw}{xs:Bl}(h:Mp w b es c l)(a:Bk w k T xs):k≠b:=by
 rintro rfl;obtain⟨g,f,_⟩:=a;rw[h.blk]at f;grind
def Mp.at{j:Y}{e:MapEntry}(h:Mp w b es c l)(he:es.toList[j]? =J e):∃p,l[j]? =J p/\e.key=str p.1/\e.val=p.2:=by
 have a:=AF (fun z=>z[j]?) h.kv;grind
def Mp.mem{e:MapEntry}(h:Mp w b es c l)(he:e∈es.toList):∃p∈l,e.key=str p.1/\e.val=p.2:=by
 obtain⟨j,a⟩:=List.mem_iff_getElem?.1 he;obtain⟨p,g,f⟩:=h.at a;grind
def Mp.keys(h:Mp w b es c l):(l.map (·.1)).Nodup:=by
 have f:(es.toList.map (·.key))=l.map (fun p=>str p.1):=by
  have:=AF (List.map Prod.fst) h.kv;simpa[EV,Function.comp_def]using this
 have a:=h.st.2.2;grind
def ZM(w:Ad)(b:Y)(o:Obj):Mo w (setBlock w b o) [b]:=⟨Z,Z,Z,by simp[setBlock],fun k _ hk=>by simp at hk;simp[setBlock,Array.getElem?_setIfInBounds_ne (Ne.symm hk)]⟩
def Tj{o:Obj}(h:b<w.heap.size):(setBlock w b o).heap[b]? =J o:=by simp[setBlock,h]
def Abu:∀{l:KZ} {j:Y} {p:Bg×Ah} (v:Ah),(l.map (·.1)).Nodup->l[j]? =J p->Hp l p.1 v=l.set j (p.1,v)
 |l,j,p,v,hn,hj=>by
  have hm:p.1∈l.map (·.1):=Bf;unfold Hp;rw[Aj hm];apply He;intro k;rw[DV,RQ];by_cases e:j=k
  .grind
  .rw[Ag e];cases hk:l[k]? with
   |none=>rfl
   |some q=>
    have:q.1≠p.1:=fun z=>by
     have f:(l.map (·.1))[k]? =J p.1:=by rw[DV,hk,<-z];rfl
     have a:(l.map (·.1))[j]? =J p.1:=by rw[DV,hj];rfl
     obtain⟨m,h⟩:=Li.1 f;obtain⟨i,g⟩:=Li.1 a;exact e ((MZ hn).1 (g.trans h.symm))
    grind
def gy:∀{l:KZ} {j:Y} {p:Bg×Ah},(l.map (·.1)).Nodup->l[j]? =J p->Jb l p.1=l.eraseIdx j
 |q::l,0,p,hn,hj=>by
  simp at hj;subst hj;simp only[Jb,List.eraseIdx_cons_zero,LU,ne_eq,not_true_eq_false,decide_false,Bool.false_eq_true,if_false];refine WM.2 fun r hr=>?_;grind
 |q::l,j+1,p,hn,hj=>by
  simp only[Cm,TX]at hn;have ih:=gy hn.2 hj;simp only[Jb]at ih ⊢;grind
def ZI{l:KZ}{s:Bg}{es:Ap MapEntry}(a:es.toList.map (fun e=>(e.key,e.val))=l.map (fun p=>(str p.1,p.2)))(h:∀x∈es.toList,x.key≠str s):s∉l.map (·.1):=fun f=>by
 obtain⟨p,g,rfl⟩:=Cr.1 f;have:(str p.1,p.2)∈es.toList.map (fun e=>(e.key,e.val)):=by rw[a];grind
 grind
def Mp.isKey(h:Mp w b es c l):∀x∈es.toList,IsKey .string x.key:=fun x a=>by
 obtain⟨p,_,e,_⟩:=h.mem a;rw[e];trivial
variable{P:AC}{t k e:Aw}
def Aeh(ht:P.underlying t=J (.map k e))(hk:P.underlying k=J .string)(h:Mp w b es c l)(s:Bg)(v:Ah):
 ∃es' c',(Instr.mapUpdate t (.map (J b)) (str s) v).run P w=.ok () (setBlock w b (.map es' c'))/\Mp (setBlock w b (.map es' c')) b es' c' (Hp l s v):=by
 have a:IsKey .string (str s):=trivial;rcases findNow_spec a es.toList 0 h.isKey with⟨g,f⟩|⟨j,C,g,f,A⟩
 .refine⟨es.push ⟨_,v,c⟩,_,?_,⟨Tj h.lt,stamped_push h.st f,?_⟩⟩
  .simp[Instr.mapUpdate,run_underlying ht,MapKept.run_getObj_map h.blk,run_checkKey hk a,run_findKey hk g,MapKept.run_setObj_map _ h.blk,setBlock]
  .unfold Hp;rw[Ag (ZI h.kv f),Array.toList_push,DW,DW,h.kv];rfl
 .have r:=by simpa using f
  obtain⟨p,q,o,m⟩:=h.at f;have i:str s=str p.1:=Bf;obtain rfl:=bw i;refine⟨es.modify j (fun B=>{ B with key:=str p.1,val:=v }),c,?_,⟨Tj h.lt,stamped_modify h.st _ _ (fun _ _=>rfl) Bf,?_⟩⟩
  .simp[Instr.mapUpdate,run_underlying ht,MapKept.run_getObj_map h.blk,run_checkKey hk a,run_findKey hk g,r,A,run_keyThatStays a,MapKept.run_setObj_map _ h.blk,setBlock]
  .rw[Abu v h.keys q,Array.toList_modify,List.map_set,<-h.kv];apply He;grind
def Aed{ty:Aw}(ht:P.underlying t=J (.map k e))(hk:P.underlying k=J .string)(h:Mp w b es c l)(s:Bg):
 ∃es',(Builtin.delete_ #[t,k] ty #[.map (J b),str s]).run P w=.ok (.tuple #[]) (setBlock w b (.map es' c))/\Mp (setBlock w b (.map es' c)) b es' c (Jb l s):=by
 have a:IsKey .string (str s):=trivial;rcases findNow_spec a es.toList 0 h.isKey with⟨q,o⟩|⟨j,B,q,o,A⟩
 .refine⟨_,?_,⟨Tj h.lt,h.st,?_⟩⟩
  .simp[Builtin.delete_,run_underlying ht,MapKept.run_getObj_map h.blk,run_checkKey hk a,run_findKey hk q,MapKept.run_setObj_map _ h.blk,setBlock]
  .rw[h.kv];congr 1;refine(WM.2 fun p r=>?_).symm;simp only[decide_eq_true_eq];exact fun z=>ZI h.kv o Bf
 .have m:j<Alz es.toList:=Bf;have i:=by simpa using m
  have f:(es.eraseIdxIfInBounds j).toList=es.toList.eraseIdx j:=by
   unfold Array.eraseIdxIfInBounds;rw[AQ i];simp
  obtain⟨p,r,g,v⟩:=h.at o;obtain rfl:=bw (A.symm.trans g);refine⟨_,?_,⟨Tj h.lt,stamped_erase h.st j,?_⟩⟩
  .simp[Builtin.delete_,run_underlying ht,MapKept.run_getObj_map h.blk,run_checkKey hk a,run_findKey hk q,MapKept.run_setObj_map _ h.blk,setBlock]
  .rw[gy h.keys r,f,ChangeMaps.map_eraseIdx,h.kv,<-ChangeMaps.map_eraseIdx]
end
def It(w:Ad)(r b since:Y)(seen:Ap Y)(c:Y):Prop:=w.heap[r]? =J (.mapIter (J b) since seen c)
section
variable{P:AC}{R:AE->Ad->Prop}{ops:Ap AG}{rest:Ae AG}{k:Ae KI}{n:Y}{U:BG}{w:Ad}{x y z:AD}{t e kt ty:Aw}{pos:AJ}{after:Ap Edge}{gd:Av (Y×Ar)}{d:Y}
def dV(f:BJ ops U gd=J Af)(i:BK d n=Af)
 (h:∀b w',w.heap.size<=b->Mp w' b #[] 0 []->Be w w'->OW P R ops rest k n ((d,.map (J b))::U) w'):
 OW P R ops (⟨J d,.makeMap t Aa,ty,pos,after,gd⟩::rest) k n U w:=by
 refine OW.val f i ?_ (h _ _ X ⟨heap_alloc_new w _,⟨Bh,Bh,Bh⟩,Z⟩ (Be.alloc w _));intro a m j pos after g;rfl
def EU.put{b c:Y}{es f:Ap MapEntry}{j:Y}{v:Ah}{s:Bg}(hx:ev U x=J (.map (J b)))(o:ev U y=J (str s))(m:ev U z=J v)
 (h:(Instr.mapUpdate t (.map (J b)) (str s) v).run P w=.ok () (setBlock w b (.map f j))):EU P n U (.mapUpdate t x y z) ty w (setBlock w b (.map f j)):=by
 intro a i p pos after g;simp[execOp,i.ev hx,i.ev o,i.ev m,h,Sem.run_bind,Result.andThen_ok,Sem.run_pure]
def OW.put{b c:Y}{es:Ap MapEntry}{l:KZ}{v:Ah}{s:Bg}(g:BJ ops U gd=J Af)(ht:P.underlying t=J (.map kt e))(hk:P.underlying kt=J .string)(hx:ev U x=J (.map (J b)))(f:ev U y=J (str s))(a:ev U z=J v)(hm:Mp w b es c l)
 (h:∀es' c' w',Mp w' b es' c' (Hp l s v)->Mo w w' [b]->OW P R ops rest k n U w'):
 OW P R ops (⟨Aa,.mapUpdate t x y z,ty,pos,after,gd⟩::rest) k n U w:=by
 obtain⟨es',c',j,i⟩:=Aeh ht hk hm s v;exact RZ g (EU.put (c:=c) (es:=es) hx f a j) (h _ _ _ i (ZM w b _))
def rL{op:Op}{ty:Aw}{pos:AJ}{after:Ap Edge}{g:Av (Y×Ar)}{v:Ah}{w':Ad}(i:BJ ops U g=J Af)(he:EX P n U op ty w v w')
 (h:OW P R ops rest k n U w'):OW P R ops (⟨Aa,op,ty,pos,after,g⟩::rest) k n U w:=fun a f=>by
 have j:=he a f Aa pos after g;unfold wpList;rw[Aj (IL f i)];refine .inl ?_;unfold Oper.wp;rw[j];exact h _ f
def OW.del{b c:Y}{es:Ap MapEntry}{l:KZ}{s:Bg}(j:BJ ops U gd=J Af)(ht:P.underlying t=J (.map kt e))(hk:P.underlying kt=J .string)(hx:ev U x=J (.map (J b)))(i:ev U y=J (str s))(hm:Mp w b es c l)
 (h:∀es' c' w',Mp w' b es' c' (Jb l s)->Mo w w' [b]->OW P R ops rest k n U w'):
 OW P R ops (⟨Aa,.call { callee:=.builtin .delete,args:=#[x,y],argTypes:=#[t,kt] },ty,pos,after,gd⟩::rest) k n U w:=by
 obtain⟨es',o,m⟩:=Aed (ty:=ty) ht hk hm s;refine rL j (v:=.tuple #[]) ?_ (h _ c _ m (ZM w b _));intro a f p pos after g;simp[execOp,resolve,invoke,builtin,Sem.run_bind,Sem.run_pure,Result.andThen_ok,GC,Cm,Em,f.ev hx,f.ev i,o]
def OW.range{b c:Y}{es:Ap MapEntry}{l:KZ}(f:BJ ops U gd=J Af)(i:BK d n=Af)(ht:P.underlying t=J (.map kt e))(hx:ev U x=J (.map (J b)))(hm:Mp w b es c l)
 (h:∀r w',w.heap.size<=r->It w' r b c #[] c->Be w w'->OW P R ops rest k n ((d,.pointer (J ⟨r,0,Aa⟩))::U) w'):
 OW P R ops (⟨J d,.range t x,ty,pos,after,gd⟩::rest) k n U w:=by
 refine OW.val f i ?_ (h _ _ X (heap_alloc_new w _) (Be.alloc w _));intro a j m pos after g;simp[execOp,Instr.range,j.ev hx,run_underlying ht,MapKept.run_getObj_map hm.blk,Sem.run_pure]
def OW.next{r b c:Y}{es:Ap MapEntry}{l:KZ}{f:Ap Y}(q:BJ ops U gd=J Af)(v:BK d n=Af)(hx:ev U x=J (.pointer (J ⟨r,0,Aa⟩)))(hm:Mp w b es c l)(hi:It w r b c f c)
 (h0:(∀e∈es.toList,e.born∈f)->OW P R ops rest k n ((d,.tuple #[.bool Ai])::U) w)
 (h1:∀(e:MapEntry) w',e∈es.toList->e.born∉f->It w' r b c (f.push e.born) c->Mo w w' [r]->OW P R ops rest k n ((d,.tuple #[.bool Af,e.key,e.val])::U) w'):
 OW P R ops (⟨J d,.next x Ai,ty,pos,after,gd⟩::rest) k n U w:=by
 have A:r<w.heap.size:=by
  rcases CM r w.heap.size with B|B
  .omega
  .unfold It at hi;grind
 rcases run_next_at (P:=P) w ty r b c c f es c hi hm.blk hm.st.1 X with⟨h2,h3⟩|⟨e,i,w1,hw,h3⟩
 .refine OW.val q v ?_ (h0 ?_)
  .intro a o p pos after g;simp[execOp,o.ev hx,h3,Sem.run_bind,Result.andThen_ok,Sem.run_pure]
  .intro e i;unfold leftOf at h2;simp_all
 .have h:e∈es.toList/\e.born∉f:=by
   unfold leftOf at i;simp at i;exact⟨Bf,i.2⟩
  have m:Mo w (setBlock w1 r (.mapIter (J b) c (f.push e.born) c)) [r]:=by
   refine Mo.trans ?_ (ZM _ r _);rcases hw with rfl|rfl
   .exact Mo.refl _ _
   .exact Mo.Akj (Be.drew w) _
  have j:r<w1.heap.size:=by rcases hw with rfl|rfl<;>exact A
  refine OW.val q v ?_ (h1 e _ h.1 h.2 (Tj j) m);intro a o p pos after g;simp[execOp,o.ev hx,h3,Sem.run_bind,Result.andThen_ok,Sem.run_pure]
def pP{r b c:Y}{es:Ap MapEntry}{l:KZ}{f:Ap Y}{e:MapEntry}(hx:ev U x=J (.pointer (J ⟨r,0,Aa⟩)))(hm:Mp w b es c l)(hi:It w r b c (f.push e.born) c)(he:e∈es.toList):
 EX P n U (.entry x) ty w (.tuple #[e.key,e.val]) w:=by
 intro a h i pos after g;have:=run_entry_at (P:=P) w r b c _ _ c e hi hm.blk he hm.st.2.1;simp[execOp,h.ev hx,this,Sem.run_bind,Result.andThen_ok,Sem.run_pure]
end
end
section
section
variable{P:AC}{n:Y}{U:BG}{w w0:Ad}{x y:AD}{t e ty T:Aw}{s bs:Y}{R:RP}{ops:Ap AG}{rest:Ae AG}{k:Ae KI}{pos:AJ}{after:Ap Edge}{g:Av (Y×Ar)}{d:Y}
def rm{z:Ah}{BN:Ap (Y×AD)}(len:Y)(vss:Ae (Bl))(hg:BJ ops U g=J Af)(hd:BK d n=Af)(ht:P.underlying T=J (.slice e))(hi:TI P e z s bs)(hzs:z.cells.size=s)(hs0:0<s)
 (hv:evs U (BN.toList.map (·.2))=J (vss.map fun v=>Value.agg v.toArray)) (hp:BN.toList.map (·.1)=Hh 0 (Alz BN.toList)) (hl:Alz vss=len) (h1:∀v∈vss,Alz v=s) (hlen:len*s<=16777216)
 (h:∀b w',w.heap.size<=b->Bk w' b e vss.flatten->Be w w'->OR P R ops rest k n ((d,.slice (J ⟨b,0,Aa⟩) len len)::U) w'):OR P R ops (⟨J d,.buildSlice T len BN,ty,pos,after,g⟩::rest) k n U w:=
 OR.val hg hd (TC len vss ht hi hzs hs0 hv hp hl h1 hlen) (h _ _ X (Bk.new w e _) (Be.alloc w _))
end
section
variable{P:AC}{ops:Ap AG}{Q0 Q:AP->AE->Ad->Prop}{K0 K:AE->Ad->Prop}{a:AE}{w:Ad}{l m:Y}
def Ajp(E:∀o∈ops.toList,∀c,o.op≠.defer c)(A:∀e a w,Q0 e a w->e=.normal){i:Y}(j:∀a w,K0 a w->K a w)(h:wpOp P ops Q0 i K0 a w):wpOpIn (Fence.wide.inRound l) m P ops Q i K a w:=by
 unfold wpOp at h;unfold wpOpIn;split
 .grind
 .rename_i o e;rw[e]at h;simp at h;have D:∀c,o.op≠.defer c:=Bf;have I:¬LetsOut Q0:=fun⟨b,_,q⟩=>by cases A _ _ _ q
  split
  .rename_i q;rw[Aj q]at h;rcases h with h|⟨_,h⟩
   .unfold Oper.wp at h;refine⟨fun _ _=>trivial,?_⟩;rw[Oper.semAt_eq _ _ _ D];generalize(execOp _ o).run P w=r at*;cases r with
    |ok x p=>
     cases x with
     |value v=>exact j _ _ h
     |skip=>exact j _ _ h
     |defer d=>exact j _ _ h
     |enter f args=>
      refine⟨fun z=>(by cases z),XD (Calls.mono h fun e B q=>?_)⟩;grind
     |row r args=>
      refine⟨fun z=>(by cases z),fun c G _=>?_⟩;obtain⟨v,p,q,C⟩:=Rows.mono h (fun v B q=>j _ _ q) c G;exact⟨v,_,q,stepsIn_wide.2 C⟩
     |_=>exact h.elim
    |halt x p=>
     cases x with
     |panic v=>cases A _ _ _ h
     |_=>exact h.elim
   .grind
  .rename_i q;rw[Ag q]at h;exact⟨fun _ _=>trivial,j _ _ h⟩
def pG{md:Region.Mode}(hno:∀o∈ops.toList,∀c,o.op≠.defer c)(hQ:∀e a w,Q0 e a w->e=.normal/\Q .normal a w):∀(fuel:Y) (listed:Ap Ar) (a:AE) (w:Ad),wpAny P md ops Q0 fuel listed a w->wpAnyIn (Fence.wide.inRound l) m P md ops Q fuel listed a w
 |0,_,a,w,h=>⟨h.1,(hQ _ _ _ h.2).2⟩
 |fuel+1,_,a,w,h=>⟨fun e=>(hQ _ _ _ (h.1 e)).2,fun i hi=>Ajp hno Bf (fun a w q=>pG hno hQ fuel _ a w q) (h.2 i hi)⟩
end
section
variable{P:AC}{R:RP}{k:Ae KI}{n:Y}{U:BG}{w:Ad}
def qY{id N i:Y}{l:Ae AG}(S:Ad->Prop)(hm:P.follows .mixedOrders=Af)(v:l.toArray.size=N)(r:(l.all fun o=>match o.op with|.defer _=>Ai|_=>Af)=Af)(h:GW P (fun _ _=>False) l.toArray S N (Jv N Ai) (onR P R k) n U w.drew)(p:R.round=J i:=by rfl)(hds:R.ds=[]:=by rfl):KR P R (.code (.region id l.toArray Af)::k) n U w:=fun a j=>by
 subst v;have A:R.F=Fence.wide.inRound i:=by unfold RP.F;rw[p];rfl
 show(Code.region _ _ _).wpIn _ _ P _ a w;rw[A];have f:∀o∈l.toArray.toList,∀c,o.op≠.defer c:=Bf;have C:∀b,Act.l R.ds b=b:=fun b=>by unfold Act.l;simp_all
 have B:({ a with defers:=[] })=a:=by rw[<-hds,<-j.df]
 refine wpIn_region_any hm (pG f (fun e a w q=>?_) _ _ _ _ (wpAny_of_held _ _ _ _ (h a (B▸j.fr))));cases e with
 |normal=>exact⟨Z,C a▸q⟩
 |_=>exact q.elim
end
section
variable{P:AC}{R:RP}{k:Ae KI}{n:Y}{U:BG}{w:Ad}
def dC{α:Type}(hr:R.round=Aa)(hm:1<=R.m){g:AD}{ps:Ap Tmp}{asg body:AL}{gf:Y}{lb:Bl}{fn:Func}
 (hf:P.funcs[gf]? =J fn) (hn:(!(fn.name== "runtime.NumGoroutine") && fn.body.isSome)=Af)
 (hg:ev U g=J (.func (.func gf) #[] lb.toArray)) (E:α->Bl) (U0 U':α->BG)
 (hsz:∀x,(E x).toArray.size=ps.size) (b8:∀(x:α) (a:AE),Fr n U a->Fr n (U0 x) { a with tmps:=(ps.zip (E x).toArray).foldl (fun t(p,v)=>t.setIfInBounds p v) a.tmps })
 (bm:∀(x:α) (R':RP) (W:Ad),KR P R' [] n (U' x) W->KR P R' [.code asg] n (U0 x) W)
 {S:Bj} {G:Ad->Prop} {bx Stop:Ae α->Prop} {N:Y} (hS:∀k∈S,k<w.heap.size) (bb:Sc (R.m-1) P gf lb E S G bx Stop N w)
 (I:Ae α->Ad->Prop) (Ix:AL->Ae α->Ad->Prop) (hI:Abd S w.heap.size I) (af:∀c,Abd S w.heap.size (Ix c)) (cc:∀pre W,I pre W->G W) (h0:I [] w)
 (a7:∀(l:Y) (pre:Ae α) (x:α) (W:Ad),I pre W->Alz pre<N->w.heap.size<=W.heap.size->KR P ⟨J l,R.m-1-1,[],ownPostK (fun A B=>∀k∈S,B.heap[k]? =A.heap[k]?) I Ix (pre++[x]) W⟩ [.code body] n (U' x) W)
 (a6:∀(D:Y) (xs:Ae α) (W:Ad),w.heap.size<=D->bx xs->I xs W->W.heap[D]? =J (.deferred (J []))->KR P (R.mark D) k n U W)
 (a5:∀(D:Y) (c:AL) (pre:Ae α) (W:Ad),w.heap.size<=D->Stop pre->Ix c pre W->W.heap[D]? =J (.deferred (J []))->KR P (R.mark D) (.code c::k) n U W):
 KR P R (.code (.rangeFunc g ps asg body)::k) n U w:=fun a ha=>by
 obtain⟨ro,m,ds,cd⟩:=R;simp only at hr;subst hr;have b7:a.eval g=.func (.func gf) #[] lb.toArray:=ha.ev hg;show Code.wpIn Fence.wide m P _ (Cs P _ k) a w;refine wpIn_rangeFunc fun a0 b9=>?_;obtain⟨rec,hrec⟩:∃rec:LoopState->Av AL->Loop,rec=fun st pe=>{ state:=st,pending:=pe,fn:=a0,tmps:=a.tmps,params:=ps,assign:=asg,body:=body,defers:=w.heap.size }:=⟨_,Z⟩;obtain⟨l,hl⟩:∃l,l=w.heap.size+1:=⟨_,Z⟩;have b1:Be w (w.alloc (.deferred (J []))):=Be.alloc w _;have a4:Be (w.alloc (.deferred (J []))) ((w.alloc (.deferred (J []))).alloc (.loop (rec .ready Aa))):=Be.alloc _ _
 have bn:((w.alloc (.deferred (J []))).alloc (.loop (rec .ready Aa))).heap[l]? =J (.loop (rec .ready Aa)):=by
  have:=World.alloc_heap_new (w.alloc (.deferred (J []))) (.loop (rec .ready Aa));rwa[World.size_alloc,<-hl]at this
 have bq:((w.alloc (.deferred (J []))).alloc (.loop (rec .ready Aa))).heap[w.heap.size]? =J (.deferred (J [])):=
  (a4.block _ Bh).trans (World.alloc_heap_new w _)
 have a8:=run_enterLoop_outer (P:=P) (w:=w) a0 a.tmps ps asg body;rw[show({ state:=.ready,pending:=Aa,fn:=a0,tmps:=a.tmps,params:=ps,assign:=asg,body:=body,defers:=w.heap.size }:Loop)=rec .ready Aa by rw[hrec],<-hl]at a8;generalize((w.alloc (.deferred (J []))).alloc (.loop (rec .ready Aa)))=W1 at a4 bn bq a8;have ba:Be w W1:=b1.trans a4;have nS:∀j,w.heap.size<=j->j∉S:=fun j hj hm=>by have:=hS j hm;omega
 have keep:∀{A B:Ad} {T':Bj} {j:Y} {o:Obj},Mo A B T'->j∉T'->A.heap[j]? =J o->B.heap[j]? =J o:=fun {A B T' j o} hm hj ho=>
  (hm.block j (NU.1 ho).1 hj).trans ho
 have nl:∀{A:Ad} {q:Loop},A.heap[l]? =J (.loop q)->∀k∈[l],k∈S∨(w.heap.size<=k/\∃o:Obj,A.heap[k]? =J o/\o.isCells=Ai):=fun {A q} h k C=>by
  simp only[Cp]at C;subst C;exact .inr ⟨X,_,h,Z⟩
 have ab:∀{T':Bj} {A:Ad},(∀k∈T',k∈S)->∀k∈T',k∈S∨(w.heap.size<=k/\∃o:Obj,A.heap[k]? =J o/\o.isCells=Ai):=fun h k C=>.inl (h k C);have ao:w.heap.size≠l:=X;refine⟨l,[{ target:=.collected w.heap.size,args:=#[] }],W1,{ target:=.fn (.func gf) lb.toArray,args:=#[.func (.yield l) #[] #[]] },W1,gf,#[.func (.yield l) #[] #[]]++lb.toArray,W1,a8,?_,fun _ _=>trivial,?_,fun _=>hm,?_⟩
 .simp only[resolve,b7];simp[go_sem]
 .have eg:∀i w,(callFunc gf i).run P w=.ok (.enter gf i) w:=fun i w=>Pt hf hn i;simp[invoke,go_sem,eg]
 .refine(bb l (fun pre W=>I pre W/\W.heap[l]? =J (.loop (rec .ready Aa))/\W.heap[w.heap.size]? =J (.deferred (J [])))
   (fun pre W=>∃c,Ix c pre W/\W.heap[l]? =J (.loop (rec .done (J c)))/\W.heap[w.heap.size]? =J (.deferred (J []))) W1 ba
   (fun q A B h hm=>⟨hI q A B S h.1 hm (ab fun _ C=>C),keep hm (nS _ X) h.2.1,keep hm (nS _ X) h.2.2⟩)
   (fun q A B h hm=>by
    obtain⟨c,h1,h2,h3⟩:=h;exact⟨c,af c q A B S h1 hm (ab fun _ C=>C),keep hm (nS _ X) h2,keep hm (nS _ X) h3⟩)
   (fun q A h=>cc q A h.1) ?_ ⟨hI [] w W1 [] h0 (Mo.Akj ba _) (fun _ C=>by cases C),bn,bq⟩).mono ?_
  .rintro pre x W⟨b6,al,b5⟩bd;have hy:=run_yield (P:=P) (args:=(E x).toArray) al (by rw[hrec];exact hsz x);rw[hrec]at hy;refine⟨a0,_,asg,body,hy,roundIn_of_wpIn b9 ?_⟩;simp only;generalize cb:(Exit.then (fun a₁ w₁=>∃w₂,(Instr.beginRound l).run P w₁=.ok () w₂/\body.wpIn (Fence.wide.inRound l) (m-1-1) P (roundPost P l fun e W'=>∃v,e=.returned v/\((v=.bool Af/\(I (pre++[x]) W'/\W'.heap[l]? =J (.loop (rec .ready Aa))/\W'.heap[w.heap.size]? =J (.deferred (J [])))/\∀k∈S,W'.heap[k]? =W.heap[k]?)∨(v=.bool Ai/\∃c,Ix c (pre++[x]) W'/\W'.heap[l]? =J (.loop (rec .done (J c)))/\W'.heap[w.heap.size]? =J (.deferred (J []))))) a₁ w₂) (fun _ _ _=>False):AP->AE->Ad->Prop)=PQ
   have b0:KR P ⟨J l,m-1-1,[],PQ⟩ [.code asg] n (U0 x) W:=by
    refine bm x _ W (KR.done fun a₁ bl=>?_);obtain⟨Wb,hWb⟩:∃Wb,Wb=W:=⟨_,Z⟩;have ai:Mo W Wb []:=by rw[hWb];exact Mo.refl _ _
    have r:=keep ai Bh al;have L:=keep ai Bh b5;have V:=hI _ _ _ _ b6 ai (fun _ C=>by cases C);have b2:l<Wb.heap.size:=(NU.1 r).1;have bj:=run_beginRound (P:=P) r (by rw[hrec]);have bi:=hI _ _ _ _ V (Mx Wb l (.loop { rec .ready Aa with state:=.busy })) (nl r);have bf:(Wb.putObj l (.loop { rec .ready Aa with state:=.busy })).heap[l]? =J (.loop { rec .ready Aa with state:=.busy }):=World.putObj_heap_same b2;have bh:(Wb.putObj l (.loop { rec .ready Aa with state:=.busy })).heap[w.heap.size]? =J (.deferred (J [])):=(World.putObj_heap_other ao).trans L
    have bc:∀k∈S,(Wb.putObj l (.loop { rec .ready Aa with state:=.busy })).heap[k]? =W.heap[k]?:=fun k C=>by
     have b4:=hS k C;have b3:l<W.heap.size:=(NU.1 al).1;exact(World.putObj_heap_other X).trans (ai.block k X Bh)
    have b3:l<W.heap.size:=(NU.1 al).1;have a9:w.heap.size<=(Wb.putObj l (.loop { rec .ready Aa with state:=.busy })).heap.size:=BA X (Mx Wb l _).size;generalize Wb.putObj l (.loop { rec .ready Aa with state:=.busy })=Wc at bj bi bf bh bc a9;rw[<-hWb];show PQ .normal a₁ Wb;subst cb;refine⟨Wc,bj,?_⟩;have hb:=a7 l pre x Wc bi bd a9 a₁ ⟨bl.fr,bl.df⟩;have ca:body.wpIn (Fence.wide.inRound l) (m-1-1) P (ownPostK (fun A B=>∀k∈S,B.heap[k]? =A.heap[k]?) I Ix (pre++[x]) Wc) a₁ Wc:=Code.wpIn_mono (fun e a' w' q=>by cases e<;>exact q) hb;refine Code.wpIn_mono ?_ ca
    have a1:∀(f:Av AL) (W3:Ad),KeepsOthers Wc W3->
     (Instr.endRound l f).run P W3=.ok (.bool f.isNone) (W3.putObj l (.loop (rec (if f.isNone then .ready else .done) f)))/\W3.heap[l]? =J (.loop { rec .ready Aa with state:=.busy })/\
     (W3.putObj l (.loop (rec (if f.isNone then .ready else .done) f))).heap[l]? =J (.loop (rec (if f.isNone then .ready else .done) f))/\
     (W3.putObj l (.loop (rec (if f.isNone then .ready else .done) f))).heap[w.heap.size]? =J (.deferred (J [])):=fun f W3 a2=>by
     have aj:=a2.same _ _ bf Z;have hr:=run_endRound (P:=P) f aj;rw[hrec]at hr ⊢;exact⟨hr,by rw[hrec]at aj;exact aj,World.putObj_heap_same (NU.1 aj).1,(World.putObj_heap_other ao).trans (a2.same _ _ bh Z)⟩
    rintro e a3 W3 hp;cases e with
    |normal=>
     obtain⟨h1,h2,h3⟩:=hp;obtain⟨g1,g2,g3,g4⟩:=a1 Aa W3 h1;refine⟨_,_,g1,_,Z,.inl ⟨Z,⟨hI _ _ _ _ h3 (Mx _ _ _) (nl g2),g3,g4⟩,fun k C=>?_⟩⟩;have b4:=hS k C;exact(World.putObj_heap_other X).trans ((h2 k C).trans (bc k C))
    |ret=>
     obtain⟨h1,h3⟩:=hp;obtain⟨g1,g2,g3,g4⟩:=a1 (J .ret) W3 h1;exact⟨_,_,g1,_,Z,.inr ⟨Z,.ret,af _ _ _ _ _ h3 (Mx _ _ _) (nl g2),g3,g4⟩⟩
    |exit id=>
     obtain⟨h1,h3⟩:=hp;obtain⟨g1,g2,g3,g4⟩:=a1 (J (.exit id)) W3 h1;exact⟨_,_,g1,_,Z,.inr ⟨Z,.exit id,af _ _ _ _ _ h3 (Mx _ _ _) (nl g2),g3,g4⟩⟩
    |goto t=>
     obtain⟨h1,h3⟩:=hp;obtain⟨g1,g2,g3,g4⟩:=a1 (J (.goto t)) W3 h1;exact⟨_,_,g1,_,Z,.inr ⟨Z,.goto t,af _ _ _ _ _ h3 (Mx _ _ _) (nl g2),g3,g4⟩⟩
    |panic ch=>exact hp.elim
    |outgrown=>exact hp.elim
   exact b0 _ ⟨b8 x _ ha.fr,Z⟩
  .rintro e W2⟨⟨v,rfl⟩,(⟨xs,hF,V,r,L⟩|⟨pre,hP,c,V,r,L⟩)⟩
   .obtain⟨o,he⟩:∃o,(Instr.endLoop l).run P W2=.ok Aa (W2.putObj l o):=by
     have he:=run_endLoop (P:=P) r (by rw[hrec];simp);rw[show(rec LoopState.ready Aa).pending=Aa by rw[hrec]]at he;exact⟨_,he⟩
    have h:=a6 w.heap.size xs _ (Bq _) hF (hI _ _ _ _ V (Mx W2 l o) (nl r)) ((World.putObj_heap_other ao).trans L) { a with defers:={ target:=.collected w.heap.size,args:=#[] }::a.defers } ⟨ha.fr,by show _::a.defers=_::ds;rw[ha.df]⟩;rw[Pn]at h;exact⟨Aa,_,he,h⟩
   .obtain⟨o,he⟩:∃o,(Instr.endLoop l).run P W2=.ok (J c) (W2.putObj l o):=by
     have he:=run_endLoop (P:=P) r (by rw[hrec];simp);rw[show(rec LoopState.done (J c)).pending=J c by rw[hrec]]at he;exact⟨_,he⟩
    have h:=a5 w.heap.size c pre _ (Bq _) hP (af c _ _ _ _ V (Mx W2 l o) (nl r)) ((World.putObj_heap_other ao).trans L) { a with defers:={ target:=.collected w.heap.size,args:=#[] }::a.defers } ⟨ha.fr,by show _::a.defers=_::ds;rw[ha.df]⟩;rw[Pn]at h;exact⟨J c,_,he,h⟩
def qW{α:Type}(hr:R.round=Aa)(hm:1<=R.m){g:AD}{p d id:Y}{ty:Aw}{pos:AJ}{af:Ap Edge}{body:AL}{gf:Y}{lb:Bl}{fn:Func}
 (hf:P.funcs[gf]? =J fn) (hn:(!(fn.name== "runtime.NumGoroutine") && fn.body.isSome)=Af)
 (hg:ev U g=J (.func (.func gf) #[] lb.toArray)) (hp:BK p n=Af) (hd:BK d n=Af)
 (val:α->Ah) {S:Bj} {G:Ad->Prop} {Fin Stop:Ae α->Prop} {N:Y} (hS:∀k∈S,k<w.heap.size) (hseq:Sc (R.m-1) P gf lb (fun x=>[val x]) S G Fin Stop N w):=
 dC (k:=k) hr hm (ps:=#[p]) (asg:=.region id #[⟨J d,.assign (.tmp p),ty,pos,af,Aa⟩] Ai) (body:=body) hf hn hg (fun x=>[val x]) (fun x=>(p,val x)::U) (fun x=>(d,val x)::(p,val x)::U) (fun _=>rfl) (fun x a h=>by simpa[Act.put]using h.put hp (val x))
  (fun x R' W h=>KR.region (OR.val Z hd (HI (by simp[ev,OV])) (OR.nil h))) hS hseq
end
end
end Go.Proofs.YtkmlafmjaeeanaaGreatDoor
