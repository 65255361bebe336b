/- TopSalvage, part B: more laws of steps; plain facts of headers, fields, bits, runs, rotations; functions of bits, runs and sorting. -/
import Derived.Test.YtkmlafmjaeeanaaGreatDoorMrsA
set_option linter.all false
set_option maxHeartbeats 2000000
set_option maxRecDepth 20000
open Go Go.RowKit Go.Proofs.Tryz
open _root_ renaming rfl→Z,Nat→Y,Int→H,List→Ae,if_neg→Ag,if_pos→Aj,Array→Ap,Bool→Ar,Option→Av,trivial→Ay,congrArg→AF,absurd→AH,UInt8→AI,String→AJ,decide_eq_true→AM,decide_eq_false→AN,of_decide_eq_true→AO,dif_pos→AQ,of_decide_eq_false→AR
open _root_.Array renaming replicate→Jv
open _root_.Bool renaming true→Af,false→Ai
open _root_.Go renaming World→Ad,Value→Ah,TypeId→Aw,Addr→AB,Program→AC,Operand→AD,Act→AE,Oper→AG,IntKind→AK,Code→AL,Exit→AP
open _root_.List renaming range→BE,replicate→BH,length→DQ,range'→Hh,Pairwise→HK,toArray→LZ,Perm→Oe,cons→RM,length→Alz
open _root_.Nat renaming blt→BK,log2→Ed,beq→JE,cast→Om,strongRecOn→RY,reducePow→Xe
open _root_.Option renaming some→Qf,some→J,none→Aa
open _root_.UInt8 renaming ofNat→BV
open Go.Proofs.Tryz renaming prog→eD
open _root_.Go.Value renaming ownBlock→Pi
namespace Go.Proofs.YtkmlafmjaeeanaaGreatDoor
section
section
variable{P:AC}{n:Y}{U:BG}{w w':Ad}{t e ty T src dst:Aw}{x y:AD}
def Bk.shape{b:Y}{l:Bl}(h:Bk w b T l):w.shape? b=J (T,Alz l):=by
 obtain⟨a,h,_⟩:=h;simp[World.shape?,h]
def qB{a:AB}{s cells:Y}(i:P.underlying src=J (.pointer t))(m:P.underlying dst=J .unsafePointer)(h:(P.info? t).map (·.size)=J (s+1))(hsh:w.shape? a.block=J (e,cells))(d:a.off<cells)(hx:ev U x=J (.pointer (J a))):
 EX P n U (.convert src dst x) ty w (.pointer (J a)) w:=fun A o dd f after g=>by
 obtain⟨j,l,k⟩:=Nc.1 h;simp only[execOp,o.ev hx,Lib.run_to_unsafe w a i m l X hsh d,Sem.run_bind,Result.andThen_ok];rfl
def pX{a:AB}{u:Aw}{cells:Y}{z:Y}(h:P.underlying src=J .unsafePointer)(l:P.underlying dst=J (.pointer u))(f:(P.info? u).map (·.size)=J z)(hsh:w.shape? a.block=J (e,cells))(hl:liesAt P P.depth e (cells/P.cellsOf e) a.off u 1=Af)(hx:ev U x=J (.pointer (J a))):
 EX P n U (.convert src dst x) ty w (.pointer (J a)) w:=fun A m dd d after g=>by
 obtain⟨j,k,i⟩:=Nc.1 f;simp only[execOp,m.ev hx,Lib.run_from_unsafe w a h l k hsh hl,Sem.run_bind,Result.andThen_ok];rfl
def qo{a:AB}{z:Y}(g:P.underlying t=J (.pointer e))(d:(P.info? e).map (·.size)=J z)(hx:ev U x=J (.pointer (J a)))(f:ev U y=J (.pointer (J a))):EX P n U (.binOp .neq t x y T) ty w (.bool Ai) w:=by
 obtain⟨j,i,h⟩:=Nc.1 d;exact FP hx f (Za _ _ _) (Lib.run_neq_ptr_same w a g i)
def pW {f:FuncId} {fn:Func} {xs:Ae AD} {vs:Bl} {h:Ap Aw} {E:Ap Ah->Sem Ah} {v:Ah} (hf:P.funcs[f]? =J fn) (d:(fn.name== "runtime.NumGoroutine")=Ai) (l:fn.body.isNone=Af) (k:Extern.findNext fn=Aa) (he:Extern.find fn=J E)
 (hx:evs U xs=J vs) (j:(E vs.toArray).run P w=.ok v w'):EX P n U (.call { callee:=.value (.func f),args:=xs.toArray,argTypes:=h }) ty w v w':=fun a m dd i after g=>by
 rw[execOp_call_go];have:#[]++xs.toArray.map a.eval++#[]=vs.toArray:=by simp[m.evs hx]
 rw[this,run_callFunc_extern hf d l k he,j];rfl
def dj{a:AB}{m c:Y}(f:c≠0)(hx:ev U x=J (.slice (J a) m c)):EX P n U (.call { callee:=.builtin .unsafeSliceData,args:=#[x],argTypes:=#[t] }) ty w (.pointer (J a)) w:=fun A h dd d after g=>by
 simp[execOp,resolve,invoke,builtin,Sem.run_bind,Sem.run_pure,Result.andThen_ok,GC,Cm,Em,h.ev hx,Lib.run_unsafeSliceData_row w _ _ a m c f]
def qz{m c:Y}(hx:ev U x=J (.slice Aa m c)):EX P n U (.call { callee:=.builtin .unsafeSliceData,args:=#[x],argTypes:=#[t] }) ty w (.pointer Aa) w:=fun A d dd a after g=>by
 simp[execOp,resolve,invoke,builtin,Sem.run_bind,Sem.run_pure,Result.andThen_ok,GC,Cm,Em,d.ev hx,Lib.run_unsafeSliceData_nil]
def dq{g:Y}{l:Bg}{rest:Bl}{t':Aw}(m:P.underlying t=J (.pointer e))(p:P.cellsOf e=1)(d:Bk w g e (BI l++rest))(h0:l≠[])(a:Alz l<=9223372036854775807)
 (hx:ev U x=J (.pointer (J ⟨g,0,Aa⟩))) (k:ev U y=J (.int .i64 (Alz l:H))):EX P n U (.call { callee:=.builtin .unsafeString,args:=#[x,y],argTypes:=#[t,t'] }) ty w (str l) (w.freeze ⟨g,0,Aa⟩ (Alz l)):=fun A f dd i after r=>by
 have h:=Lib.run_unsafeString_row w t t' ty e m p g _ d.shape l h0 (by simp[BI]) a (by
  intro j u o
  have:(BI l++rest)[j]? =J (.int .u8 u.toNat):=by
   rw[FR (by simp[BI];grind)];simp[BI,o]
  have q:=d.I this;rw[show(⟨g,0,_⟩:AB).add j=⟨g,j,Aa⟩ by unfold Addr.add;grind];omega)
 simp[execOp,resolve,invoke,builtin,Sem.run_bind,Sem.run_pure,Result.andThen_ok,GC,Cm,Em,f.ev hx,f.ev k,h]
def qC{t':Aw}{p:Av AB}(hx:ev U x=J (.pointer p))(f:ev U y=J (.int .i64 ((0:Y):H))):EX P n U (.call { callee:=.builtin .unsafeString,args:=#[x,y],argTypes:=#[t,t'] }) ty w (str []) w:=fun A a dd d after i=>by
 have h:=Lib.run_unsafeString_none (P:=P) w t t' ty p;have g:(((0:Y):H))=0:=rfl;simp only[execOp,resolve,invoke,builtin,Sem.run_bind,Sem.run_pure,Result.andThen_ok,GC,Cm,Em,a.ev hx,a.ev f,g,h];rfl
end
section
variable{P:AC}{n:Y}{U:BG}{w:Ad}{x y:AD}{t e ty T:Aw}{z:Ah}{bs:Y}
def EX.arrayAt{m len cap:Y}{A:Av AB}(ht:P.underlying t=J (.array m e))(hx:ev U x=J (.slice A len cap))(h:m<=len):EX P n U (.sliceToArrayPointer t x) ty w (.pointer A) w:=fun a j k d after g=>by
 have i:¬len<m:=X
 have f:(Instr.arrayAt t (.slice A len cap)).run P w=.ok (.pointer A) w:=by
  simp[Instr.arrayAt,run_underlying ht,i]
 simp only[execOp,j.ev hx,Sem.run_bind,f];rfl
def Aee{a0 a1 a2 m l j b1 i h g:Ah}{q0 q1 q2 f a:Ar}{d:TypeDesc}(ht:P.underlying t=J (.array 5 e))(he:P.underlying e=J d)(hf:flat d=Af)(hi:TI P e z 1 bs)
 (h0:∀k,(Op.equalIn (k+1) e a0 j).run P w=.ok q0 w) (h1:∀k,(Op.equalIn (k+1) e a1 b1).run P w=.ok q1 w) (h2:∀k,(Op.equalIn (k+1) e a2 i).run P w=.ok q2 w) (q:∀k,(Op.equalIn (k+1) e m h).run P w=.ok f w) (p:∀k,(Op.equalIn (k+1) e l g).run P w=.ok a w) (k:Y):
 (Op.equalIn (k+1+1) t (.agg #[a0,a1,a2,m,l]) (.agg #[j,b1,i,h,g])).run P w=.ok (q0 && (q1 && (q2 && (f && a)))) w:=by
 have o:Hh 0 5=[0,1,2,3,4]:=rfl;rw[Op.equalIn];simp only[Sem.run_bind,run_underlying ht,Result.andThen_ok,Fc hi];cases q0<;>cases q1<;>cases q2<;>cases f<;>cases a<;>simp[Std.Legacy.Range.forIn_eq_forIn_range',Std.Legacy.Range.size,o,part,Jl he,hf,h0 k,h1 k,h2 k,q k,p k,Sem.run_bind]
def qh{s0 g s2 f d r0 r1 r2 j i:Bg}(ht:P.underlying t=J (.array 5 e))(he:P.underlying e=J .string)(hi:TI P e z 1 bs)(hm:P.eqGuardType P.depth t=Ai)(hx:ev U x=J (.agg [str s0,str g,str s2,str f,str d].toArray))(l:ev U y=J (.agg [str r0,str r1,str r2,str j,str i].toArray)):
 EX P n U (.binOp .neq t x y T) ty w (.bool (decide ([s0,g,s2,f,d]≠[r0,r1,r2,j,i]))) w:=by
 refine FP hx l (run_eqGuard_agg w _ t x y _ _ hm) ?_;have h:=Aee (w:=w) ht he Z hi (fun k=>Nr (a:=s0) (b:=r0) he k) (fun k=>Nr (a:=g) (b:=r1) he k) (fun k=>Nr (a:=s2) (b:=r2) he k) (fun k=>Nr (a:=f) (b:=j) he k) (fun k=>Nr (a:=d) (b:=i) he k) 9998;rw[run_neq_struct];simp_all
end
end
section
open Go.MapKept
section
variable{P:AC}{w:Ad}{b c:Y}{es:Ap MapEntry}{n:Y}{U:BG}{x y:AD}{ty t k e:Aw}
def NJ(ks:Ae (Bg)):Ae (Bg×Ah):=ks.map fun s=>(s,.bool Af)
def nB(ks:Ae (Bg)):(NJ ks).map (·.1)=ks:=by
 unfold NJ;rw[EV];exact List.map_id' ks
def Aeg{bs:Y}(ht:P.underlying t=J (.map k e))(hk:P.underlying k=J .string)(hi:TI P e (.bool Ai) 1 bs){ks:Ae (Bg)}(h:Mp w b es c (NJ ks))(s:Bg):
 (Instr.lookup t (.map (J b)) (str s) Ai).run P w=.ok (.bool (decide (s∈ks))) w:=by
 have a:IsKey .string (str s):=trivial;rcases findNow_spec a es.toList 0 h.isKey with⟨m,l⟩|⟨j,A,m,l,v⟩
 .have i:s∉ks:=by
   have:=ZI h.kv l;rwa[nB]at this
  rw[AN i];simp[Instr.lookup,run_underlying ht,MapKept.run_getObj_map h.blk,run_checkKey hk a,run_findKey hk m,NI hi,Result.andThen]
 .obtain⟨p,r,g,f⟩:=h.at l;obtain rfl:=bw (v.symm.trans g);obtain⟨o,d,rfl⟩:=Cr.1 (List.mem_of_getElem? r);rw[AM (show(o,Value.bool Af).1∈ks from d)];have q:A.val=.bool Af:=f;simp[Instr.lookup,run_underlying ht,MapKept.run_getObj_map h.blk,run_checkKey hk a,run_findKey hk m,q,Result.andThen]
def qd{bs:Y}{s:Bg}(ht:P.underlying t=J (.map k e))(hk:P.underlying k=J .string)(hi:TI P e (.bool Ai) 1 bs){ks:Ae (Bg)}(hx:ev U x=J (.map (J b)))(i:ev U y=J (str s))(h:Mp w b es c (NJ ks)):
 EX P n U (.lookup t x y Ai) ty w (.bool (decide (s∈ks))) w:=fun a d j f after g=>by
 simp only[execOp,d.ev hx,d.ev i,Aeg ht hk hi h s,Sem.run_bind,Result.andThen_ok,Sem.run_pure]
end
end
section
section
variable{P:AC}{R:RP}{k:Ae KI}{n:Y}{U:BG}{w:Ad}
def qX{α:Type}(hr:R.round=Aa)(hm:1<=R.m){g:AD}{p1 p2 d1 d2 id1 id2:Y}{ty1 ty2:Aw}{pos1 pos2:AJ}{af1 af2:Ap Edge}{body:AL}{gf:Y}{lb:Bl}{fn:Func}
 (hf:P.funcs[gf]? =J fn) (hn:(!(fn.name== "runtime.NumGoroutine") && fn.body.isSome)=Af)
 (hg:ev U g=J (.func (.func gf) #[] lb.toArray)) (hp1:BK p1 n=Af) (hp2:BK p2 n=Af) (hd1:BK d1 n=Af) (hd2:BK d2 n=Af) (hq1:∀(u v:Ah) (τ:BG),lk ((p2,u)::(p1,v)::τ) p1=J v) (hq2:∀(u v:Ah) (τ:BG),lk ((d1,u)::(p2,v)::τ) p2=J v)
 (val1 val2:α->Ah) {S:Bj} {G:Ad->Prop} {Fin Stop:Ae α->Prop} {N:Y} (hS:∀k∈S,k<w.heap.size) (hseq:Sc (R.m-1) P gf lb (fun x=>[val1 x,val2 x]) S G Fin Stop N w):=
 dC (k:=k) hr hm (ps:=#[p1,p2]) (asg:=.seq (.region id1 #[⟨J d1,.assign (.tmp p1),ty1,pos1,af1,Aa⟩] Ai) (.region id2 #[⟨J d2,.assign (.tmp p2),ty2,pos2,af2,Aa⟩] Ai)) (body:=body) hf hn hg (fun x=>[val1 x,val2 x]) (fun x=>(p2,val2 x)::(p1,val1 x)::U) (fun x=>(d2,val2 x)::(d1,val1 x)::(p2,val2 x)::(p1,val1 x)::U)
  (fun _=>rfl) (fun x a h=>by simpa[Act.put]using(h.put hp1 (val1 x)).put hp2 (val2 x)) (fun x R' W h=>dD (KR.region (OR.val Z hd1 (HI (hq1 _ _ _)) (OR.nil (KR.region (OR.val Z hd2 (HI (hq2 _ _ _)) (OR.nil h))))))) hS hseq
end
def retM1{P:AC}{fn:Func}{Q:Ah->Ad->Prop}{n m D:Y}{U:BG}{w:Ad}{R:RP}{e:AP}(he:e=.normal∨e=.ret){t:Y}{v:Ah}(hds:R.ds=[{ target:=.collected D,args:=#[] }])(hp:R.post=bodyPostM Fence.wide m P fn (fun e w'=>∃v,e=.returned v/\Q v w'))(hK:w.heap[D]? =J (.deferred (J [])))(hs:fn.results=#[.tmp t])(hv:lk U t=J v)(hq:Q v (w.putObj D (.deferred Aa))):
 ∀a,FrD R n U a->R.post e a w:=
 mL he hds hp hK (fun a w ha=>by rw[results_tmp hs];have h1:=ha.fr.val t v hv;simp only at h1;simp[h1]) hq
end
namespace Fld
open Go.Proofs.YtkmlafmjaeeanaaGreatDoor
def Fj(c:AI):Ar:=decide (48<=c.toNat) && decide (c.toNat<=55)
def Ec(c:AI):Ar:=decide (48<=c.toNat) && decide (c.toNat<=57)
def HY(a b:Y)(c:AI):Ar:=decide (c.toNat=a)||decide (c.toNat=b)
def FA(base:Y):Y->Bg->Y
 |n,[]=>n
 |n,c::l=>FA base (if n<=9007199254740992 then base*n+(c.toNat-48)else n) l
def jh(base:Y):∀(l m:Bg) (n:Y),FA base n (l++m)=FA base (FA base n l) m
 |[],_,_=>rfl
 |c::l,m,n=>by exact jh _ l m _
def YS(base:Y)(l:Bg)(c:AI)(n:Y):FA base n (l++[c])=if FA base n l<=9007199254740992 then base*FA base n l+(c.toNat-48)else FA base n l:=by
 rw[jh];rfl
def num(s:Bg):Y×Y:=
 let s1:=s.dropWhile (HY 32 32)
 if(s1.dropWhile Fj).dropWhile (HY 32 0)≠[]then(0,150)
 else if 9007199254740992<FA 8 0 (s1.takeWhile Fj)then(0,3)else(FA 8 0 (s1.takeWhile Fj),0)
def dec(s:Bg):Y×Y:=
 if s=[]∨(s.head? =J 48/\s≠[48])then(0,150)
 else if s.all Ec then(if 9007199254740992<FA 10 0 s then(0,3)else(FA 10 0 s,0))else(0,150)
def Mm(d:Y):AI:=BV (48+d)
def Dn(n:Y):Y->Bg
 |0=>[]
 |k+1=>Dn (n/8) k++[Mm (n%8)]
def QO:∀(k n:Y),Alz (Dn n k)=k
 |0,_=>rfl
 |k+1,n=>by simp[Dn,QO]
def Fk(n width:H):Bg×Y:=
 if width<2∨20<width then([],2)
 else if n<0∨n/8 ^ (width.toNat-1)≠0 then([],150)
 else(Dn n.toNat (width.toNat-1)++[0],0)
def Vr:∀(k n:Y),Dn n (k+1)=Mm (n/8 ^ k%8)::Dn n k
 |0,n=>by simp[Dn]
 |k+1,n=>by
  rw[Dn,Vr];simp[Dn,Gi,RM.injEq,and_true];rw[Xb,Kr,Qb]
def Cx(n:Y):Bg:=BH n 0
def cut(s:Bg):Bg:=s.takeWhile (· !=0)
def text(s:Bg)(width:H):Bg×Y:=
 if width<0∨512<width then([],2)
 else if width<Alz s∨cut s≠s then([],150)
 else(s++Cx (width.toNat-Alz s),0)
def OQ:∀(s:Bg) (c:AI),Lib.indexByte s c=-1/\c∉s∨∃i:Y,Lib.indexByte s c=i/\i<Alz s/\s.takeWhile (· !=c)=s.take i/\c∈s
 |[],c=>.inl ⟨Z,Bh⟩
 |b::s,c=>by
  unfold Lib.indexByte;by_cases h:b=c
  .simp_all
  .rcases OQ s c with⟨h1,h2⟩|⟨i,h1,h2,h3,h4⟩
   .grind
   .right;refine⟨i+1,?_,Bf,by simp_all,Bf⟩;grind
def UI(s:Bg):cut s=s↔(0:AI)∉s:=by
 unfold cut
 induction s with
 |nil=>simp
 |cons b s ih=>
  by_cases h:b=0
  .simp_all
  .simp[h,ih,Ne.symm]
def Ss(s:Bg):Alz (cut s)<=Alz s:=by
 exact(List.takeWhile_prefix _).length_le
def UJ{s:Bg}(h:(0:AI)∉s):cut s=s:=(UI s).2 h
def Fp(s:Bg):Y->Y
 |0=>0
 |i+1=>Fp s i+if 148<=i/\i<156 then 32 else(s.getD i 0).toNat
def VU(s:Bg):∀i,Fp s i<=255*i
 |0=>by simp[Fp]
 |i+1=>by
  have:=VU s i;have hc:(s.getD i 0).toNat<256:=(s.getD i 0).toNat_lt;simp only[Fp];grind
def sum(s:Bg):Y×Y:=if Alz s≠512 then(0,2)else(Fp s 512,0)
def OF{x:Y}(h:¬x<10):Lib.decDigits x=Lib.decDigits (x/10)++[Mm (x%10)]:=by
 rw[Lib.decDigits,dif_neg h];rfl
def Lt{x:Y}(h:x<10):Lib.decDigits x=[Mm x]:=by rw[Lib.decDigits,AQ h];rfl
def Qw(n:H):Bg:=if n<0 then[]else Lib.decDigits n.toNat
def oJ(s:Bg)(k:Y)(h:k<Alz s):s.take (k+1)=s.take k++[s[k]]:=by
 simp
def Yq(s:Bg)(k:Y)(h:k<Alz s):s.drop k=s[k]::s.drop (k+1):=Bh
end Fld
namespace Fld
open Go.Proofs.YtkmlafmjaeeanaaGreatDoor
def No{d:Y}(h:d<10):(Mm d).toNat=48+d:=by simp[Mm];omega
def SO:∀(k n:Y) (c:AI),c∈Dn n k->Fj c=Af
 |0,n,c,h=>by simp[Dn]at h
 |k+1,n,c,h=>by
  simp[Dn,CW,Cp]at h;rcases h with h|rfl
  .exact SO k _ c h
  .simp[Fj,Bool.and_eq_true,decide_eq_true_eq];rw[No X];omega
def YR:∀(k n:Y),n/8 ^ k=0->n<=9007199254740992->FA 8 0 (Dn n k)=n
 |0,n,h,hn=>by simp at h;simp[Dn,FA,h]
 |k+1,n,h,hn=>by
  have ih:=YR k (n/8) (by simp_all;omega) X;rw[Dn,YS,ih,Aj X,No X];omega
def zN{k n:Y}(hk:1<=k)(h:n/8 ^ k=0)(e:n<=9007199254740992):num (Dn n k++[0])=(n,0):=by
 obtain⟨j,rfl⟩:∃j,k=j+1:=⟨k-1,X⟩
 have i:(Dn n (j+1)++[0]).dropWhile (HY 32 32)=Dn n (j+1)++[0]:=by
  rw[Vr,Gi,dG];simp[HY,Rz];rw[No X];omega
 have g:(Dn n (j+1)++[0]).takeWhile Fj=Dn n (j+1):=by
  rw[dK (fun a d=>SO _ _ a d)];simp[Fj]
 have f:(Dn n (j+1)++[0]).dropWhile Fj=[0]:=by
  rw[List.dropWhile_append_of_pos (fun a d=>SO _ _ a d)];decide
 unfold num;simp only[i,g,f,YR _ _ h e];rw[Ag Bc,Ag X]
def xO{l m:Bg}(h:l≠[]):(l++m).head? =l.head?:=by
 cases l with
 |nil=>grind
 |cons a l=>rfl
def Yg(n:Y):Lib.decDigits n≠[]:=by
 by_cases h:n<10
 .rw[Lt h];simp
 .rw[OF h];simp
def gj(n:Y):∀c∈Lib.decDigits n,Ec c=Af:=by
 induction n using RY with
 |ind n ih=>
  intro c e
  have a:∀d,d<10->Ec _=Af:=fun d a=>by
   simp[Ec,Bool.and_eq_true];rw[No a];omega
  by_cases h:n<10
  .rw[Lt h,Cp]at e;grind
  .rw[OF h,CW,Cp]at e;grind
def uD(n:Y)(d:0<n):(Lib.decDigits n).head?≠J 48:=by
 induction n using RY with
 |ind n ih=>
  by_cases h:n<10
  .rw[Lt h];intro e;have:=No h;simp_all
  .rw[OF h];have a:=Yg (n/10);rw[xO a];grind
def vW(n:Y)(a:n<=9007199254740992):FA 10 0 (Lib.decDigits n)=n:=by
 induction n using RY with
 |ind n ih=>
  by_cases h:n<10
  .rw[Lt h];simp only[FA];rw[Aj X,No h];omega
  .rw[OF h,YS,ih _ X X,Aj X,No X];omega
def uA(n:Y)(d:n<=9007199254740992):dec (Lib.decDigits n)=(n,0):=by
 unfold dec;rw[Ag,Aj (TL.2 (gj n)),vW n d,Ag X];rintro(h|⟨f,e⟩)
 .exact Yg n h
 .rcases JF n with rfl|a
  .exact e (by rw[Lt Bh];rfl)
  .exact uD n a f
def fU{s:Bg}(h:cut s=s)(k:Y):cut (s++Cx k)=s:=by
 have a:=(UI s).1 h;unfold cut Cx
 rw[dK (by
  grind)]
 simp
end Fld
section
def good(p:Bg)(i:Y):Prop:=p[i]? =J 47/\1<=i/\i<=155/\i+2<=Alz p/\Alz p<=i+101
instance(p:Bg)(i:Y):Decidable (good p i):=by unfold good;infer_instance
def RI(p:Bg)(r:Bg×Bg×Ar):Prop:=
 (Alz p<=100/\r=([],p,Af))∨(100<Alz p/\∃i,good p i/\(∀j,j<i->¬good p j)/\r=(p.take i,p.drop (i+1),Af))∨(100<Alz p/\(∀j,¬good p j)/\r=([],[],Ai))
def Ags{p:Bg}{r f:Bg×Bg×Ar}(h:RI p r)(e:RI p f):r=f:=by
 rcases h with⟨g,rfl⟩|⟨g,i,l,m,rfl⟩|⟨g,l,rfl⟩
 .rcases e with⟨_,rfl⟩|⟨a,_⟩|⟨a,_⟩
  .rfl
  .omega
  .omega
 .rcases e with⟨a,_⟩|⟨_,j,d,k,rfl⟩|⟨_,d,_⟩
  .omega
  .grind
  .grind
 .rcases e with⟨a,_⟩|⟨_,j,d,_⟩|⟨_,_,rfl⟩
  .omega
  .grind
  .rfl
def xC{p:Bg}{i:Y}(h:i<Alz p):good p i↔p[i].toNat=47/\1<=i/\i<=155/\i+2<=Alz p/\Alz p<=i+101:=by
 unfold good;rw[BQ h,Qf.injEq];constructor
 .simp_all
 .rintro⟨d,a⟩;exact⟨Ku.1 d,a⟩
def BO(p:Bg):Bg×Bg×Ar:=
 if Alz p<=100 then([],p,Af)else match (BE (Alz p)).find? (fun i=>decide (good p i))with
  |some i=>(p.take i,p.drop (i+1),Af)
  |none=>([],[],Ai)
def og(p:Bg):RI p (BO p):=by
 unfold BO;split
 .rename_i h;exact .inl ⟨h,Z⟩
 .rename_i h;split
  .rename_i i e;refine .inr (.inl ⟨X,i,?_,?_,Z⟩)
   .grind
   .simp_all
  .rename_i a;refine .inr (.inr ⟨X,?_,Z⟩);intro j d;rw[List.find?_range_eq_none]at a;have:=a j (by have:=d.2.2;omega);grind
def oh{p:Bg}{r:Bg×Bg×Ar}(h:RI p r):r=BO p:=Ags h (og p)
def bt{p:Bg}(h:(BO p).2.2=Af)(l:p≠[]):
 Alz (BO p).2.1<=100/\(BO p).2.1≠[]/\Alz (BO p).1<=155/\(∀c∈(BO p).1,c∈p)/\(∀c∈(BO p).2.1,c∈p)/\(if(BO p).1≠[]then(BO p).1++[47]++(BO p).2.1 else(BO p).2.1)=p/\Alz p<=256:=by
 rcases og p with⟨f,e⟩|⟨f,i,d,m,e⟩|⟨f,d,e⟩
 .grind
 .rw[e];obtain⟨g,r,q,o,n⟩:=d;have a:i<Alz p:=X;rw[BQ a,Qf.injEq]at g
  have j:p.take i≠[]:=fun k=>by
   simp_all
  refine⟨Bv,fun k=>?_,Bv,Bf,Bf,?_,X⟩
  .simp_all;omega
  .have:=Hx i p;rw[DD a,g]at this;grind
 .grind
end
namespace Ust
open Fld
abbrev By:=Bg
structure Hd where
 g:By
 size:H
 kind:Y
 mode:H
 time:H
 link:By
 n0:By
 n1:By
 i0:H
 i1:H
 deriving DecidableEq
def HU:Hd:=⟨[],0,0,0,0,[],[],[],0,0⟩
def sl(s:By)(k n:Y):By:=(s.drop k).take n
def Dy(s:By)(n:Y):By:=s++Cx (n-Alz s)
def oc(n:H)(k:Y):By:=Dn n.toNat k++[0]
def magic:By:=[117,115,116,97,114,0,48,48]
def SM(n:Y):Alz (Cx n)=n:=by simp[Cx]
def SG{s:By}{n:Y}(h:Alz s<=n):Alz (Dy s n)=n:=by unfold Dy;rw[Bx,SM];omega
def lC(n:H)(k:Y):Alz (oc n k)=k+1:=by unfold oc;rw[Bx,QO];rfl
def HC(h:Hd)(name:By):Ae By:=[Dy name 100,oc h.mode 7,oc h.i0 7,oc h.i1 7,oc h.size 11,oc h.time 11]
def Ig(h:Hd)(pre:By):Ae By:=[[BV h.kind],Dy h.link 100,magic,Dy h.n0 32,Dy h.n1 32,oc 0 7++oc 0 7,Dy pre 155,Cx 12]
def MR(h:Hd)(pre name s:By):By:=(HC h name).flatten++s++(Ig h pre).flatten
def Iz(h:Hd):Y:=Fp (MR h (BO h.g).1 (BO h.g).2.1 (Cx 8)) 512
def Rq(n:Y):By:=Dn n 6++[0,32]
def Dr(h:Hd):By:=MR h (BO h.g).1 (BO h.g).2.1 (Rq (Iz h))
def JT(k:Y):Prop:=k=48∨k=53∨k=120∨k=103
instance(k:Y):Decidable (JT k):=by unfold JT;infer_instance
def CJ(n:H)(m:H):Prop:=0<=n/\n<=m
instance(n m:H):Decidable (CJ n m):=by unfold CJ;infer_instance
def KJ(s:By)(m:Y):Prop:=Alz s<=m/\(0:AI)∉s
instance(s:By)(m:Y):Decidable (KJ s m):=by unfold KJ;infer_instance
structure May(h:Hd):Prop where
 kind:JT h.kind
 g:(0:AI)∉h.g
 link:KJ h.link 100
 n0:KJ h.n0 31
 n1:KJ h.n1 31
 mode:CJ h.mode 2097151
 i0:CJ h.i0 2097151
 i1:CJ h.i1 2097151
 size:CJ h.size 8589934591
 time:CJ h.time 8589934591
def yK(h:Hd):May h↔JT h.kind/\(0:AI)∉h.g/\KJ h.link 100/\KJ h.n0 31/\KJ h.n1 31/\CJ h.mode 2097151/\CJ h.i0 2097151/\CJ h.i1 2097151/\CJ h.size 8589934591/\CJ h.time 8589934591:=
 ⟨fun⟨a,b,c,d,e,f,g,i,j,k⟩=>Bf,fun⟨a,b,c,d,e,f,g,i,j,k⟩=>⟨a,b,c,d,e,f,g,i,j,k⟩⟩
instance(h:Hd):Decidable (May h):=decidable_of_iff _ (yK h).symm
def JO(h:Hd):By×Y:=
 if(BO h.g).2.2=Ai∨h.g=[]then([],140)else if May h then(Dr h,0)else([],160)
def JW(s:By):By:=if cut (sl s 345 155)≠[]then cut (sl s 345 155)++[47]++cut (sl s 0 100)else cut (sl s 0 100)
def OT(s:By):Y:=if(s.getD 156 0).toNat=0 then 48 else(s.getD 156 0).toNat
def QF(s:By):Hd:=⟨JW s,(num (sl s 124 12)).1,OT s,(num (sl s 100 8)).1,(num (sl s 136 12)).1,cut (sl s 157 100),cut (sl s 265 32),cut (sl s 297 32),(num (sl s 108 8)).1,(num (sl s 116 8)).1⟩
structure OkD(s:By):Prop where
 len:Alz s=512
 magic:sl s 257 8=magic
 mode:(num (sl s 100 8)).2=0
 i0:(num (sl s 108 8)).2=0
 i1:(num (sl s 116 8)).2=0
 size:(num (sl s 124 12)).2=0
 time:(num (sl s 136 12)).2=0
 sum:(num (sl s 148 8)).2=0
 sums:(num (sl s 148 8)).1=Fp s 512
 g:JW s≠[]
def zX(s:By):OkD s↔Alz s=512/\sl s 257 8=magic/\(num (sl s 100 8)).2=0/\(num (sl s 108 8)).2=0/\(num (sl s 116 8)).2=0/\(num (sl s 124 12)).2=0/\(num (sl s 136 12)).2=0/\(num (sl s 148 8)).2=0/\(num (sl s 148 8)).1=Fp s 512/\JW s≠[]:=
 ⟨fun⟨a,b,c,d,e,f,g,i,j,k⟩=>Bf,fun⟨a,b,c,d,e,f,g,i,j,k⟩=>⟨a,b,c,d,e,f,g,i,j,k⟩⟩
instance(s:By):Decidable (OkD s):=decidable_of_iff _ (zX s).symm
def GN(s:By):Hd×Y:=if OkD s then(QF s,0)else(HU,160)
def nT:∀(L:Ae By) (i k n:Y) (h:i<Alz L),((L.map DQ).take i).sum=k->Alz (L[i])=n->sl L.flatten k n=L[i]
 |[],i,k,n,h,_,_=>by simp at h
 |a::L,0,k,n,h,hk,hn=>by
  subst hk hn;simp[sl]
 |a::L,i+1,k,n,h,hk,hn=>by
  simp at hk;have ih:=nT L i (k-Alz a) n (by simpa using h) X Bf;have hle:Alz a<=k:=X;simp only[List.getElem_cons_succ];rw[<-ih];unfold sl;rw[PS,List.drop_append,Of hle,EW]
def oy{s t:By}:∀i,(∀k,k<i->¬(148<=k/\k<156)->s.getD k 0=t.getD k 0)->Fp s i=Fp t i
 |0,_=>rfl
 |i+1,h=>by
  simp only[Fp];rw[oy i (fun k hk=>h k X)];grind
def Ahf{a b d c:By}(g:Alz a=148)(f:Alz b=8)(e:Alz d=8)(i:Y):Fp (a++b++c) i=Fp (a++d++c) i:=by
 apply oy;grind
def zO{n:Y}(h:n/8 ^ 6=0):num (Rq n)=(n,0):=by
 have i:(Dn n 6++[0,32]).dropWhile (HY 32 32)=Dn n 6++[0,32]:=by
  rw[Vr,Gi,dG];simp[HY,Rz];rw[No X];omega
 have g:(Dn n 6++[0,32]).takeWhile Fj=Dn n 6:=by
  rw[dK (fun a d=>SO _ _ a d)];simp[Fj]
 have f:(Dn n 6++[0,32]).dropWhile Fj=[0,32]:=by
  rw[List.dropWhile_append_of_pos (fun a d=>SO _ _ a d)];decide
 unfold num Rq
 have e:n<=9007199254740992:=by
  omega
 simp only[i,g,f,YR _ _ h e];rw[Ag Bc,Ag X]
def SN{n:H}{k:Y}(hk:1<=k)(h0:0<=n)(h:n.toNat/8 ^ k=0)(hn:n<=9007199254740992):num (oc n k)=(n.toNat,0):=zN hk h X
def Zh(h:Hd){a:By}(d:Alz a<=100):(HC h a).map DQ=[100,8,8,8,12,12]:=by
 simp[HC,Cm,Em,SG d,lC]
def oG(h:Hd){pre:By}(a:Alz pre<=155)(h1:Alz h.link<=100)(h2:Alz h.n0<=32)(d:Alz h.n1<=32):(Ig h pre).map DQ=[1,100,8,32,32,16,155,12]:=by
 simp only[Ig,Cm,Em,SG a,SG h1,SG h2,SG d,Bx,lC,SM];rfl
def pB(h:Hd)(pre a s:By):MR h pre a s=(HC h a++[s]++Ig h pre).flatten:=by simp[MR]
def Sr{s:By}(h:(0:AI)∉s)(n:Y):cut (Dy s n)=s:=fU (UJ h) _
def oz(s:By):Fp s 512/8 ^ 6=0:=by
 have:=VU s 512;omega
def bz(n:Y):Alz (Rq n)=8:=by rfl
def gR{h:Hd}{pre a s:By}(hm:May h)(j:Alz a<=100)(g:Alz pre<=155)(f:Alz s=8):
 Alz (MR h pre a s)=512/\∀(i k n:Y),i<15->(([100,8,8,8,12,12,8,1,100,8,32,32,16,155,12]:Bj).take i).sum=k->([100,8,8,8,12,12,8,1,100,8,32,32,16,155,12]:Bj)[i]? =J n->∃x,(HC h a++[s]++Ig h pre)[i]? =J x/\sl (MR h pre a s) k n=x:=by
 have m:=hm.link.1;have t:=hm.n0.1;have r:=hm.n1.1
 have l:(HC h a++[s]++Ig h pre).map DQ=[100,8,8,8,12,12,8,1,100,8,32,32,16,155,12]:=by
  rw[DW,DW,Zh h j,oG h g m X X];simp[f]
 refine⟨?_,fun i k n q p o=>?_⟩
 .rw[pB,WP,l];rfl
 .have e:Alz (HC h a++[s]++Ig h pre)=15:=by simp[HC,Ig]
  have d:i<Alz (HC h a++[s]++Ig h pre):=X;refine⟨_,BQ d,?_⟩;rw[pB];refine nT _ i k n _ Bf ?_;grind
def Qx{n:H}{k:Y}{m:H}(h:CJ n m)(hm:m<((8 ^ k:Y):H)):n.toNat/8 ^ k=0:=Nat.div_eq_zero_iff.2 (.inr (by have:=h.1;have:=h.2;omega))
def xo{s:By}{k:Y}{x:AI}(h:sl s k 1=[x]):s.getD k 0=x:=by
 unfold sl at h;by_cases a:k<Alz s
 .rw[DD a,Ub,Oj]at h;grind
 .rw[Of X]at h;grind
def xJ{h:Hd}(hm:May h)(e:(BO h.g).2.2=Af)(f:h.g≠[]):Alz (Dr h)=512:=by
 obtain⟨d,l,a,k,j,i,g⟩:=bt e f;exact(gR hm d a (bz _)).1
def Nn{h:Hd}(hm:May h)(hs:(BO h.g).2.2=Af)(hp:h.g≠[]):GN (Dr h)=(h,0):=by
 obtain⟨G,s2,S,Q,P,N,s7⟩:=bt hs hp;obtain⟨i,a⟩:=gR (s:=Rq (Iz h)) hm G S (bz _);have v:=a 0 0 100 Bc Z Z;have t:=a 1 100 8 Bc Z Z;have r:=a 2 108 8 Bc Z Z;have p:=a 3 116 8 Bc Z Z;have o:=a 4 124 12 Bc Z Z;have n:=a 5 136 12 Bc Z Z;have m:=a 6 148 8 Bc Z Z;have l:=a 7 156 1 Bc Z Z;have k:=a 8 157 100 Bc Z Z;have j:=a 9 257 8 Bc Z Z;have g:=a 10 265 32 Bc Z Z;have f:=a 11 297 32 Bc Z Z;have d:=a 13 345 155 Bc Z Z;change ∃x,J _=J x/\_ at v t r p o n m l k j g f d;obtain⟨_,e,v⟩:=v;cases e;obtain⟨_,e,t⟩:=t;cases e;obtain⟨_,e,r⟩:=r;cases e;obtain⟨_,e,p⟩:=p;cases e;obtain⟨_,e,o⟩:=o;cases e;obtain⟨_,e,n⟩:=n;cases e;obtain⟨_,e,m⟩:=m;cases e;obtain⟨_,e,l⟩:=l;cases e;obtain⟨_,e,k⟩:=k;cases e;obtain⟨_,e,j⟩:=j;cases e;obtain⟨_,e,g⟩:=g;cases e;obtain⟨_,e,f⟩:=f;cases e;obtain⟨_,e,d⟩:=d;cases e;change sl (Dr h) _ _=_ at v t r p o n m l k j g f d;change (Alz (Dr h))=512 at i;have L:(0:AI)∉(BO h.g).2.1:=fun q=>hm.g (P _ q);have K:(0:AI)∉(BO h.g).1:=fun q=>hm.g (Q _ q);have C:=hm.mode;have B:=hm.i0;have A:=hm.i1;have y:=hm.size;have w:=hm.time;have n1:num (sl (Dr h) 100 8)=(h.mode.toNat,0):=by rw[t];exact SN Bc C.1 (Qx C Bc) (by have:=C.2;omega)
 have n2:num (sl (Dr h) 108 8)=(h.i0.toNat,0):=by rw[r];exact SN Bc B.1 (Qx B Bc) (by have:=B.2;omega)
 have W:num (sl (Dr h) 116 8)=(h.i1.toNat,0):=by rw[p];exact SN Bc A.1 (Qx A Bc) (by have:=A.2;omega)
 have V:num (sl (Dr h) 124 12)=(h.size.toNat,0):=by rw[o];exact SN Bc y.1 (Qx y Bc) (by have:=y.2;omega)
 have T:num (sl (Dr h) 136 12)=(h.time.toNat,0):=by rw[n];exact SN Bc w.1 (Qx w Bc) (by have:=w.2;omega)
 have n6:num (sl (Dr h) 148 8)=(Iz h,0):=by rw[m];exact zO (oz _)
 have I:Fp (Dr h) 512=Iz h:=by
  unfold Dr Iz MR;refine Ahf ?_ (bz _) (SM 8) _;rw[WP,Zh h G];rfl
 have hk:OT (Dr h)=h.kind:=by
  unfold OT;rw[xo l];have:=hm.kind;unfold JT at this;rcases this with e|e|e|e<;>rw[e]<;>rfl
 have D:JW (Dr h)=h.g:=by
  unfold JW;rw[v,d,Sr L,Sr K];exact N
 have E:OkD (Dr h):=⟨i,j,Bf,Bf,Bf,Bf,Bf,Bf,Bf,Bf⟩;unfold GN;rw[Aj E];unfold QF;rw[D,hk,n1,n2,W,V,T,k,g,f,Sr hm.link.2,Sr hm.n0.2,Sr hm.n1.2];simp only[TH C.1,TH B.1,TH A.1,TH y.1,TH w.1]
end Ust
namespace Pax
open Fld
abbrev By:=Bg
structure Pr where
 key:By
 val:By
 deriving DecidableEq
def CI(s:By)(c:AI):By×By×Ar:=if c∈s then(s.takeWhile (· !=c),(s.dropWhile (· !=c)).drop 1,Af)else(s,[],Ai)
def fS(s:By)(c:AI):Alz (CI s c).1<=Alz s:=by
 unfold CI;split
 .exact(List.takeWhile_prefix _).length_le
 .simp
def Jd(s:By):Av (Pr×Y):=
 let d:=CI s 32
 let n:=(dec d.1).1
 if d.2.2=Af/\(dec d.1).2=0/\n<=Alz s/\Alz d.1+2<=n/\s.getD (n-1) 0=10 then
  let e:=CI ((s.drop (Alz d.1+1)).take (n-1-(Alz d.1+1))) 61
  if e.2.2=Af/\e.1≠[]then J (⟨e.1,e.2.1⟩,n)else Aa
 else Aa
def Ew:Y->By->Ae Pr->Ae Pr×Y
 |0,_,_=>([],170)
 |f+1,s,out=>if s=[]then(out,0)else match Jd s with
  |some (p,n)=>Ew f (s.drop n) (out++[p])
  |none=>([],170)
def Ex(s:By):Ae Pr×Y:=if 262144<Alz s then([],3)else Ew (Alz s+1) s []
def uW{s:By}{p:Pr}{n:Y}(h:Jd s=J (p,n)):2<=n/\n<=Alz s:=by
 unfold Jd at h;grind
def XZ:∀(f:Y) (s:By) (out:Ae Pr),Alz s<f->Ew f s out=((if(Ew f s []).2=0 then out++(Ew f s []).1 else[]),(Ew f s []).2)/\∀f',Alz s<f'->Ew f' s out=Ew f s out
 |0,s,out,h=>by omega
 |f+1,s,out,h=>by
  by_cases hs:s=[]
  .subst hs;refine⟨by simp[Ew],fun f' h'=>?_⟩;obtain⟨g,rfl⟩:∃g,f'=g+1:=⟨f'-1,X⟩;simp[Ew]
  .rcases hd:Jd s with _|⟨p,n⟩
   .refine⟨by simp[Ew,hs,hd],fun f' h'=>?_⟩;obtain⟨g,rfl⟩:∃g,f'=g+1:=⟨f'-1,X⟩;simp[Ew,hd]
   .obtain⟨n2,nl⟩:=uW hd;have hl:Alz (s.drop n)<f:=by rw[CA];omega
    obtain⟨d,_⟩:=XZ f (s.drop n) (out++[p]) hl;obtain⟨a,_⟩:=XZ f (s.drop n) ([]++[p]) hl;refine⟨?_,fun f' h'=>?_⟩
    .rw[Ew,Ag hs,hd,Ew,Ag hs,hd];grind
    .obtain⟨g,rfl⟩:∃g,f'=g+1:=⟨f'-1,X⟩;rw[Ew,Ag hs,hd,Ew,Ag hs,hd];grind
def dl(n:Y):Y:=Alz (Lib.decDigits n)
def JM(r:Y):Y:=((BE 40).find? (fun d=>decide (1<=d/\dl (d+r)=d))).getD 0
def IsD(r d:Y):Prop:=1<=d/\d<40/\dl (d+r)=d/\∀d',1<=d'->d'<d->dl (d'+r)≠d'
def yl{r d:Y}(h:IsD r d):d=JM r:=by
 obtain⟨i,g,f,e⟩:=h;unfold JM
 have:(BE 40).find? (fun d=>decide (1<=d/\dl (d+r)=d))=J d:=by
  rw[List.find?_range_eq_some];refine⟨Bf,Bf,fun j a=>?_⟩;grind
 grind
def rest(p:Pr):Y:=Alz p.key+Alz p.val+3
def Dk(p:Pr):Y:=JM (rest p)+rest p
def DA(p:Pr):By:=Lib.decDigits (Dk p)++[32]++p.key++[61]++p.val++[10]
def MB(k:By):Ar:=decide (k≠[]/\(61:AI)∉k)
def Lv:Ae Pr->Y->By->By×Y
 |[],_,out=>(out,0)
 |p::l,n,out=>if 262144<n+Dk p then([],3)else Lv l (n+Dk p) (out++DA p)
def Nq(l:Ae Pr):By×Y:=if l.all (fun p=>MB p.key)then Lv l 0 []else([],170)
def gC:∀(n m:Y),n<=m->dl n<=dl m:=by
 intro n
 induction n using RY with
 |ind n ih=>
  intro m h;unfold dl;by_cases d:m<10
  .rw[Lt d,Lt X];simp
  .rw[OF d];by_cases a:n<10
   .rw[Lt a];simp
   .rw[OF a];have:=ih (n/10) X (m/10) X;unfold dl at this;grind
def gD(n:Y):1<=dl n:=Oh.2 (Yg n)
def gB:∀(k n:Y),n<10 ^ k->1<=k->dl n<=k
 |0,n,_,h=>by omega
 |1,n,h,_=>by
  unfold dl;rw[Lt X];simp
 |k+2,n,h,_=>by
  by_cases hn:n<10
  .unfold dl;rw[Lt hn];simp
  .have:=gB (k+1) (n/10) Bf X;unfold dl at this ⊢;rw[OF hn];grind
end Pax
namespace Pth
abbrev Cl:=Ae (Bg)
def BN:Bg->Cl
 |[]=>[[]]
 |c::s=>if c=47 then[]::BN s else match BN s with
  |p::r=>(c::p)::r
  |[]=>[[c]]
def au(c:AI)(s:Bg):BN (c::s)=if c=47 then[]::BN s else match BN s with
 |p::r=>(c::p)::r
 |[]=>[[c]]:=rfl
def Vv:∀s,BN s≠[]
 |[]=>by simp[BN]
 |c::s=>by
  unfold BN;grind
def aw:∀a b:Bg,(∀c∈a,c≠47)->BN (a++47::b)=a::BN b
 |[],b,_=>by rfl
 |c::a,b,h=>by
  have hc:=h c Bh;rw[Gi,au,Ag hc,aw a b Bf]
def ax:∀a:Bg,(∀c∈a,c≠47)->BN a=[a]
 |[],_=>rfl
 |c::a,h=>by
  have hc:=h c Bh;rw[au,Ag hc,ax a Bf]
def wt:Cl->Y
 |[]=>0
 |x::l=>Alz x+1+wt l
def Tx:∀s,wt (BN s)=Alz s+1
 |[]=>rfl
 |c::s=>by
  have ih:=Tx s;unfold BN;split
  .simp[wt,ih];omega
  .split
   .rename_i p r e;rw[e]at ih;simp[wt]at ih ⊢;omega
   .rename_i e;exact AH e (Vv s)
def Wl:∀l:Cl,Alz l<=wt l
 |[]=>by simp
 |x::l=>by have:=Wl l;simp[wt];omega
def cA:∀a b:Cl,wt (a++b)=wt a+wt b
 |[],b=>by simp[wt]
 |x::a,b=>by simp[wt,cA];omega
def cB(q:Bg->Ar):∀l:Cl,wt (l.filter q)<=wt l
 |[]=>by simp
 |x::l=>by
  have:=cB q l;rw[LU];split<;>simp[wt]<;>omega
def IB:Cl->Bg
 |[]=>[]
 |[x]=>x
 |x::y::l=>x++47::IB (y::l)
def Zu:∀l:Cl,Go.Lib.join l [47]=IB l
 |[]=>rfl
 |[x]=>by simp[Go.Lib.join,IB]
 |x::y::l=>by
  have ih:=Zu (y::l);simp only[Go.Lib.join,List.intercalate,IB]at ih ⊢;simp_all
def jV:∀l:Cl,Alz (IB l)<=wt l
 |[]=>by simp[IB]
 |[x]=>by simp[IB,wt]
 |x::y::l=>by
  have:=jV (y::l);simp[IB,wt]at this ⊢;omega
def OS(x:Bg):Ar:=decide (x≠[]/\x≠[46])
def kept(l:Cl):Cl:=l.filter OS
def jX(l:Cl)(x:Bg):kept (l++[x])=if OS x=Af then kept l++[x]else kept l:=by
 unfold kept;grind
def dd:Bg:=[46,46]
def fits(s:Bg):Prop:=∀c∈s,32<=c.toNat/\c.toNat<=126
instance(s:Bg):Decidable (fits s):=by unfold fits;infer_instance
def GK(s:Bg):Bg×Y:=
 if fits s/\dd∉BN s/\IB (kept (BN s))≠[]/\Alz (IB (kept (BN s)))<=120 then(IB (kept (BN s)),0)else([],140)
def Cw(s:Bg):Y:=if GK s=(s,0)then 0 else 140
end Pth
namespace Tar
open Fld Ust Pax Pth
abbrev By:=Bg
structure En where
 g:By
 data:By
 deriving DecidableEq
def GP(n:Y):Y:=(n+511)/512*512
def YI(n:Y):n<=GP n:=by unfold GP;omega
def SA(n:Y):GP n<=n+511:=by unfold GP;omega
def Dg(path:By)(kind n:Y):Hd:=⟨path,(n:H),kind,420,0,[],[],[],0,0⟩
def GV(path:By)(kind:Y)(data:By):By:=Dr (Dg path kind (Alz data))++data++Cx (GP (Alz data)-Alz data)
def ED:By:=[112,97,116,104]
def IF:By:=[112,97,120]
def JR(x:En):By:=if(BO x.g).2.2=Af then GV x.g 48 x.data else GV IF 120 (DA ⟨ED,x.g⟩)++GV (x.g.take 100) 48 x.data
def JQ(x:En):By×Y:=if Cw x.g≠0 then([],140)else if 262144<Alz x.data then([],3)else(JR x,0)
def Qq{s:By}(h:Cw s=0):GK s=(s,0)/\s≠[]/\Alz s<=120/\(0:AI)∉s:=by
 unfold Cw at h;split at h
 .rename_i e;refine⟨e,?_⟩;unfold GK at e;split at e
  .rename_i a;simp at e;rw[e]at a;refine⟨a.2.2.1,X,fun d=>?_⟩;have:=(a.1 0 d).1;grind
  .grind
 .omega
def bg{p:By}(h:Alz p<=100):(BO p).2.2=Af:=by unfold BO;grind
def zA{p:By}(h:¬(BO p).2.2=Af):100<Alz p:=by
 apply Nat.lt_of_not_le;intro q;exact h (bg q)
def Ze{p:By}{k n:Y}(h0:(0:AI)∉p)(hk:JT k)(hn:n<=8589934591):May (Dg p k n):=
 ⟨hk,h0,⟨BC _,by simp[Dg]⟩,⟨BC _,by simp[Dg]⟩,⟨BC _,by simp[Dg]⟩,⟨by show(0)<=420;decide,by show(420)<=2097151;decide⟩,⟨Int.le_refl _,by show(0)<=2097151;decide⟩,⟨Int.le_refl _,by show(0)<=2097151;decide⟩,⟨by show(0:H)<=n;omega,by show(n:H)<=8589934591;omega⟩,⟨Int.le_refl _,by show(0)<=8589934591;decide⟩⟩
structure Good(p:By)(k n:Y):Prop where
 ne:p≠[]
 zero:(0:AI)∉p
 split:(BO p).2.2=Af
 kind:JT k
 size:n<=8589934591
def Good.enc{p:By}{k n:Y}(h:Good p k n):JO (Dg p k n)=(Dr (Dg p k n),0):=by
 unfold JO
 have a:¬((BO (Dg p k n).g).2.2=Ai∨(Dg p k n).g=[]):=by
  rintro(q|q)
  .rw[show(Dg p k n).g=p from Z,h.split]at q;grind
  .exact h.ne q
 rw[Ag a,Aj (Ze h.zero h.kind h.size)]
def Good.len{p:By}{k n:Y}(h:Good p k n):Alz (Dr (Dg p k n))=512:=xJ (Ze h.zero h.kind h.size) h.split h.ne
def Good.dec{p:By}{k n:Y}(h:Good p k n):GN (Dr (Dg p k n))=(Dg p k n,0):=Nn (Ze h.zero h.kind h.size) h.split h.ne
def YW{x:En}(h:Cw x.g=0)(f:Alz x.data<=262144)(a:(BO x.g).2.2=Af):Good x.g 48 (Alz x.data):=by
 obtain⟨_,e,_,d⟩:=Qq h;exact⟨e,d,a,.inl Z,X⟩
def YX{n:Y}(h:n<=8589934591):Good IF 120 n:=⟨by simp[IF],Bc,bg Bc,.inr (.inr (.inl Z)),h⟩
def YV{x:En}(h:Cw x.g=0)(a:Alz x.data<=262144):Good (x.g.take 100) 48 (Alz x.data):=by
 obtain⟨_,e,_,d⟩:=Qq h;refine⟨fun q=>?_,Bf,bg Bf,.inl Z,X⟩;simp_all
def SC:∀r,r<200->dl (JM r+r)=JM r/\1<=JM r/\JM r<=3:=by decide+kernel
def fR{a b:By}{c:AI}(h:c∉a):CI (a++c::b) c=(a,b,Af):=by
 have d:∀x∈a,(x !=c)=Af:=Bf;unfold CI;simp_all
def aH{p:Pr}(h:rest p<200):Alz (DA p)=Dk p:=by
 have a:=(SC _ h).1;unfold DA;simp only[Bx,CL];have e:Alz (Lib.decDigits (Dk p))=JM _:=a;rw[e];unfold Dk rest;omega
def Acd{p:Pr}(h:rest p<200)(hk:(61:AI)∉p.key)(m:p.key≠[]):Ex (DA p)=([p],0):=by
 have v:=SC _ h;have w:=aH h;have i:Dk p<=9007199254740992:=by unfold Dk;omega
 have x:Alz (Lib.decDigits (Dk p))=JM _:=v.1
 have f:(32)∉Lib.decDigits (Dk p):=fun q=>by
  have:=gj _ _ q;exact AH this Bc
 have t:DA p=Lib.decDigits (Dk p)++32::(p.key++61::(p.val++[10])):=by simp[DA]
 have r:=fR (b:=p.key++61::(p.val++[10])) f;rw[<-t]at r;have n:=uA _ i;have l:rest p=Alz p.key+Alz p.val+3:=rfl;have j:Dk p=JM _+rest p:=rfl
 have g:((DA p).drop (Alz (Lib.decDigits (Dk p))+1)).take (Dk p-1-(Alz (Lib.decDigits (Dk p))+1))=p.key++61::p.val:=by
  have e:DA p=(Lib.decDigits (Dk p)++[32])++((p.key++61::p.val)++[10]):=by simp[DA]
  rw[e,RN Bh,Hy Bf]
 have o:=fR (b:=p.val) hk
 have a:Jd (DA p)=J (p,Dk p):=by
  unfold Jd;rw[r];simp only;rw[n];rw[Aj Bf,g,o];rw[Aj ⟨Bh,m⟩]
 have d:DA p≠[]:=Bf
 have y:Ew (Alz (DA p)+1) (DA p) []=([p],0):=by
  rw[Ew,Ag d,a];simp only;rw[Of X];have:∃k,Alz (DA p)=k+1:=⟨Alz (DA p)-1,X⟩;obtain⟨k,hk⟩:=this;rw[hk,Ew,Aj Z];rfl
 unfold Ex;simp_all;omega
def Ph{s:By}(h:Alz s<=120):rest ⟨ED,s⟩<200:=by unfold rest ED;grind
def Aaw{s:By}(h:Alz s<=120):Nq [⟨ED,s⟩]=(DA ⟨ED,s⟩,0):=by
 have a:=SC _ (Ph h);have e:=Ph h;have d:Dk ⟨ED,s⟩<=262144:=by unfold Dk;omega
 unfold Nq;rw[Aj (by rfl),Lv,Ag X,Lv];rfl
def Aav{s:By}(h:Alz s<=120):Ex (DA ⟨ED,s⟩)=([⟨ED,s⟩],0):=Acd (Ph h) (show(61:AI)∉ED by decide) (show ED≠[] by decide)
def aY{p:By}{k:Y}{d:By}(h:Good p k (Alz d)):Alz (GV p k d)=512+GP (Alz d):=by
 have:=YI (Alz d);unfold GV;rw[Bx,Bx,h.len,SM];omega
end Tar
namespace Dsk
open Go.Proofs.YtkmlafmjaeeanaaGreatDoor
inductive Ch where
 |write (i:Y) (s:Bg)
 |cut (n:Y)
def EQ(n:Y):Bg:=BH n 0
def Ch.ap:Ch->Bg->Bg
 |.write i s,all=>
  (all++EQ ((i+1)*512-Alz all)).take (i*512)++s++(all++EQ ((i+1)*512-Alz all)).drop (i*512+Alz s)
 |.cut n,all=>all.take (min (Alz all) (n*512))
def Ch.ok(cap:Y):Ch->Prop
 |.write i s=>i<cap/\Alz s=512
 |.cut n=>n<=cap
def PH(n:Y):Alz (EQ n)=n:=by simp[EQ]
def Ut{cap:Y}{c:Ch}(h:c.ok cap){all:Bg}(a:Alz all<=512*cap):Alz (c.ap all)<=512*cap:=by
 cases c with
 |write i s=>
  obtain⟨e,d⟩:=h;simp only[Ch.ap,Bx,BW,CA,PH];omega
 |cut n=>simp only[Ch.ap,BW];omega
def Xv{cap:Y}{c:Ch}(h:c.ok cap){all:Bg}(a:Alz all%512=0):Alz (c.ap all)%512=0:=by
 cases c with
 |write i s=>
  obtain⟨e,d⟩:=h;simp only[Ch.ap,Bx,BW,CA,PH];omega
 |cut n=>simp only[Ch.ap,BW];omega
structure Dv where
 cap:Y
 kept:Bg
 now:Bg
 pend:Ae Ch
 at_:Y
 keep:Ae Ar
 dead:Ar
 calls:Y
structure Dv.q(D:Dv):Prop where
 cap:1<=D.cap/\D.cap<=4096
 kept:Alz D.kept<=512*D.cap
 now:Alz D.now<=512*D.cap
 keptM:Alz D.kept%512=0
 nowM:Alz D.now%512=0
 pend:∀c∈D.pend,c.ok D.cap
def DM:Ae Ch->Ae Ar->Bg->Bg
 |[],_,all=>all
 |c::cs,[],all=>all
 |c::cs,b::bs,all=>DM cs bs (if b then c.ap all else all)
def Dv.Akl(D:Dv)(c:Av Ch):Dv:=match c with
 |some c=>{ D with pend:=D.pend++[c] }
 |none=>D
def Dv.done(D:Dv)(c:Av Ch):Dv:=match c with
 |some c=>{ D with now:=c.ap D.now,calls:=D.calls+1 }
 |none=>{ D with kept:=D.now,pend:=[],calls:=D.calls+1 }
def Dv.Ako(D:Dv)(c:Av Ch):Dv×Y:=
 let E:=D.Akl c
 if E.at_=0 then(E.done c,0)
 else if E.at_=1 then({ E with kept:=DM E.pend E.keep E.kept,now:=DM E.pend E.keep E.kept,pend:=[],at_:=0,keep:=[],dead:=Af },190)
 else(Dv.done { E with at_:=E.at_-1 } c,0)
def YG{cap:Y}:∀(cs:Ae Ch) (bs:Ae Ar) (all:Bg),(∀c∈cs,c.ok cap)->Alz all<=512*cap->Alz all%512=0->Alz (DM cs bs all)<=512*cap/\Alz (DM cs bs all)%512=0
 |[],_,all,_,h1,h2=>⟨h1,h2⟩
 |c::cs,[],all,_,h1,h2=>⟨h1,h2⟩
 |c::cs,b::bs,all,h,h1,h2=>by
  simp[DM];refine YG _ _ _ Bf ?_ ?_
  .split
   .exact Ut Bf h1
   .omega
  .split
   .exact Xv (h c Bh) h2
   .omega
def gP:∀(cs:Ae Ch) (c:Ch) (bs:Ae Ar) (all:Bg),DM (cs++[c]) bs all=if bs.getD (Alz cs) Ai then c.ap (DM cs bs all)else DM cs bs all
 |[],c,[],all=>by simp[DM]
 |[],c,b::bs,all=>by simp[DM]
 |d::cs,c,[],all=>by simp[DM]
 |d::cs,c,b::bs,all=>by
  simp[Gi,DM,gP,CF,List.getD_cons_succ]
def mr{D:Dv}(h:D.q){c:Av Ch}(e:∀d,c=J d->d.ok D.cap):(D.Akl c).q:=by
 cases c with
 |none=>exact h
 |some c=>
  refine⟨h.cap,h.kept,h.now,h.keptM,h.nowM,fun d a=>?_⟩;simp[Dv.Akl,CW,Cp]at a;rcases a with a|rfl
  .exact h.pend d a
  .exact e _ Z
def gH{D:Dv}(h:D.q){c:Av Ch}(a:∀d,c=J d->d.ok D.cap):(D.done c).q:=by
 cases c with
 |none=>exact⟨h.cap,h.now,h.now,h.nowM,h.nowM,fun d e=>by simp[Dv.done]at e⟩
 |some c=>exact⟨h.cap,h.kept,Ut (a c Z) h.now,h.keptM,Xv (a c Z) h.nowM,h.pend⟩
def mq(D:Dv)(c:Av Ch):(D.Akl c).cap=D.cap:=by cases c<;>rfl
def Yk{D:Dv}(h:D.q){c:Av Ch}(i:∀d,c=J d->d.ok D.cap):(D.Ako c).1.q:=by
 have a:=mr h i;have e:∀d,c=J d->d.ok (D.Akl c).cap:=fun d j=>by rw[mq];grind
 unfold Dv.Ako;simp;split
 .exact gH a e
 .split
  .obtain⟨g,f⟩:=YG (cap:=(D.Akl c).cap) (D.Akl c).pend (D.Akl c).keep (D.Akl c).kept a.pend a.kept a.keptM;exact⟨a.cap,g,g,f,f,Bh⟩
  .exact gH (D:={ D.Akl c with at_:=(D.Akl c).at_-1 }) ⟨a.cap,a.kept,a.now,a.keptM,a.nowM,a.pend⟩ e
def Rj(b:Y)(odd:Ar):Bg:=BH (if odd then 511 else 512) (BV b)
end Dsk
namespace Bz
abbrev Bs:=Ae Ar
abbrev By:=Bg
def nb(n v:Y):Bs:=(BE n).map fun k=>v.testBit (n-1-k)
def nb_length(n v:Y):Alz (nb n v)=n:=by simp[nb]
def Vk{n v k:Y}(h:k<n):(nb n v)[k]? =J (v.testBit (n-1-k)):=by simp[nb,h]
def zj{n v k:Y}(h:k<n):(nb n v).take (k+1)=(nb n v).take k++[v.testBit (n-1-k)]:=by
 rw[LY,Vk h];rfl
def num:Bs->Y:=List.foldl (fun v b=>2*v+b.toNat) 0
def ZZ(l:Bs)(b:Ar):num (l++[b])=2*num l+b.toNat:=by simp[num]
def bp{α:Type}{p:Ae α->Prop}(h0:p [])(h1:∀l a,p l->p (l++[a]))(l:Ae α):p l:=by
 have:∀r:Ae _,p r.reverse:=fun r=>by
  induction r with
  |nil=>grind
  |cons a r ih=>grind
 simpa using this l.reverse
def Pe(l:Bs):num l<2 ^ Alz l:=by
 induction l using bp with
 |h0=>simp[num]
 |h1 l b ih=>
  rw[ZZ,Bx,CL,Kr];have:=PJ b;omega
def QM(l:Bs):∀k,(num l).testBit k=l.reverse.getD k Ai:=by
 induction l using bp with
 |h0=>intro k;simp[num]
 |h1 l b ih=>
  intro k;rw[ZZ,List.reverse_append];cases k with
  |zero=>cases b<;>simp<;>omega
  |succ k=>
   rw[Nat.testBit_succ,show(2*num l+b.toNat)/2=num l by have:=PJ b;omega,ih];simp
def kZ(l:Bs):nb (Alz l) (num l)=l:=by
 apply He;intro k;rcases CM k (Alz l)with h|h
 .rw[Vk h,QM,Cd,TR X,show Alz l-1-(Alz l-1-k)=k by omega,BQ h];rfl
 .rw[IV (by rw[nb_length];omega),IV h]
def zM{n v:Y}(h:v<2 ^ n):num (nb n v)=v:=by
 apply Ue;intro k;rw[QM,Cd];rcases CM k n with a|a
 .rw[TR (by rwa[nb_length]),nb_length,Vk X,show n-1-(n-1-k)=k by omega];rfl
 .rw[IV (by rwa[List.length_reverse,nb_length]),Qd (Kq h (Gb Bh a))];rfl
def Cj(s:By)(i:Y):Ar:=(s.getD (i/8) 0).toNat.testBit (7-i%8)
def bitsOf(s:By):Bs:=(BE (8*Alz s)).map (Cj s)
def bitsOf_length(s:By):Alz (bitsOf s)=8*Alz s:=by simp[bitsOf]
def sI{s:By}{i:Y}(h:i<8*Alz s):(bitsOf s)[i]? =J (Cj s i):=by simp[bitsOf,h]
def Fx(l:Bs)(j:Y):Y:=num ((BE 8).map fun k=>l.getD (8*j+k) Ai)
def Qn(l:Bs)(j:Y):Fx l j<256:=by
 have:=Pe ((BE 8).map fun k=>l.getD (8*j+k) Ai);simpa[Fx]using this
def UB(l:Bs)(j k:Y)(h:k<8):(Fx l j).testBit (7-k)=l.getD (8*j+k) Ai:=by
 unfold Fx;rw[QM,Cd,TR Bf];grind
def pack(l:Bs):By:=(BE ((Alz l+7)/8)).map fun j=>BV (Fx l j)
def pack_length(l:Bs):Alz (pack l)=(Alz l+7)/8:=by simp[pack]
def SQ{l:Bs}{j:Y}(h:j<(Alz l+7)/8):(pack l)[j]? =J (BV (Fx l j)):=by simp[pack,h]
def eR{l:Bs}{i:Y}(h:i<8*((Alz l+7)/8)):Cj (pack l) i=l.getD i Ai:=by
 unfold Cj;rw[Cd,SQ X];have:=Qn l (i/8);simp only[Option.getD_some,UInt8.toNat_ofNat'];rw[JG X,UB l _ _ X,show 8*(i/8)+i%8=i by omega]
def sD{s r:By}{i:Y}(h:i<8*Alz s):Cj (s++r) i=Cj s i:=by
 unfold Cj;grind
def XA(l:Bs)(j:Y):Fx (l++[Ai]) j=Fx l j:=by
 unfold Fx;grind
def Aao(l:Bs):pack (l++[Ai])=if Alz l%8=0 then pack l++[0]else pack l:=by
 have e:∀j,BV (Fx _ j)=BV (Fx l j):=fun j=>by rw[XA]
 unfold pack;rw[Bx,CL];split
 .rename_i h;rw[show(Alz l+1+7)/8=(Alz l+7)/8+1 by omega,FT,DW,Kl fun j _=>e j];congr 1
  have:Fx l ((Alz l+7)/8)=0:=by
   unfold Fx
   have:((BE 8).map fun k=>l.getD (8*((Alz l+7)/8)+k) Ai)=BH 8 Ai:=by
    apply He;intro k;rcases CM k 8 with q|q
    .rw[DV,MY q,List.getElem?_replicate,Aj q,FU,Cd,IV X];rfl
    .grind
   rw[this];rfl
  simp_all
 .grind
def sU(l:Bs)(j:Y):Fx (l++[Af]) j=if j=Alz l/8 then Fx l j|||(128>>>(Alz l%8))else Fx l j:=by
 apply Ue;intro i;rcases CM i 8 with a|a
 .have e:=UB (l++[Af]) j (7-i) X;have d:=UB l j (7-i) X;rw[show 7-(7-i)=i by omega]at e d
  have g:(l++[Af]).getD (8*j+(7-i)) Ai=(l.getD (8*j+(7-i)) Ai||decide (8*j+(7-i)=Alz l)):=by
   rw[Cd,Cd,List.getElem?_append];split
   .grind
   .grind
  split
  .rename_i h
   have k:(128>>>(Alz l%8)).testBit i=decide (8*(Alz l/8)+(7-i)=Alz l):=by
    rw[Nat.testBit_shiftRight,show(128)=2 ^ 7 by decide,Nat.testBit_two_pow];apply decide_eq_decide.2;omega
   grind
  .grind
 .have o:=Qn (l++[Af]) j;have m:=Qn l j
  have f:(256)<=2 ^ i:=by
   have:=Gb (n:=2) Bc a;omega
  rw[Qd X];split
  .rw[Nat.testBit_or,Qd X,Nat.testBit_shiftRight,show(128)=2 ^ 7 by decide,Nat.testBit_two_pow,AN X];rfl
  .rw[Qd X]
def sT(l:Bs)(j:Y):Fx l j|||(128>>>(Alz l%8))<=255:=by
 have d:=Qn l j
 have a:128>>>(Alz l%8)<2 ^ 8:=by
  rw[Nb];exact Xc (On _ _) Bh
 have:=Ma d a;omega
def Aap(l:Bs):pack (l++[Af])=(pack (l++[Ai])).set (Alz l/8) (BV (Fx l (Alz l/8)|||(128>>>(Alz l%8)))):=by
 apply He;intro j;have d:Alz (pack (l++[Af]))=(Alz l+8)/8:=by rw[pack_length,Bx,CL]
 have a:Alz (pack (l++[Ai]))=(Alz l+8)/8:=by rw[pack_length,Bx,CL]
 rcases CM j ((Alz l+8)/8)with h|h
 .rw[SQ (by rwa[Bx,CL]),sU,RQ,a];by_cases e:j=Alz l/8
  .grind
  .rw[Ag e,Ag X,SQ (by rwa[Bx,CL]),XA]
 .grind
def Aam(l:Bs):(pack (l++[Ai]))[Alz l/8]? =J (BV (Fx l (Alz l/8))):=by
 rw[SQ Bf,XA]
def DF(s:By)(at_:Y)(l:Bs):Prop:=at_+Alz l<=8*Alz s/\∀i,i<Alz l->Cj s (at_+i)=l.getD i Ai
def DF.left{s:By}{a:Y}{l r:Bs}(h:DF s a (l++r)):DF s a l:=by
 have e:=h.1;rw[Bx]at e;refine⟨X,fun i d=>?_⟩;rw[h.2 i Bf,Cd,Cd,FR d]
def DF.right{s:By}{a:Y}{l r:Bs}(h:DF s a (l++r)):DF s (a+Alz l) r:=by
 have d:=h.1;rw[Bx]at d;refine⟨X,fun i e=>?_⟩;have:=h.2 (Alz l+i) Bf;grind
def DF.pack(l:Bs):DF (pack l) 0 l:=by
 refine⟨by rw[pack_length];omega,fun i a=>?_⟩;rw[EE,eR X]
def DF.l{s:By}{a:Y}{l:Bs}(h:DF s a l)(r:By):DF (s++r) a l:=
 ⟨by rw[Bx];have:=h.1;omega,fun i hi=>by rw[sD (by have:=h.1;omega)];exact h.2 i hi⟩
def sE(r s:By)(i:Y):Cj (r++s) (8*Alz r+i)=Cj s i:=by
 unfold Cj;grind
def DF.behind{s:By}{a:Y}{l:Bs}(h:DF s a l)(r:By):DF (r++s) (8*Alz r+a) l:=
 ⟨by rw[Bx];have:=h.1;omega,fun i hi=>by rw[Lk,sE];exact h.2 i hi⟩
def BT(s:By)(a n:Y):Bs:=(BE n).map fun i=>Cj s (a+i)
def Sg(s:By)(a n:Y):Alz (BT s a n)=n:=by simp[BT]
def sH(s:By)(a n:Y):BT s a (n+1)=BT s a n++[Cj s (a+n)]:=by simp[BT,FT]
def DF.bits{s:By}{a:Y}{l:Bs}(h:DF s a l):BT s a (Alz l)=l:=by
 apply He;intro i;rcases CM i (Alz l)with q|q
 .simp[BT,DV,MY q,FU];rw[h.2 i q,Cd,BQ q];rfl
 .rw[IV (by rw[Sg];omega),IV q]
end Bz
namespace Bz
def FN(b:AI):Y->By->Y
 |m+1,x::r=>if x=b then FN b m r+1 else 0
 |_,_=>0
def DB:By->Y
 |[]=>0
 |b::r=>1+FN b 254 r
def mZ(b:AI):∀m (r:By),FN b m r<=m/\FN b m r<=Alz r
 |0,r=>by cases r<;>simp[FN]
 |m+1,[]=>by simp[FN]
 |m+1,x::r=>by
  have:=mZ b m r;unfold FN;grind
def nd(b:AI):∀m (r:By),r.take (FN b m r)=BH (FN b m r) b
 |0,r=>by rfl
 |m+1,[]=>by rfl
 |m+1,x::r=>by
  have:=nd b m r;unfold FN;grind
def nc(b:AI):∀m (r:By),FN b m r<m->(r.drop (FN b m r)).head?≠J b
 |0,r=>by simp
 |m+1,[]=>by simp
 |m+1,x::r=>by
  have:=nc b m r;unfold FN;grind
def aS(s:By):DB s<=255/\DB s<=Alz s:=by
 cases s with
 |nil=>simp[DB]
 |cons b r=>
  have:=mZ b 254 r;simp[DB];omega
def Te{s:By}(h:s≠[]):1<=DB s:=by
 cases s with
 |nil=>grind
 |cons b r=>simp only[DB];omega
def ng(b:AI)(r:By):(b::r).take (DB (b::r))=BH (DB (b::r)) b:=by
 simp[DB];rw[Ud,Ub,nd,JC]
def Adz(b:AI)(r:By)(h:DB (b::r)<255):((b::r).drop (DB (b::r))).head?≠J b:=by
 simp only[DB]at h ⊢;rw[Ud,TN];exact nc b 254 r X
def runT(n:Y)(b:AI):By:=if n<4 then BH n b else BH 4 b++[BV (n-4)]
def enc(s:By):By:=match s with
 |[]=>[]
 |b::r=>runT (DB (b::r)) b++enc ((b::r).drop (DB (b::r)))
termination_by (Alz s)
decreasing_by
 have:=Te (s:=b::r) Bh;grind
def Yz:enc []=[]:=by rw[enc]
def UR(b:AI)(r:By):enc (b::r)=runT (DB (b::r)) b++enc ((b::r).drop (DB (b::r))):=by rw[enc]
def nh(n:Y)(b:AI):Alz (runT n b)<=2*n:=by
 unfold runT;grind
def enc_len:∀n (s:By),Alz s<=n->Alz (enc s)<=2*Alz s
 |_,[],_=>by rw[Yz];simp
 |0,b::r,h=>by grind
 |n+1,b::r,h=>by
  have hp:=Te (s:=b::r) Bh;have hl:=(aS (b::r)).2;have ih:=enc_len n ((b::r).drop (DB (b::r))) Bf;have:=nh (DB (b::r)) b;rw[UR,Bx];grind
def enc_ne{s:By}(h:s≠[]):enc s≠[]:=by
 cases s with
 |nil=>grind
 |cons b r=>
  have a:=Te (s:=b::r) Bh;rw[UR];unfold runT;split
  .simp;omega
  .simp
def HV(same:Y)(out:By)(x:AI):Y:=if 0<same/\out.getLast? =J x then same+1 else 1
def dec:Y->By->By->By×Y
 |same,out,[]=>if same=4 then([],30)else(out,0)
 |same,out,x::r=>
  if same=4 then(if 262144<Alz out+x.toNat then([],3)else dec 0 (out++BH x.toNat (out.getLastD 0)) r)
  else if Alz out=262144 then([],3)else dec (HV same out x) (out++[x]) r
def Ends(same:Y)(out:By):Prop:=same<=4/\same<=Alz out/\∃b o,out=o++BH same b
def Ends.zero(out:By):Ends 0 out:=⟨X,X,0,out,Bh⟩
def Ends.next{same:Y}{out:By}(h:Ends same out)(e:same≠4)(x:AI):Ends (HV same out x) (out++[x]):=by
 obtain⟨g,f,b,o,rfl⟩:=h;unfold HV;split
 .rename_i q;obtain⟨d,a⟩:=q;refine⟨X,by simp only[Bx,Cn,CL];omega,b,o,?_⟩;obtain⟨k,rfl⟩:∃k,same=k+1:=⟨same-1,X⟩;rw[PW,<-Cq,List.getLast?_concat]at a;injection a with a;subst a;rw[PW (n:=k+1),Cq]
 .exact⟨X,Bv,x,_,Z⟩
def gv(b:AI)(rest:By):∀(k same:Y) (out:By),same+k<=4->(0<same->out.getLast? =J b)->Alz out+k<=262144->dec same out (BH k b++rest)=dec (same+k) (out++BH k b) rest
 |0,same,out,_,_,_=>by simp
 |k+1,same,out,h4,hl,hm=>by
  rw[JC,Gi,dec,Ag X,Ag X]
  have e:HV same out b=same+1:=by
   unfold HV;split
   .rfl
   .grind
  rw[e,gv b _ k _ _ X Bh Bf,Cq,RT,show same+1+k=same+(k+1) by omega]
def gw(b:AI)(rest:By)(k same:Y)(out:By)(g:same<4)(h:k<=4)(hk:1<=k)(a:same=0∨out.getLast?≠J b)(hm:Alz out+k<=262144):dec same out (BH k b++rest)=dec k (out++BH k b) rest:=by
 obtain⟨j,rfl⟩:∃j,k=j+1:=⟨k-1,X⟩;rw[JC,Gi,dec,Ag X,Ag X]
 have e:HV same out b=1:=by
  unfold HV;rw[Ag];rintro⟨f,d⟩;rcases a with z|z
  .omega
  .grind
 rw[e,gv b _ j 1 _ X Bh Bf,Cq,RT,show 1+j=j+1 by omega]
def Nn:∀n (s out:By) (same:Y),Alz s<=n->same<4->(same=0∨∀b,s.head? =J b->out.getLast?≠J b)->Alz out+Alz s<=262144->dec same out (enc s)=(out++s,0)
 |_,[],out,same,_,h4,_,_=>by
  rw[Yz,dec,Ag X,List.append_nil]
 |0,b::r,_,_,h,_,_,_=>by grind
 |n+1,b::r,out,same,h,h4,hn,hm=>by
  have hp:=Te (s:=b::r) Bh;have hl:=aS (b::r);have ht:=ng b r;have hx:=Adz b r;have hsplit:=Hx (DB (b::r)) (b::r);have hdl:Alz ((b::r).drop (DB (b::r)))=Alz (b::r)-DB (b::r):=Bh;rw[UR];generalize DB _=k at hp hl ht hx hsplit hdl;rw[ht]at hsplit;have hn':same=0∨out.getLast?≠J b:=Bf;unfold runT;split
  .rename_i hk;rw[gw b _ k _ _ h4 X hp hn' X];rw[Nn n _ _ k X X Bf (by rw[Bx,Cn];omega),Cq,hsplit]
  .rename_i hk;rw[Cq,gw b _ 4 _ _ h4 X X hn' X,RT,dec,Aj Z];have hv:(BV (k-4)).toNat=k-4:=Bv
   have hlast:(out++BH 4 b).getLastD 0=b:=by
    rw[show BH 4 b=BH 3 b++[b]from Z,<-Cq,List.getLastD_concat]
   rw[hv,hlast,Ag (by rw[Bx,Cn];omega),Nn n _ _ 0 X X X Bf];rw[Cq,Cq,<-Cq (BH 4 b),List.replicate_append_replicate,show 4+(k-4)=k by omega,hsplit]
def Ade(s:By)(h:Alz s<=262144):dec 0 [] (enc s)=(s,0):=by
 have:=Nn _ s [] 0 X Bh X Bf;grind
end Bz
attribute [local irreducible] OW KW QW EX GW NV
section
open Dsk
def fy(A:Av AB)(c:Y)(xs:Bl)(B:Y)(w:Ad)(h:Sl w B A xs)(hA:A=Aa->xs=[])(h1:∀u∈xs,u.oneCell'=Af)(hl:Alz xs<=140737488351232):
 Bm eD 74 [.slice A (Alz xs) c] w fun v w'=>Bn w' w.heap.size 5 1 v (Alz xs) xs/\Be w w':=by
 refine Bw func74 Z ntmps74 (by rfl) Z ?_;rcases A with _|a
 .obtain rfl:=hA Z;refine(O 15∘Bu) ?_;exact⟨Bn.nil _ _ _ _,Be.refl _⟩
 .refine(O 14) ?_;refine Ks 0 Z Z im CE Z Z Z Z (by rfl) Bc ?_;rintro b j d i e;refine(O 1) ?_;refine HM Z Z im CE Z Bc Z Z (e) (Bn.Akk (l:=[]) i d Z Bc) (Src.Akm im (h.a e) Bh h1 Bc) CB X ?_;rintro k w' f g _ _;refine(O 2∘Bu) ?_;grind
def tC(A:Av AB)(c:Y)(xs:Bl)(B:Y)(w:Ad)(h:Sl w B A xs)(hA:A=Aa->xs=[])(h1:∀u∈xs,u.oneCell'=Af)(hl:Alz xs<=140737488351232):
 Bm eD 46 [.slice A (Alz xs) c] w fun v w'=>Bn w' w.heap.size 4 1 v (Alz xs) xs/\Be w w':=by
 refine Bw func46 Z ntmps46 Bi Z ?_;rcases A with _|a
 .obtain rfl:=hA Z;refine(O 15∘Bu) ?_;exact⟨Bn.nil _ _ _ _,Be.refl _⟩
 .refine(O 14) ?_;refine Ks 0 Z Z iL ti4 Z Z Z Z (by first|rfl|(simp only[Hb,Hc,GZ,Bool.and_eq_true];assumption)) Bc ?_;rintro b j f i g;refine(O 1) ?_;refine HM Z Z iL ti4 Z Bc Z Z (g) (Bn.Akk (l:=[]) i f Z Bc) (Src.Akm iL (h.a g) Bh h1 Bc) CB X ?_;rintro k w' d e _ _;refine(O 2∘Bu) ?_;rw[EE]at d;exact⟨d,e⟩
def Chd(w w':Ad)(v v':Ah)(all:Bg):Prop:=
 Bn w' 0 5 1 v' (Alz all) (BI all)/\Mo w w' v.ownBlock.toList/\(Pi v'=Pi v∨∃g,Pi v'=J g/\w.heap.size<=g)
def tZ(b n:Y)(v:Ah)(all:Bg)(w:Ad)(j:Bk w b 3 [Bb (n:H)])(a:Bn w 0 5 1 v (Alz all) (BI all))(i:n<=1000000)(hl:Alz all<=100000000):
 Bm eD 97 [v,.pointer (J ⟨b,0,Aa⟩)] w fun v' w'=>w=w'/\Chd w w' v v' ((Ch.cut n).ap all):=by
 obtain⟨A,c,rfl,h,g⟩:=a.slice;refine Bw func97 Z ntmps97 (by rfl) Z ?_;refine(O 12) ?_;refine rF Z Z im CE Z Z (a) X ?_;rintro v' d f;refine(O 2∘Bu) ?_;refine⟨Z,?_,Mo.refl _ _,.inl f⟩;have e:(BI all).take (min (Alz all) (n*512))=BI ((Ch.cut n).ap all):=by simp[BI,Ch.ap,TV]
 have k:Alz ((Ch.cut n).ap all)=min (Alz all) (n*512):=by simp only[Ch.ap,BW];omega
 grind
def sV(n:Y):BI (EQ n)=BH n (.int .u8 0):=by simp[BI,EQ]
def Ajs(I bs i:Y)(s:Bg)(v:Ah)(all:Bg)(w:Ad)(r:Bk w I 3 [Bb (i:H)])(p:Bk w bs 9 [str s])(a:Bn w 0 5 1 v (Alz all) (BI all))(hi:i<=1000000)(hs:Alz s=512)(hl:Alz all<=1000000000):
 Bm eD 37 [v,.pointer (J ⟨I,0,Aa⟩),.pointer (J ⟨bs,0,Aa⟩)] w fun v' w'=>Chd w w' v v' ((Ch.write i s).ap all):=by
 obtain⟨A,c,rfl,S,N⟩:=a.slice;refine Bw func37 Z ntmps37 Bi Z ?_;refine(O 19)<|Lc (fun((j,f):Ah×Ad)=>(Bn f 0 5 1 j (Alz (all++EQ ((i+1)*512-Alz all))) (BI (all++EQ ((i+1)*512-Alz all)))/\Mo w f (Value.slice A (Alz all) c).ownBlock.toList/\(Pi j=(Value.slice A (Alz all) c).ownBlock∨∃g,Pi j=J g/\w.heap.size<=g),[(0,j),(1,.pointer (J ⟨I,0,Aa⟩)),(2,.pointer (J ⟨bs,0,Aa⟩))],f)) ?_ ?_
 .skip
  refine Zi (fun h=>?_) fun h=>?_
  .refine(O 6) ?_;refine rA Z Z im io CE Z Z Z (a) X CB X ?_;rintro j f d C ab;refine(O 2∘Lm (j,f)) ?_;refine⟨?_,Mo.grown C (fun k e=>by rw[e];simp),?_⟩
   .rw[Bx,PH,XB,sV];omega
   .grind
  .refine(O 1∘Lm (_,w)) ?_;have e0:all++EQ ((i+1)*512-Alz all)=all:=by rw[show(i+1)*512-Alz all=0 by omega];simp[EQ]
   rw[e0];exact⟨a,Mo.refl _ _,.inl Z⟩
 .rintro⟨j,f⟩⟨d,B,K⟩;have q:=r.j B (fun k=>a.ne r Bc _ (FG.1 k) Z);have o:=p.j B (fun k=>a.ne p Bc _ (FG.1 k) Z);have hL:Alz (all++EQ ((i+1)*512-Alz all))=max (Alz all) ((i+1)*512):=by rw[Bx,PH];omega
  generalize t:all++EQ ((i+1)*512-Alz all)=al at d hL;have D:Alz (BI al)=Alz al:=EZ al;obtain⟨g,G,rest,rfl,_,W,hc,P,l⟩:=d.blk X;refine(O 1) ?_;refine Kk 5 Bi Bi<|HW.val Z Z (EX.move Z)<|HW.val Z Z (CV io Z Z (q.I Z))<|HW.val Z Z (by first|exact Ww (b:=512) (m:=9223372036854775807) Z Z Z X|exact EX.mulZ (m:=9223372036854775807) Z Z Z Z X)<|HW.val Z Z (Wy im CE Z Z X)<|HW.val Z Z (CV eT Z Z (o.I Z))<|HW.tail<|rD Z Z im eT CE Z Z X (W) Bf ?_;rintro L V y;refine(O 6∘Bu) ?_;have e:(Ch.write i s).ap all=al.take (i*512)++s++al.drop (i*512+Alz s):=by simp only[Ch.ap,t]
  have E:Alz ((Ch.write i s).ap all)=Alz al:=by rw[e];simp only[Bx,BW,CA];omega
  refine⟨?_,?_,K⟩
  .rw[E];refine⟨by rw[EZ,E];simp,.inr ⟨g,G,rest,Z,BC _,?_,by rw[EZ,E,<-D];omega,P,l⟩⟩
   have e3:(BI al++rest).take (i*512)++BI s++(BI al++rest).drop (i*512+Alz s)=BI ((Ch.write i s).ap all)++rest:=by
    rw[e,Ua X,TM X];simp[BI,TV,List.map_drop]
   grind
  .have n:Mo f L [g]:=(Mo.Akj (Be.drew f) _).trans y;refine((B.mono (fun k x=>Gl g x)).trans (n.mono Bh)).fresh ?_;intro k x Q;rcases List.mem_cons.1 x with rfl|x
   .rcases K with e|⟨g',e,T⟩
    .rw[<-e];simp[Pi]
    .simp[Pi]at e;omega
   .omega
def HP(l:Ae Ar):Bl:=l.map fun b=>.bool b
def Uz(l:Ae Ar):Alz (HP l)=Alz l:=by simp[HP]
def sN(l:Ae Ar):∀u∈HP l,u.oneCell'=Af:=by
 intro u a;obtain⟨_,_,rfl⟩:=Cr.1 a;rfl
def KT(w:Ad):Ch->Ah->Prop
 |.write i s,v=>∃bi bs:Y,v=.func (.func 37) (LZ []) (LZ [.pointer (J ⟨bi,0,Aa⟩),.pointer (J ⟨bs,0,Aa⟩)])/\Bk w bi 3 [Bb (i:H)]/\Bk w bs 9 [str s]
 |.cut n,v=>∃b:Y,v=.func (.func 97) (LZ []) (LZ [.pointer (J ⟨b,0,Aa⟩)])/\Bk w b 3 [Bb (n:H)]
def KU(w:Ad):Ae Ch->Bl->Prop
 |[],[]=>True
 |c::cs,v::vs=>KT w c v/\KU w cs vs
 |_,_=>False
def KT.tm{w w':Ad}{B:Y}{p:Aw->Ar}(h:Tm w w' B p)(hi:p 3=Ai)(hs:p 9=Ai):∀{c:Ch} {v:Ah},KT w c v->KT w' c v
 |.write i s,v,⟨bi,bs,e,h1,h2⟩=>⟨bi,bs,e,h.bk h1 hi,h.bk h2 hs⟩
 |.cut n,v,⟨b,e,h1⟩=>⟨b,e,h.bk h1 hi⟩
def KT.one{w:Ad}:∀{c:Ch} {v:Ah},KT w c v->v.oneCell'=Af
 |.write i s,v,⟨bi,bs,e,h1,h2⟩=>by rw[e];rfl
 |.cut n,v,⟨b,e,h1⟩=>by rw[e];rfl
def KU.tm{w w':Ad}{B:Y}{p:Aw->Ar}(h:Tm w w' B p)(hi:p 3=Ai)(hs:p 9=Ai):∀{cs:Ae Ch} {vs:Bl},KU w cs vs->KU w' cs vs
 |[],[],_=>trivial
 |c::cs,v::vs,⟨h1,h2⟩=>⟨h1.tm h hi hs,KU.tm h hi hs h2⟩
 |[],_::_,h=>h.elim
 |_::_,[],h=>h.elim
def KU.len{w:Ad}:∀{cs:Ae Ch} {vs:Bl},KU w cs vs->Alz vs=Alz cs
 |[],[],_=>rfl
 |c::cs,v::vs,⟨_,h2⟩=>by simp[KU.len h2]
 |[],_::_,h=>h.elim
 |_::_,[],h=>h.elim
def KU.snoc{w:Ad}:∀{cs:Ae Ch} {vs:Bl} {c:Ch} {v:Ah},KU w cs vs->KT w c v->KU w (cs++[c]) (vs++[v])
 |[],[],_,_,_,h=>⟨h,Ay⟩
 |c::cs,v::vs,_,_,⟨h1,h2⟩,h=>⟨h1,KU.snoc h2 h⟩
 |[],_::_,_,_,h,_=>h.elim
 |_::_,[],_,_,h,_=>h.elim
def KU.at_{w:Ad}:∀{cs:Ae Ch} {vs:Bl},KU w cs vs->∀(j:Y) (hj:j<Alz cs),∃v,vs[j]? =J v/\KT w cs[j] v
 |[],[],_,j,hj=>by simp at hj
 |c::cs,v::vs,⟨h1,h2⟩,0,hj=>⟨v,Z,h1⟩
 |c::cs,v::vs,⟨h1,h2⟩,j+1,hj=>by
  obtain⟨u,h3,h4⟩:=KU.at_ h2 j (by simpa using hj);exact⟨u,by simpa using h3,by simpa using h4⟩
 |[],_::_,h,_,_=>h.elim
 |_::_,[],h,_,_=>h.elim
structure Dev(w:Ad)(B b:Y)(D:Dv)(vk vn vp vq:Ah)(vs:Bl):Prop where
 lo:B<=b
 cells:Bk w b 85 [Bb (D.cap:H),vk,vn,vp,Bb (D.at_:H),vq,.bool D.dead,Bb (D.calls:H)]
 kept:Bn w B 5 1 vk (Alz D.kept) (BI D.kept)
 now:Bn w B 5 1 vn (Alz D.now) (BI D.now)
 apart:∀k,Pi vk=J k->Pi vn≠J k
 pend:Bn w B 137 1 vp (Alz D.pend) vs
 chs:KU w D.pend vs
 keep:Bn w B 4 1 vq (Alz D.keep) (HP D.keep)
def Ce(w:Ad)(B b:Y)(D:Dv):Prop:=∃vk vn vp vq vs,Dev w B b D vk vn vp vq vs
def Cb(T:Aw):Ar:=T==85||T==137||T==5
def Ce.a{w w':Ad}{B b:Y}{D:Dv}(h:Ce w B b D)(hx:Be w w'):Ce w' B b D:=by
 obtain⟨vk,vn,vp,vq,vs,k,j,i,g,f,e,d,a⟩:=h;exact⟨_,_,_,_,_,k,j.a hx,i.a hx,g.a hx,f,e.a hx,d.tm (Tm.Akj hx 0 (fun _=>Ai)) Z Z,a.a hx⟩
def Ce.lt{w:Ad}{B b:Y}{D:Dv}(h:Ce w B b D):B<=b/\b<w.heap.size:=by
 obtain⟨vk,vn,vp,vq,vs,h⟩:=h;exact⟨h.lo,h.cells.lt⟩
section
variable{w:Ad}{B b:Y}{D:Dv}
def SK(h:Ce w B b D)(a:D.q):Bm eD 47 [.pointer (J ⟨b,0,Aa⟩)] w fun v w'=>v=.bool Ai/\w=w':=by
 obtain⟨vk,vn,vp,vq,vs,h⟩:=h;have d:=a.cap;refine Bw Bh Z ntmps47 Bi Z ?_;refine(O 12∘Zv (Bo h.cells)∘O 4∘Ci 2∘Bu) ?_;exact⟨Bh,Z⟩
def Ql(h:Ce w B b D)(d:D.q):Bm eD 35 [.pointer (J ⟨b,0,Aa⟩)] w fun v w'=>v=Bb ((if D.dead then 190 else 0:Y):H)/\w=w':=by
 have e:=h;obtain⟨vk,vn,vp,vq,vs,h⟩:=h;refine Bw Bh Z ntmps35 Bi Z ?_;refine(O 9∘Zc (SK e d)) ?_;rintro _ _⟨rfl,rfl⟩;refine(O 8∘Zv (Bo h.cells)∘O 2) ?_;refine Ga Z (fun a=>?_) (fun a=>?_)
 .refine(O 4∘Bu) ?_;rw[a];exact⟨Z,Z⟩
 .refine(O 6∘Bu) ?_;rw[a];exact⟨Z,Z⟩
end
def fk{w:Ad}{c:Ch}{v:Ah}(h:KT w c v){cap:Y}(d:c.ok cap)(g:cap<=4096){u:Ah}{all:Bg}(a:Bn w 0 5 1 u (Alz all) (BI all))(hl:Alz all<=100000000):
 ∃(f:FuncId) (cs:Bl),v=.func (.func f) (LZ []) (LZ cs)/\Bm eD f ([u]++cs) w fun v' w'=>Chd w w' u v' (c.ap all):=by
 cases c with
 |write i s=>
  obtain⟨l,k,rfl,e,j⟩:=h;exact⟨_,_,Z,Ajs _ _ i s u _ w e j a (by have:=d.1;omega) d.2 X⟩
 |cut n=>
  obtain⟨b,rfl,e⟩:=h;exact⟨_,_,Z,(tZ b n u _ w e a (by have:n<=cap:=d;omega) hl).mono Bh⟩
section
variable{w w':Ad}{B b:Y}{D D':Dv}{vk vn vp vq vk' vn' vp' vq':Ah}{vs vs':Bl}
def Dev.after{l0:Bl}(a:B<=b)(h0:Bk w b 85 l0)(hm:Mo w w' [b])
 (h:Bk w' b 85 [Bb (D'.cap:H),vk',vn',vp',Bb (D'.at_:H),vq',.bool D'.dead,Bb (D'.calls:H)])
 (hk:Bn w B 5 1 vk' (Alz D'.kept) (BI D'.kept)) (f:Bn w B 5 1 vn' (Alz D'.now) (BI D'.now)) (i:∀k,Pi vk'=J k->Pi vn'≠J k)
 (e:Bn w B 137 1 vp' (Alz D'.pend) vs') (g:KU w D'.pend vs') (d:Bn w B 4 1 vq' (Alz D'.keep) (HP D'.keep)):Dev w' B b D' vk' vn' vp' vq' vs':=by
 have tm:=Tm.set h0 hm a;exact⟨a,h,tm.y hk Z,tm.y f Z,i,tm.y e Z,g.tm tm Z Z,tm.y d Z⟩
def Dev.tmD{l0:Bl}(hlo:B<=b)(h0:Bk w b 85 l0)(hm:Mo w w' [b]):Tm w w' B Cb:=(Tm.set h0 hm hlo).mono fun T hT=>by simp[Cb,hT]
def Dev.a(h:Dev w B b D vk vn vp vq vs)(hx:Be w w'):Dev w' B b D vk vn vp vq vs:=
 ⟨h.lo,h.cells.a hx,h.kept.a hx,h.now.a hx,h.apart,h.pend.a hx,h.chs.tm (Tm.Akj hx 0 (fun _=>Ai)) Z Z,h.keep.a hx⟩
end
def Bn.Aln{w:Ad}{B T n c:Y}{xs:Bl}{A:Av AB}(h:Bn w B T 1 (.slice A n c) n xs):A=Aa->xs=[]:=by
 rintro rfl;rcases h.2 with⟨e,rfl⟩|⟨g,a,rest,e,_⟩
 .exact Im (by simpa using h.1)
 .simp at e
def UO{D:Dv}{c:Av Ch}(h:(D.Akl c).at_≠1):D.Ako c=(Dv.done { D.Akl c with at_:=(D.Akl c).at_-1 } c,0):=by
 unfold Dv.Ako;simp;split
 .rename_i a
  have:({ D.Akl c with at_:=(D.Akl c).at_-1 })=D.Akl c:=by
   generalize D.Akl c=E at a;cases E;simp at a;simp[a]
  rw[this]
 .first|rfl|rw[Ag]
def UN{D:Dv}{c:Av Ch}(h:(D.Akl c).at_=1):D.Ako c=({ D.Akl c with kept:=DM (D.Akl c).pend (D.Akl c).keep (D.Akl c).kept,now:=DM (D.Akl c).pend (D.Akl c).keep (D.Akl c).kept,pend:=[],at_:=0,keep:=[],dead:=Af },190):=by
 unfold Dv.Ako;rw[Ag X,Aj h]
def vA{a:Ae Ch}{bs:Ae Ar}{all:Bg}{k:Y}(h:k<Alz a):DM (a.take (k+1)) bs all=if bs.getD k Ai then(a[k]).ap (DM (a.take k) bs all)else DM (a.take k) bs all:=by
 have e:a.take (k+1)=a.take k++[a[k]]:=by rw[LY,BQ];rfl
 rw[e,gP,BW,Hi X]
def Dev.at_{w:Ad}{B b:Y}{D:Dv}{vk vn vp vq:Ah}{vs:Bl}(h:Dev w B b D vk vn vp vq vs):Ce w B b D:=⟨_,_,_,_,_,h⟩
def Kp(w w':Ad)(b:Y)(v1 v2 v3:Ah):Prop:=∀g T l,g≠b->Pi v1≠J g->Pi v2≠J g->Pi v3≠J g->Bk w g T l->Bk w' g T l
def Kp.refl(w:Ad)(b:Y)(v1 v2 a:Ah):Kp w w b v1 v2 a:=fun _ _ _ _ _ _ _ h=>h
def Kp.a{w a w2:Ad}{b:Y}{v1 v2 d:Ah}(h:Kp w a b v1 v2 d)(hx:Be a w2):Kp w w2 b v1 v2 d:=fun g T l k j i f e=>(h g T l k j i f e).a hx
def Kp.j{w d w2:Ad}{b:Y}{v1 v2 a:Ah}{S:Bj}(h:Kp w d b v1 v2 a)(hm:Mo d w2 S)(o:∀k∈S,k=b∨Pi v1=J k∨Pi v2=J k∨Pi a=J k∨w.heap.size<=k):Kp w w2 b v1 v2 a:=fun g T l n m j i f=>(h g T l n m j i f).j hm (fun q=>by
 rcases o g q with e|e|e|e|e
 .exact n e
 .exact m e
 .exact j e
 .exact i e
 .exact AH f.lt X)
def Kp.b{w w1 w2:Ad}{b:Y}{v1 v2 v3:Ah}(h:Kp w w1 b v1 v2 v3)(hm:Mo w1 w2 [b]):Kp w w2 b v1 v2 v3:=h.j hm Bh
def gG{w:Ad}{B b:Y}{D:Dv}{vk vn vp vq:Ah}{vs:Bl}(h:Dev w B b D vk vn vp vq vs)(hD:D.q)(vc:Ah)(c:Av Ch)(eb:c=Aa->vc=.nilFunc)(a6:∀d,c=J d->KT w d vc/\d.ok D.cap)
 (S:D.calls<=1000000000) (c1:Alz D.pend<=1000000000) (ed:D.at_<=9223372036854775807) (c5:Alz D.keep<=140737488355328):
 Bm eD 36 [.pointer (J ⟨b,0,Aa⟩),vc] w fun v w'=>v=Bb (((D.Ako c).2:Y):H)/\Ce w' B b (D.Ako c).1/\Tm w w' B Cb/\Kp w w' b vk vn vp:=by
 have h0:=h.at_
 have hq:vc=.nilFunc/\c.isSome=Ai∨∃f fi ca,vc=.func f fi ca/\c.isSome=Af:=by
  cases c with
  |none=>grind
  |some d=>
   obtain⟨L,_⟩:=a6 d Z;cases d with
   |write i s=>obtain⟨bi,bs,e,_⟩:=L;grind
   |cut n=>obtain⟨bi,e,_⟩:=L;exact .inr ⟨_,_,_,e,Z⟩
 have hE:=mr hD (fun d m=>(a6 d m).2);have d3:=h0.lt;have d2:=h.chs.len;refine Bw func36 Z ntmps36 Bi Z ?_;refine(O 8∘Zv (by exact cX pw Z Z hq)∘O 1)<|Lc (fun((w1,bb,W):Ad×Ah×(Bl))=>(Dev w1 B b (D.Akl c) vk vn bb vq W/\Tm w w1 B Cb/\Kp w w1 b vk vn vp,[(0,.pointer (J ⟨b,0,Aa⟩)),(1,vc)],w1)) ?_ ?_
 .refine Ga Z (fun hc=>?_) (fun hc=>?_)
  .obtain⟨ch,rfl⟩:=Option.isSome_iff_exists.1 hc;have hv:=(a6 ch Z).1;have c0:=hv.one;refine(O 5∘Zv (Bo h.cells)∘O 1) ?_;refine Ks 1 Z Z iT bL Z Z Z Z (by first|rfl|(simp only[Hb,Hc,GZ,Bool.and_eq_true];assumption)) Bc ?_;rintro bq N aj b9 a0;have j:=h.a a0;refine OW.append 0 Z Z iT bL Z Bc Z Z ((j.pend.l (BC _))) (Src.Akm iT b9.sl Bh (by simp[c0]) Bc) CB X (BC _) ?_;rintro v3 w3 a3 co cx;refine(O 2) ?_;have t3:Tm N w3 B (fun j8=>j8==137):=Tm.grown j.pend co;have b5:=t3.bk j.cells Z
   have bf:Bn w3 B 137 1 v3 (Alz D.pend+1) (vs++[vc]):=a3.base (by
    intro k a;rcases cx with e|e
    .exact(j.pend.lt k (by rw[<-e];exact a)).1
    .rw[e]at a;injection a with a;have:=a0.size;omega)
   have df:=a3.one;refine(Zt b5) ?_;rintro w4 da b1;refine(O 1∘Lm (w4,v3,(vs++[vc]))) ?_;refine⟨Dev.after (D':=D.Akl (J ch)) h.lo b5 b1 da (t3.y j.kept Z) (t3.y j.now Z) h.apart ?_ ((j.chs.tm t3 Z Z).snoc ((hv.tm (Tm.Akj a0 0 (fun _=>Ai)) Z Z).tm t3 Z Z)) (t3.y j.keep Z),?_,(((Kp.refl w b vk vn vp).a a0).j (Mo.grown co (fun k e=>by rw[e];simp)) (fun k a=>.inr (.inr (.inr (.inl (FG.1 a)))))).b b1⟩
   .have:(D.Akl (J ch)).pend.length=Alz D.pend+1:=by simp[Dv.Akl]
    rw[this];exact bf
   .exact((Tm.Akj a0 B Cb).trans (t3.mono fun T hT=>by simp at hT;simp[Cb,hT])).trans (Dev.tmD h.lo b5 b1)
  .obtain rfl:c=Aa:=by cases c;rfl;simp at hc
   refine(O 1∘Lm (w,vp,vs)) ?_;exact⟨h,Tm.refl _ _ _,Kp.refl _ _ _ _ _⟩
 .rintro⟨w1,bb,W⟩⟨L,cf,cd⟩;generalize y:D.Akl c=E at L hE;have ef:E.cap=D.cap:=by rw[<-y,mq]
  have dv:E.at_=D.at_:=by rw[<-y];cases c<;>rfl
  have db:E.keep=D.keep:=by rw[<-y];cases c<;>rfl
  have ee:Alz E.pend<=1000000001:=by
   rw[<-y];cases c with
   |none=>exact Uf c1
   |some c=>simp[Dv.Akl];omega
  have bh:=L.chs.len;refine(O 7∘Zv (Bo L.cells)∘O 2)<|Lc (fun(N:Ad)=>(Dev N B b { E with at_:=E.at_-1 } vk vn bb vq W/\Tm w N B Cb/\E.at_≠1/\Kp w N b vk vn vp,[(0,.pointer (J ⟨b,0,Aa⟩)),(1,vc)],N)) ?_ ?_
  .refine Zi (fun cu=>?_) fun cu=>?_
   .refine(O 6∘Zv (Bo L.cells)∘O 4∘Zt L.cells) ?_;rintro N b9 b2;refine(O 7) ?_;have j:Dev N B b { E with at_:=E.at_-1 } vk vn bb vq W:=Dev.after L.lo L.cells b2 b9 L.kept L.now L.apart L.pend L.chs L.keep;have ab:Tm w N B Cb:=cf.trans (Dev.tmD L.lo L.cells b2);have ao:=cd.b b2;refine(Zv (Bo j.cells)∘O 2)<|Zi (fun hz=>?_) fun hz=>?_
    .have ce:E.at_=1:=by have:E.at_-1=0:=hz;omega
     obtain⟨A,cp,rfl,ea,dk⟩:=j.pend.slice;obtain⟨Aq,cq,rfl,d9,dg⟩:=j.keep.slice;have d4:Alz E.keep<=140737488355328:=by rw[db];exact c5
     refine(O 6∘Zv (Bo j.cells)∘O 4)<|Lo (fun((k,al,all,wr):Y×Ah×(Bg)×Ad)=>(k<=Alz E.pend/\all=DM (E.pend.take k) E.keep E.kept/\Alz all<=512*E.cap/\Dev wr B b { E with at_:=0,kept:=all } al vn (.slice A (Alz E.pend) cp) (.slice Aq (Alz E.keep) cq) W/\Tm w wr B Cb/\Kp w wr b vk vn vp/\(∀k,Pi al=J k->Pi vk=J k∨w.heap.size<=k),[(0,.pointer (J ⟨b,0,Aa⟩)),(43,.slice A (Alz E.pend) cp),(44,Bb ((Alz E.pend:Y):H)),(45,Bb k)],wr,Alz E.pend-k)) (0,vk,E.kept,N) ?_ ?_
     .refine⟨X,by simp[DM],hE.kept,?_,ab,ao,fun k a=>.inl a⟩;have:E.at_-1=0:=X;rw[<-this];exact j
     .rintro⟨k,al,all,wr⟩⟨a,V,cb,m,a1,bc,bd⟩;have a7:=hE.cap;refine(O 5)<|Zi (fun ai=>?_) fun ai=>?_
      .obtain⟨v,hv,cr⟩:=m.chs.at_ k ai;have dn:=cr.one;obtain⟨g,d1,rest,e,d8,hg,d7,d5,d6⟩:=m.pend.blk (by rw[bh];omega);simp only[Value.slice.injEq,true_and]at e;obtain⟨rfl,rfl⟩:=e;have cw:(W++rest)[k]? =J v:=by rw[FR (by rw[bh];exact ai)];exact hv
       have o:=vA (bs:=E.keep) (all:=E.kept) ai;rw[<-V]at o;refine(O 7∘Zv (Bo hg (hi:=cw))∘O 10∘Zv (Bo m.cells)∘O 3)<|Zd 58 (fun af=>?_) fun af=>?_
       .have b4:E.keep.getD k Ai=E.keep[k]:=by simp[List.getD,BQ af]
        rw[b4]at o;obtain⟨gq,d0,bj,eq,dp,c7,_,_,_⟩:=m.keep.blk (by rw[Uz];exact Xc (BC _) af);simp only[Value.slice.injEq,true_and]at eq;obtain⟨rfl,rfl⟩:=eq;have c8:(HP E.keep++bj)[k]? =J (.bool E.keep[k]):=by rw[FR (by rw[Uz];exact af)];simp[HP,af]
        refine(O 4∘Zv (Bo m.cells)∘O 2∘Zv (Bo c7 (hi:=c8))∘O 2) ?_;refine Ga Z (fun hb=>?_) (fun hb=>?_)
        .rw[Aj hb]at o;obtain⟨f,cs,rfl,a2⟩:=fk cr (hE.pend _ (BL ai)) a7.2 (m.kept.l (BC _)) (by show Alz all<=100000000;omega);refine(O 6∘Zv (Bo m.cells)∘Ea a2) ?_;rintro v5 w5⟨r,t,G⟩;refine(O 2) ?_;have P:Tm wr w5 B (fun j8=>j8==5):=Tm.Akw m.kept t;have bm:=r.one;have bn:=m.now.j t (fun k a b3=>m.apart k (FG.1 b3) a)
         have a9:∀k,Pi v5=J k->Pi vn≠J k:=by
          intro k a I;rcases G with e|⟨g',e,aj⟩
          .exact m.apart k (by rw[<-e];exact a) I
          .rw[e]at a;injection a with a;have:=(m.now.lt k I).2;omega
         have K:Bn w5 B 5 1 v5 (Alz ((E.pend[k]).ap all)) (BI ((E.pend[k]).ap all)):=r.base (by
          intro k a;rcases G with e|⟨g',e,aj⟩
          .exact(m.kept.lt k (by rw[<-e];exact a)).1
          .rw[e]at a;injection a with a;have:=m.cells.lt;have:=m.lo;omega)
         refine(Zt (P.bk m.cells Z)) ?_;rintro w6 b8 a4;refine(O 6)<|Lb ((k+1),v5,((E.pend[k]).ap all),w6) ?_
         refine⟨X,o.symm,Ut (hE.pend _ (BL ai)) cb,?_,?_,(bc.j t (fun k a=>by
          rcases bd k (FG.1 a)with e|e
          .exact .inr (.inl e)
          .exact .inr (.inr (.inr (.inr e))))).b a4,fun k a=>by
          rcases G with e|⟨g',e,aj⟩
          .exact bd k (by rw[<-e];exact a)
          .rw[e]at a;injection a with a;right;have q:=a1.size;have q2:=aj;omega⟩
         .exact Dev.after (D':={ E with at_:=0,kept:=(E.pend[k]).ap all }) m.lo (P.bk m.cells Z) a4 b8 K bn a9 (P.y m.pend Z) (m.chs.tm P Z Z) (P.y m.keep Z)
         .exact(a1.trans (P.mono fun T hT=>by simp at hT;simp[Cb,hT])).trans (Dev.tmD m.lo (P.bk m.cells Z) a4)
        .rw[Ag (by simp[hb])]at o;refine(O 6)<|Lb ((k+1),al,all,wr) ?_;exact⟨X,o.symm,cb,m,a1,bc,bd⟩
       .have b4:E.keep.getD k Ai=Ai:=by simp[List.getD,IV (Nat.le_of_not_lt af)]
        rw[b4]at o;refine(O 17)<|Lb ((k+1),al,all,wr) ?_;exact⟨X,by rw[o];rfl,cb,m,a1,bc,bd⟩
      .obtain rfl:k=Alz E.pend:=X;rw[DY]at V;obtain⟨Ak,ck,rfl,ec,cj⟩:=m.kept.slice;have p:=fy Ak ck (BI all) _ wr cj m.kept.Aln UC (by rw[EZ];omega);rw[EZ]at p;refine(O 10∘Zv (Bo m.cells)∘Zc p) ?_;rintro v7 w7⟨l,Q⟩;refine(O 3) ?_;have C:=m.a Q;have bl:=l.one;refine(Zt C.cells) ?_;rintro w8 b7 b0;refine(O 2∘Zt b7) ?_;rintro w9 b6 bx;refine(O 2∘Zs b6) ?_;rintro cc a8 a5;refine(O 2∘Zt a8) ?_;rintro cv ct cm;refine(O 5∘Bu) ?_;have x:Mo w7 cv [b]:=((b0.trans bx).trans a5).trans cm;have dc:all=DM (D.Akl c).pend (D.Akl c).keep (D.Akl c).kept:=by rw[y];exact V
       rw[UN (by rw[y];exact ce),y,<-V];refine⟨Z,⟨_,_,_,_,[],Dev.after (D':={ E with kept:=all,now:=all,pend:=[],at_:=0,keep:=[],dead:=Af }) m.lo C.cells x ct C.kept (l.base (fun k a=>by have:=(l.lt k a).1;have:=m.cells.lt;have:=m.lo;omega)) ?_ (Bn.nil _ _ _ _) Ay (Bn.nil _ _ _ _)⟩,?_,(bc.a Q).b x⟩
       .intro k a I;have q1:=(m.kept.lt k a).2;have q2:=(l.lt k I).1;omega
       .exact(a1.trans (Tm.Akj Q B Cb)).trans (Dev.tmD m.lo C.cells x)
    .refine(O 1∘Lm N) ?_;have ce:¬E.at_-1=0:=hz;exact⟨j,ab,X,ao⟩
   .refine(O 1∘Lm w1) ?_;have e0:E.at_=0:=X;refine⟨?_,cf,X,cd⟩;have:({ E with at_:=E.at_-1 }:Dv)=E:=by cases E;simp at e0;simp[e0]
    rw[this];exact L
  .rintro N⟨j,ab,cl,ao⟩;have a7:=hE.cap;have c3:=hE.now;rw[UO (by rw[y];exact cl),y];refine(O 4∘Zv (by exact cX pw Z Z hq)∘O 1) ?_;refine Ga Z (fun hc=>?_) (fun hc=>?_)
   .obtain⟨ch,rfl⟩:=Option.isSome_iff_exists.1 hc;have cz:KT N ch vc:=(a6 ch Z).1.tm ab Z Z;have c2:=(a6 ch Z).2;obtain⟨f,cs,rfl,a2⟩:=fk cz c2 hD.cap.2 (j.now.l (BC _)) (by show Alz E.now<=100000000;omega);refine(O 6∘Zv (Bo j.cells)∘Ea a2) ?_;rintro v5 w5⟨r,t,G⟩;refine(O 2) ?_;have P:Tm N w5 B (fun j8=>j8==5):=Tm.Akw j.now t;have bm:=r.one;have c6:=j.kept.j t (fun k a b3=>j.apart k a (FG.1 b3))
    have a9:∀k,Pi vk=J k->Pi v5≠J k:=by
     intro k I a;rcases G with e|⟨g',e,aj⟩
     .exact j.apart k I (by rw[<-e];exact a)
     .rw[e]at a;injection a with a;have:=(j.kept.lt k I).2;omega
    have K:Bn w5 B 5 1 v5 (Alz (ch.ap E.now)) (BI (ch.ap E.now)):=r.base (by
     intro k a;rcases G with e|⟨g',e,aj⟩
     .exact(j.now.lt k (by rw[<-e];exact a)).1
     .rw[e]at a;injection a with a;have:=j.cells.lt;have:=j.lo;omega)
    refine(Zt (P.bk j.cells Z)) ?_;rintro w6 b8 a4;refine(O 6) ?_;have ba:({ E with at_:=E.at_-1 }:Dv).calls<=1000000000:=by show E.calls<=1000000000;rw[<-y];exact S
    refine(O 4∘Zt b8) ?_;rintro w7 c9 c4;refine(O 5∘Bu) ?_;have x:Mo w5 w7 [b]:=a4.trans c4;refine⟨Z,⟨_,_,_,_,_,Dev.after (D':=Dv.done { E with at_:=E.at_-1 } (J ch)) j.lo (P.bk j.cells Z) x c9 c6 K a9 (P.y j.pend Z) (j.chs.tm P Z Z) (P.y j.keep Z)⟩,?_,(ao.j t (fun k a=>.inr (.inr (.inl (FG.1 a))))).b x⟩;exact(ab.trans (P.mono fun T hT=>by simp at hT;simp[Cb,hT])).trans (Dev.tmD j.lo (P.bk j.cells Z) x)
   .obtain rfl:c=Aa:=by cases c;rfl;simp at hc
    obtain⟨An,cn,rfl,ds,cg⟩:=j.now.slice;have p:=fy An cn (BI E.now) _ N cg j.now.Aln UC (by rw[EZ];omega);rw[EZ]at p;have ba:({ E with at_:=E.at_-1 }:Dv).calls<=1000000000:=by show E.calls<=1000000000;rw[<-y];exact S
    refine(O 6∘Zv (Bo j.cells)∘Zc p) ?_;rintro v7 w7⟨l,Q⟩;refine(O 2) ?_;have C:=j.a Q;have bl:=l.one;refine(Zt C.cells) ?_;rintro w8 b7 b0;refine(O 2∘Zt b7) ?_;rintro w9 b6 bx;refine(O 10∘Zt b6) ?_;rintro cc a8 a5;refine(O 5∘Bu) ?_;have x:Mo w7 cc [b]:=(b0.trans bx).trans a5;refine⟨Z,⟨_,_,_,_,[],Dev.after (D':=Dv.done { E with at_:=E.at_-1 } Aa) j.lo C.cells x a8 (l.base (fun k a=>by have:=(l.lt k a).1;have:=j.cells.lt;have:=j.lo;omega)) C.now ?_ (Bn.nil _ _ _ _) Ay C.keep⟩,?_,(ao.a Q).b x⟩
    .intro k a I;have q1:=(j.now.lt k I).2;have q2:=(l.lt k a).1;omega
    .exact(ab.trans (Tm.Akj Q B Cb)).trans (Dev.tmD j.lo C.cells x)
def gF{w:Ad}{B b:Y}{D:Dv}(h0:Ce w B b D)(l:D.q)(e:Ah)(c:Av Ch)(j:c=Aa->e=.nilFunc)(i:∀d,c=J d->KT w d e/\d.ok D.cap)
 (a:D.calls<=1000000000) (f:Alz D.pend<=1000000000) (k:D.at_<=9223372036854775807) (g:Alz D.keep<=140737488355328):
 Bm eD 36 [.pointer (J ⟨b,0,Aa⟩),e] w fun v w'=>v=Bb (((D.Ako c).2:Y):H)/\Ce w' B b (D.Ako c).1/\Tm w w' B Cb:=by
 obtain⟨vk,vn,vp,vq,vs,h⟩:=h0;exact(gG h l _ c j i a f k g).mono Bf
def _root_.Go.Proofs.YtkmlafmjaeeanaaGreatDoor.Dsk.Dv.write(D:Dv)(i:H)(s:Bg):Dv×Y:=
 if D.dead then(D,190)else if i<0∨(D.cap:H)<=i then(D,191)else if Alz s≠512 then(D,2)else D.Ako (J (.write i.toNat s))
def _root_.Go.Proofs.YtkmlafmjaeeanaaGreatDoor.Dsk.Dv.cut(D:Dv)(n:H):Dv×Y:=
 if D.dead then(D,190)else if n<0∨((Alz D.now/512:Y):H)<n then(D,191)else D.Ako (J (.cut n.toNat))
def _root_.Go.Proofs.YtkmlafmjaeeanaaGreatDoor.Dsk.Dv.w(D:Dv):Dv×Y:=if D.dead then(D,190)else D.Ako Aa
def _root_.Go.Proofs.YtkmlafmjaeeanaaGreatDoor.Dsk.Dv.Akp(D:Dv)(a:H)(k:Ae Ar):Dv×Y:=
 if D.dead then(D,190)else if a<0 then(D,2)else({ D with at_:=a.toNat,keep:=k },0)
def Xm.of{P:AC}{f:FuncId}{args:Bl}{w:Ad}{v:Ah}(h:Bm P f args w fun v' w'=>v'=v/\w=w'):Xm P f args w v:=
 h.mono fun _ _⟨h1,h2⟩=>⟨h1,0,by subst h2;rfl⟩
section
variable{w:Ad}{B b:Y}{D:Dv}
def Nv(h:Ce w B b D)(a:D.q):Bm eD 40 [.pointer (J ⟨b,0,Aa⟩)] w fun v w'=>v=Bb ((Alz D.now/512:Y):H)/\w=w':=by
 have e:=h;obtain⟨k,j,i,g,f,h⟩:=h;have m:=a.now;have l:=a.cap;obtain⟨A,c,rfl,n,d⟩:=h.now.slice;refine Bw func40 Z ntmps40 (by rfl) Z ?_;refine(O 8∘Zc (SK e a)) ?_;rintro _ _⟨rfl,rfl⟩;refine(O 8∘Zv (Bo h.cells)∘O 4∘Bu) ?_;simp
def HQ(h:Ce w B b D)(a:D.q):Bm eD 38 [.pointer (J ⟨b,0,Aa⟩)] w fun v w'=>v=Bb (D.cap:H)/\w=w':=by
 have d:=h;obtain⟨j,i,g,f,e,h⟩:=h;refine Bw func38 Z ntmps38 (by rfl) Z ?_;refine(O 8∘Zc (SK d a)) ?_;rintro _ _⟨rfl,rfl⟩;refine(O 8∘Zv (Bo h.cells)∘O 2∘Bu) ?_;simp
def Qt(h:Ce w B b D)(a:D.q):Bm eD 19 [.pointer (J ⟨b,0,Aa⟩)] w fun v w'=>v=.bool D.dead/\w=w':=by
 have d:=h;obtain⟨j,i,g,f,e,h⟩:=h;refine Bw func19 Z ntmps19 (by rfl) Z ?_;refine(O 7∘Zc (SK d a)) ?_;rintro _ _⟨rfl,rfl⟩;refine(O 5∘Zv (Bo h.cells)∘O 3∘Bu) ?_;simp
def up_d(h:Ce w B b D)(e:D.q):Bm eD 20 [.pointer (J ⟨b,0,Aa⟩)] w fun v w'=>v=Bb 0/\Ce w' B b { D with dead:=Ai }/\Tm w w' B Cb:=by
 have f:=h;obtain⟨m,l,k,j,i,h⟩:=h;refine Bw func20 Z ntmps20 Bi Z ?_;refine(O 8∘Zc (SK f e)) ?_;rintro _ _⟨rfl,rfl⟩;refine(O 8∘Zt h.cells) ?_;rintro g d a;refine(O 5∘Bu) ?_;exact⟨Z,⟨_,_,_,_,_,Dev.after (D':={ D with dead:=Ai }) h.lo h.cells a d h.kept h.now h.apart h.pend h.chs h.keep⟩,Dev.tmD h.lo h.cells a⟩
end
structure Small(D:Dv):Prop where
 calls:D.calls<=1000000000
 pend:Alz D.pend<=1000000000
 at_:D.at_<=9223372036854775807
 keep:Alz D.keep<=140737488355328
section
variable{w:Ad}{B b:Y}{D:Dv}
def Tp(h:Ce w B b D)(f:D.q)(a:Small D):Bm eD 14 [.pointer (J ⟨b,0,Aa⟩)] w fun v w'=>v=Bb ((D.w.2:Y):H)/\Ce w' B b D.w.1/\Tm w w' B Cb:=by
 refine Bw func14 Z ntmps14 (by rfl) Z ?_;refine(O 8∘Zc (Ql h f)) ?_;rintro _ _⟨rfl,rfl⟩;refine(O 7) ?_;rcases hd:D.dead with _|_
 .have e:D.w=D.Ako Aa:=by unfold Dv.w;rw[hd];rfl
  rw[Ag Bh];refine(Ci 7∘O 5∘Zc (gF h f .nilFunc Aa (fun _=>rfl) (fun d q=>by grind) a.calls a.pend a.at_ a.keep)) ?_;rintro _ w'⟨rfl,i,g⟩;refine(O 2∘Bu) ?_;grind
 .have e:D.w=(D,190):=by unfold Dv.w;rw[hd];rfl
  rw[Aj Z];refine(EF 7∘O 6∘Bu) ?_;rw[e];exact⟨Z,h,Tm.refl _ _ _⟩
def Ajv{E C A vq:Ah}{vs:Bl}(o:Dev w B b D E C A vq vs)(W:D.q)(K:Small D)(i:H)(i0:-9223372036854775808<=i)(i1:i<=9223372036854775807)(s:Bg)(ab:Alz s<=140737488355328):
 Bm eD 13 [.pointer (J ⟨b,0,Aa⟩),Bb i,str s] w fun v w'=>v=Bb (((D.write i s).2:Y):H)/\Ce w' B b (D.write i s).1/\Tm w w' B Cb/\Kp w w' b E C A:=by
 have h:=o.at_;refine Bw func13 Z ntmps13 Bi Z ?_;refine(O 2) ?_;refine Mb Z Z Z Z ?_;rintro bi w1 V L f;refine Mb Z Z Z Z ?_;rintro bs y S p a;refine(O 6) ?_;have m:=L.a a;have r:=h.a (f.trans a);have G:Tm w y B Cb:=Tm.Akj (f.trans a) B Cb;refine(Zc (Ql r W)) ?_;rintro _ _⟨rfl,rfl⟩;refine(O 7) ?_;rcases hd:D.dead with _|_
 .rw[Ag Bh];refine(Ci 11∘O 4) ?_;have P:=o.a (f.trans a);have k:=(Kp.refl w b E C A).a (f.trans a);refine(O 1∘Zq (by exact fun _=>Bo (m.drewN _))∘O 2)<|Nh 15 (fun x=>?_) fun x=>?_
  .have e:D.write i s=(D,191):=by unfold Dv.write;rw[hd,Ag Bh,Aj (.inl x)]
   refine(O 7∘QW.nil) fun I=>(O 5∘Bu) ?_;rw[e];exact⟨Z,r.a (Be.drewN _ _),G.trans (Tm.Akj (Be.drewN _ _) _ _),k.a (Be.drewN _ _)⟩
  .skip
   refine(Zq (by exact fun _=>Bo (m.drewN _))∘O 3∘Zq (by exact fun _=>Bo (P.cells.drewN _))∘O 2∘QW.nil) fun I=>Zi (fun t=>?_) fun t=>?_
   .have e:D.write i s=(D,191):=by unfold Dv.write;rw[hd,Ag Bh,Aj (.inr t)]
    refine(O 4∘Bu) ?_;rw[e];exact⟨Z,r.a (Be.drewN _ _),G.trans (Tm.Akj (Be.drewN _ _) _ _),k.a (Be.drewN _ _)⟩
   .have Q:¬(i<0∨(D.cap:H)<=i):=X;have h3:=r.a (Be.drewN y I);have N:Tm w (y.drewN I) B Cb:=G.trans (Tm.Akj (Be.drewN _ _) _ _);obtain⟨j,rfl⟩:=ES (show 0<=i by omega);refine(O 4∘Zv (Bo (p.drewN _))∘O 3)<|Zi (fun n=>?_) fun n=>?_
    .have e:D.write (j:H) s=(D,2):=by unfold Dv.write;rw[hd,Ag Bh,Ag Q,Aj n]
     refine(O 4∘Bu) ?_;rw[e];exact⟨Z,h3,N,k.a (Be.drewN _ _)⟩
    .have e:D.write (j:H) s=D.Ako (J (.write j s)):=by unfold Dv.write;rw[hd,Ag Bh,Ag Q,Ag n];rfl
     refine(O 4∘Zv (by exact FZ Z Z)∘Zc (gG (P.a (Be.drewN y I)) W _ (J (.write j s)) (fun q=>by cases q) (fun d q=>by cases q;exact⟨⟨bi,bs,Z,m.drewN _,p.drewN _⟩,X,X⟩) K.calls K.pend K.at_ K.keep)) ?_;rintro _ w4⟨rfl,h4,t4,k4⟩;refine(O 2∘Bu) ?_;rw[e];exact⟨Z,h4,N.trans t4,fun g T l x t n a4 hb=>k4 g T l x t n a4 ((k.a (Be.drewN _ _)) g T l x t n a4 hb)⟩
 .have e:D.write i s=(D,190):=by unfold Dv.write;rw[hd];rfl
  rw[Aj Z];refine(EF 11∘O 6∘Bu) ?_;rw[e];exact⟨Z,r,G,(Kp.refl w b E C A).a (f.trans a)⟩
def PE(h:Ce w B b D)(j:D.q)(g:Small D)(i:H)(e:-9223372036854775808<=i)(d:i<=9223372036854775807)(s:Bg)(a:Alz s<=140737488355328):
 Bm eD 13 [.pointer (J ⟨b,0,Aa⟩),Bb i,str s] w fun v w'=>v=Bb (((D.write i s).2:Y):H)/\Ce w' B b (D.write i s).1/\Tm w w' B Cb:=by
 obtain⟨o,n,m,l,k,f⟩:=h;exact(Ajv f j g i e d s a).mono fun _ _ q=>⟨q.1,q.2.1,q.2.2.1⟩
def cut_d(h:Ce w B b D)(l:D.q)(k:Small D)(i:H)(N:-9223372036854775808<=i)(L:i<=9223372036854775807):
 Bm eD 70 [.pointer (J ⟨b,0,Aa⟩),Bb i] w fun v w'=>v=Bb (((D.cut i).2:Y):H)/\Ce w' B b (D.cut i).1/\Tm w w' B Cb:=by
 have p:=l.now;refine Bw func70 Z ntmps70 Bi Z ?_;refine(O 2) ?_;refine Mb Z Z Z Z ?_;rintro I m r a f;refine(O 6) ?_;have g:=h.a f;have n:Tm w m B Cb:=Tm.Akj f B Cb;refine(Zc (Ql g l)) ?_;rintro _ _⟨rfl,rfl⟩;refine(O 7) ?_;rcases hd:D.dead with _|_
 .rw[Ag Bh];refine(Ci 9∘O 5∘Zq (by exact fun _=>Bo (a.drewN _))∘O 2)<|Nh 13 (fun x=>?_) fun x=>?_
  .have e:D.cut i=(D,191):=by unfold Dv.cut;rw[hd,Ag Bh,Aj (.inl x)]
   refine(O 5∘QW.nil) fun o=>(O 5∘Bu) ?_;rw[e];exact⟨Z,g.a (Be.drewN _ _),n.trans (Tm.Akj (Be.drewN _ _) _ _)⟩
  .skip
   refine(Zq (by exact fun _=>Bo (a.drewN _))∘O 1) ?_;refine QW.call Z Z Z (fun _=>Xm.of (Nv (g.a (Be.drewN _ _)) l))<|(O 2∘QW.nil) fun o=>Zi (fun t=>?_) fun t=>?_
   .have e:D.cut i=(D,191):=by unfold Dv.cut;rw[hd,Ag Bh,Aj (.inr t)]
    refine(O 4∘Bu) ?_;rw[e];exact⟨Z,g.a (Be.drewN _ _),n.trans (Tm.Akj (Be.drewN _ _) _ _)⟩
   .have C:¬(i<0∨((Alz D.now/512:Y):H)<i):=X;have G:=g.a (Be.drewN m o);have A:Tm w (m.drewN o) B Cb:=n.trans (Tm.Akj (Be.drewN _ _) _ _);obtain⟨j,rfl⟩:=ES (show 0<=i by omega);have e:D.cut (j:H)=D.Ako (J (.cut j)):=by unfold Dv.cut;rw[hd,Ag Bh,Ag C];rfl
    refine(O 4∘Zv (by exact FZ Z Z)∘Zc (gF G l _ (J (.cut j)) (fun q=>by cases q) (fun d q=>by cases q;exact⟨⟨I,Z,a.drewN _⟩,(show j<=D.cap by omega)⟩) k.calls k.pend k.at_ k.keep)) ?_;rintro _ K⟨rfl,E,y⟩;refine(O 2∘Bu) ?_;rw[e];exact⟨Z,E,A.trans y⟩
 .have e:D.cut i=(D,190):=by unfold Dv.cut;rw[hd];rfl
  rw[Aj Z];refine(EF 9∘O 6∘Bu) ?_;grind
def lZ(h:Ce w B b D)(P:D.q)(a:H)(i0:-9223372036854775808<=a)(i1:a<=9223372036854775807)(A:Av AB)(c C:Y)(k:Ae Ar)(x:Sl w C A (HP k))(hA:A=Aa->HP k=[])(hk:Alz k<=140737488351232):
 Bm eD 18 [.pointer (J ⟨b,0,Aa⟩),.agg [Bb a,.slice A (Alz k) c].toArray] w fun v w'=>v=Bb (((D.Akp a k).2:Y):H)/\Ce w' B b (D.Akp a k).1/\Tm w w' B Cb:=by
 refine Bw func18 Z ntmps18 Bi Z ?_;refine(O 2) ?_;refine Dq Z Z Z ?_;rintro S o I y l;refine(O 6) ?_;have r:=h.a l;have t:Tm w o B Cb:=Tm.Akj l B Cb;refine(Zc (Ql r P)) ?_;rintro _ _⟨rfl,rfl⟩;refine(O 7) ?_;rcases hd:D.dead with _|_
 .rw[Ag Bh];refine(Ci 9∘O 9)<|Zi (fun G=>?_) fun G=>?_
  .have e:D.Akp a k=(D,2):=by unfold Dv.Akp;rw[hd,Ag Bh,Aj G]
   refine(O 4∘Bu) ?_;rw[e];exact⟨Z,r,t⟩
  .obtain⟨j,rfl⟩:=ES (show 0<=a by omega);have e:D.Akp (j:H) k=({ D with at_:=j,keep:=k },0):=by unfold Dv.Akp;rw[hd,Ag Bh,Ag G];rfl
   have Q:=r.a (Be.drew o);have K:Tm w o.drew B Cb:=t.trans (Tm.Akj (Be.drew _) _ _);obtain⟨vk,vn,vp,vq,W,p⟩:=id Q;have f:=tC A c (HP k) _ o.drew ((x.a l).a (Be.drew o)) hA (sN k) (by rw[Uz];omega);rw[Uz]at f;refine(O 2∘Yr 10 (fun w'=>Bk w' S 38 [Bb (j:H),.slice A (Alz k) c]) y.drew) fun n=>(Gv [0,1,2,3,4]∘Yc 5 f) ?_;rintro v7 V⟨g,i⟩;refine⟨n.a i,fun n=>?_⟩;refine GW.val 6 Z Bi Bi Bi Z Z n (fun w' N=>RD (pl:=[(0,1),(1,1)]) (ks:=[0,1]) (is:=[0,1]) (zs:=[Bb 0,.slice Aa 0 0]) na ti38 Bi Z Z Z (by first|rfl|(simp only[Hb,Hc,GZ,Hu,Bool.and_eq_true,Value.oneCell'];repeat (first|assumption|exact Bn.one Ck|constructor))) (by simp only[LI,IW,Lj];rfl))<|(Gv [7,8]) ?_;have d:=p.a i;refine(Ys 9 d.cells) ?_;rintro T E m;refine⟨n.j m (by simp;exact(d.cells.ne n Bc).symm),fun n=>?_⟩;refine(Yd∘O 4∘Bu) ?_;rw[e];refine⟨Z,⟨_,_,_,_,_,Dev.after (D':={ D with at_:=j,keep:=k }) p.lo d.cells m E d.kept d.now d.apart d.pend d.chs (g.base (fun q L=>by have q1:=(g.lt q L).1;have q2:=p.cells.lt;have q3:=p.lo;omega))⟩,?_⟩;exact(K.trans (Tm.Akj i B Cb)).trans (Dev.tmD p.lo d.cells m)
 .have e:D.Akp a k=(D,190):=by unfold Dv.Akp;rw[hd];rfl
  rw[Aj Z];refine(EF 9∘O 6∘Bu) ?_;rw[e];exact⟨Z,r,t⟩
end
def _root_.Go.Proofs.YtkmlafmjaeeanaaGreatDoor.Dsk.fresh(cap:Y)(s:Bg):Dv:={ cap:=cap,kept:=s,now:=s,pend:=[],at_:=0,keep:=[],dead:=Ai,calls:=0 }
def jo{cap:Y}{s:Bg}(h:1<=cap/\cap<=4096)(h1:Alz s%512=0)(h2:Alz s/512<=cap):(fresh cap s).q:=
 ⟨h,by show Alz s<=512*cap;omega,by show Alz s<=512*cap;omega,h1,h1,fun c hc=>by simp[fresh]at hc⟩
def _root_.Go.Proofs.YtkmlafmjaeeanaaGreatDoor.Dsk.may(c:H)(s:Bg):Prop:=1<=c/\c<=4096/\Alz s%512=0/\((Alz s/512:Y):H)<=c
def Bn.ofBytes{w:Ad}{B g cap:Y}{s:Bg}{rs:Bl}(hb:Bk w g 5 (BI s++rs))(hB:B<=g)(hc:Alz s<=cap)(hm:cap<=maxLen)(hl:Alz s+Alz rs=cap):Bn w B 5 1 (.slice (J ⟨g,0,Aa⟩) (Alz s) cap) (Alz s) (BI s):=
 ⟨by simp[BI],.inr ⟨g,cap,rs,Z,hB,hb,by rw[EZ];omega,hc,hm⟩⟩
def yz(c:H)(c0:-9223372036854775808<=c)(c1:c<=9223372036854775807)(s:Bg)(hs:Alz s<=140737488355328)(w:Ad):
 Bm eD 64 [Bb c,str s] w fun v w'=>∃(p:Ah) (e:Y),v=.tuple #[p,Bb (e:H)]/\Be w w'/\((¬may c s/\p=.pointer Aa/\e=2)∨(may c s/\∃b,p=.pointer (J ⟨b,0,Aa⟩)/\e=0/\Ce w' w.heap.size b (fresh c.toNat s))):=by
 refine Bw Bh Z ntmps64 Bi Z ?_;refine(O 7)<|Lc (fun(_u:Unit)=>(True,[(0,Bb c),(1,str (s)),(24,.bool (decide (¬(1<=c/\c<=4096/\Alz s%512=0/\((Alz s/512:Y))<=c))))],w)) ?_ ?_
 .refine(O 4)<|Zd 8 (fun Q=>?_) fun Q=>?_
  .refine(O 17∘Ct 24 (.bool (decide (¬(1<=c/\c<=4096/\Alz s%512=0/\((Alz s/512:Y))<=c)))) (e:=by rw[AM];omega)∘Lm ()) ?_;trivial
  .refine(O 4)<|Zd 12 (fun P=>?_) fun P=>?_
   .refine(O 13∘Ct 24 (.bool (decide (¬(1<=c/\c<=4096/\Alz s%512=0/\((Alz s/512:Y))<=c)))) (e:=by rw[AM];omega)∘Lm ()) ?_;trivial
   .refine(O 6)<|Zd 18 (fun N=>?_) fun N=>?_
    .refine(O 7∘Ct 24 (.bool (decide (¬(1<=c/\c<=4096/\Alz s%512=0/\((Alz s/512:Y))<=c)))) (e:=by rw[AM];omega)∘Lm ()) ?_;trivial
    .refine(O 7∘Ct 24 (.bool (decide (¬(1<=c/\c<=4096/\Alz s%512=0/\((Alz s/512:Y))<=c)))) (e:=by grind)∘Lm ()) ?_;trivial
 .rintro _ _;refine Zi (fun m=>?_) fun m=>?_
  .refine(O 5∘BF) ?_;exact⟨_,2,Z,Be.refl _,.inl ⟨m,Z,Z⟩⟩
  .have g:may c s:=Dd.1 m;obtain⟨j,rfl⟩:=ES (show 0<=c by omega);refine(O 5) ?_;refine OW.bytesOf Z Z Bh Bh iB Z X ?_;rintro cp W V h t l o f;refine(O 1) ?_;refine OW.bytesOf Z Z Bh Bh iB Z X ?_;rintro L C B y r i n d;refine(O 1) ?_;refine Dq Z Z Z ?_;rintro b T G x a;refine(O 3∘BF) ?_;have K:=Bn.ofBytes h (Bq _) t l o;have A:=f.size;have S:=d.size;have I:Bn B w.heap.size 5 1 _ _ _:=Bn.ofBytes y A r i n;have l1:=h.lt;refine⟨_,0,Z,(f.trans d).trans a,.inr ⟨g,b,Z,Z,_,_,_,_,[],⟨X,x,(K.a d).a a,I.a a,?_,Bn.nil _ _ _ _,Ay,Bn.nil _ _ _ _⟩⟩⟩;intro k E q;simp[Pi]at E q;omega
def new_s(c:H)(c0:-9223372036854775808<=c)(f:c<=9223372036854775807)(w:Ad):
 Bm eD 29 [Bb c] w fun v w'=>∃(p:Ah) (e:Y),v=.tuple #[p,Bb (e:H)]/\Be w w'/\((¬may c []/\p=.pointer Aa/\e=2)∨(may c []/\∃b,p=.pointer (J ⟨b,0,Aa⟩)/\e=0/\Ce w' w.heap.size b (fresh c.toNat []))):=by
 refine Bw Bh Z ntmps29 (by rfl) Z ?_;refine(O 8∘Zc (yz c c0 f [] Bh w)) ?_;rintro _ g⟨p,e,rfl,d,a⟩;refine(O 5∘BF) ?_;exact⟨p,e,Z,d,a⟩
def Aci(i n b:Y)(h:i<n):(BH i (Value.int .u8 (b:H))++BH (n-i) (Value.int .u8 0)).set i (.int .u8 (b:H))=BH (i+1) (Value.int .u8 (b:H))++BH (n-(i+1)) (Value.int .u8 0):=by
 rw[LX _ _ Bh,Cn,EY,show n-i=(n-(i+1))+1 by omega,JC,IW,PW];simp
def Aes(b:Y)(A:b<=255)(a:Ar)(w:Ad):Bm eD 21 [.int .u8 b,.bool a] w fun v w'=>v=str (Rj b a)/\Be w w':=by
 refine Bw func21 Z ntmps21 Bi Z ?_;refine(O 13)<|Lc (fun(B:Unit)=>(True,[(0,.int .u8 b),(5,Bb (((if a then 511 else 512):Y):H))],w)) ?_ ?_
 .refine Ga Z (fun k=>?_) (fun k=>?_)
  .refine(O 3) ?_;rw[k];refine(Lm ()) ?_;trivial
  .refine(O 1) ?_;rw[k];refine(Lm ()) ?_;trivial
 .rintro _ _;generalize l:(if a then 511 else 512)=n;have r:n<=512:=by rw[<-l];split<;>omega
  refine(O 3∘Gc) ?_;rintro g p t x q;refine(O 8)<|Lo (fun((i,wr):Y×Ad)=>(i<=n/\Bk wr g 5 (BH i (.int .u8 (b:H))++BH (n-i) (.int .u8 0))/\Be w wr,[(0,.int .u8 b),(5,Bb n),(6,.slice (J ⟨g,0,Aa⟩) n n),(7,Bb i)],wr,n-i)) (0,p) ?_ ?_
  .exact⟨X,by simpa using x,q⟩
  .rintro⟨i,wr⟩⟨y,f,d⟩;refine(O 7)<|Zi (fun h=>?_) fun h=>?_
   .refine(O 8∘Zt f) ?_;rintro o j m;refine(O 7)<|Lb ((i+1),o) ?_;rw[Aci _ _ _ h]at j;exact⟨X,j,Bp d m d.size Bv⟩
   .obtain rfl:i=n:=X
    have e:BH i (Value.int .u8 (b:H))++BH (i-i) (.int .u8 0)=BI (Rj b a):=by
     simp[BI,Rj,l];omega
    rw[e]at f;refine(O 4∘Zv (DR f.sl (hl:=by simp[Rj,l]))∘O 2∘Bu) ?_;exact⟨Z,d⟩
section
variable{D:Dv}
def NR(h:D.q)(i:H)(s:Bg):(D.write i s).1.q:=by
 unfold Dv.write;split
 .exact h
 .split
  .exact h
  .split
   .exact h
   .rename_i f e;refine Yk h fun d a=>?_;cases a;exact⟨X,X⟩
def ud(h:D.q)(i:H):(D.cut i).1.q:=by
 have e:=h.now;unfold Dv.cut;split
 .exact h
 .split
  .exact h
  .rename_i f;refine Yk h fun d a=>?_;cases a;show i.toNat<=D.cap;omega
def bB(h:D.q):D.w.1.q:=by
 unfold Dv.w;split
 .omega
 .exact Yk h Bh
end
end
section
open Bz
def KS(T:Aw):Ar:=T==280||T==5
structure WrO(w:Ad)(B wb:Y)(l:Bs)(vo:Ah):Prop where
 lo:B<=wb
 cells:Bk w wb 280 [vo,Bb ((Alz l:Y):H)]
 y:Bn w B 5 1 vo (Alz (pack l)) (BI (pack l))
def FH(w:Ad)(B wb:Y)(l:Bs):Prop:=∃vo,WrO w B wb l vo
def FH.a{w w':Ad}{B wb:Y}{l:Bs}(h:FH w B wb l)(hx:Be w w'):FH w' B wb l:=by
 obtain⟨a,f,e,d⟩:=h;exact⟨a,f,e.a hx,d.a hx⟩
def FH.tm{w w':Ad}{B wb C:Y}{l:Bs}{p:Aw->Ar}(h:FH w B wb l)(t:Tm w w' C p)(p1:p 280=Ai)(p2:p 5=Ai):FH w' B wb l:=by
 obtain⟨a,f,e,d⟩:=h;exact⟨a,f,t.bk e p1,t.y d p2⟩
def Pd(w:Ad):Bm eD 133 [] w fun v w'=>∃wb,v=.pointer (J ⟨wb,0,Aa⟩)/\FH w' w.heap.size wb []/\Be w w':=by
 refine Bw func133 Z ntmps133 Bi Z ?_;refine(O 7) ?_;refine Dq Z Z Z ?_;rintro wb f a e d;refine(O 2∘Bu) ?_;exact⟨wb,Z,⟨_,a,e,Bn.nil _ _ _ _⟩,d⟩
def Qo(s:Bg)(b:AI):BI (s++[b])=BI s++[.int .u8 (b.toNat:H)]:=by simp[BI]
def su(s:Bg)(i x:Y)(hx:x<=255)(rest:Bl)(hi:i<Alz s):(BI s++rest).set i (.int .u8 (x:H))=BI (s.set i (BV x))++rest:=by
 have a:i<Alz (BI s):=by simpa[BI]using hi
 rw[TZ _ _ a];have e:((BV x).toNat:H)=(x:H):=Bv;have d:BI (s.set i (BV x))=(BI s).set i (.int .u8 (x:H)):=by unfold BI;rw[List.map_set,e]
 grind
def GU(B wb:Y)(l:Bs)(v n:Y)(hv:v<18446744073709551616)(hn:n<=64)(a5:v<2 ^ n)(hl:Alz l<=1000000000)(w:Ad)(h:FH w B wb l):
 Bm eD 134 [.pointer (J ⟨wb,0,Aa⟩),.int .u64 (v:H),Bb (n:H)] w fun r w'=>r=Bb 0/\FH w' B wb (l++nb n v)/\Tm w w' B KS:=by
 refine Bw func134 Z ntmps134 Bi Z ?_;refine(O 14)<|Lc (fun(_u:Unit)=>(True,[(0,.pointer (J ⟨wb,0,Aa⟩)),(1,.int .u64 (v:H)),(2,Bb n),(26,.bool Ai)],w)) ?_ ?_
 .refine(O 4∘Kw 12∘O 4∘Kw 16∘O 3)<|Zd 19 (fun bi=>?_) fun bi=>?_
  .have hz:v/2 ^ n=0:=Nat.div_eq_of_lt a5;refine(O 3∘Zv (by exact PO Z Z (by show _<=64;omega))∘O 4∘Ci 26∘Lm ()) ?_;trivial
  .refine(O 8∘Lm ()) ?_;trivial
 .rintro _ _;refine(O 10)<|Lo (fun((i,wr):H×Ad)=>((∃k:Y,i=(n:H)-1-k/\k<=n/\FH wr B wb (l++(nb n v).take k))/\Tm w wr B KS,[(0,.pointer (J ⟨wb,0,Aa⟩)),(1,.int .u64 (v:H)),(7,Bb (i:H))],wr,(i+1).toNat)) (((n:H)-1),w) ?_ ?_
  .exact⟨⟨0,X,BC _,Bf⟩,Tm.refl _ _ _⟩
  .rintro⟨i,wr⟩⟨⟨k,b0,bx,L⟩,a6⟩;refine(O 6)<|Zi (fun a0=>?_) fun a0=>?_
   .obtain⟨j,rfl⟩:=ES a0;have a8:k<n:=X;have hj:n-1-k=j:=X;have ab:=zj (v:=v) a8;rw[hj]at ab;have bf:Alz (l++(nb n v).take k)=Alz l+k:=by rw[Bx,BW,nb_length];omega
    have ai:l++(nb n v).take (k+1)=(l++(nb n v).take k)++[v.testBit j]:=by rw[ab,Cq]
    generalize l++(nb n v).take k=bs at L bf ai;obtain⟨vo,S,d,y⟩:=L;have bq:=pack_length bs;have t:=Aao bs;refine(O 5)<|Ld (fun((f,G):Ah×Ad)=>(Bk G wb 280 [f,Bb ((Alz bs:Y):H)]/\Bn G B 5 1 f (Alz (pack (bs++[Ai]))) (BI (pack (bs++[Ai])))/\Tm wr G B KS,[(0,.pointer (J ⟨wb,0,Aa⟩)),(1,.int .u64 (v:H)),(7,Bb j)],G)) ?_ ?_
    .refine(O 8)<|Zi (fun h8=>?_) fun h8=>?_
     .rw[Aj X]at t;have ao:=AF DQ t;rw[Bx,CL]at ao;refine(O 6∘Qk B (by have:=d.lt;omega) y) ?_;rintro _ v2 o e al bd;refine(O 2) ?_;have I:Tm wr o B (fun K=>K==5):=Tm.Akw y al;have A:=I.bk d Bc;refine(Zt A) ?_;rintro V a3 Q;refine(O 1∘Lm (v2,V)) ?_;have W:Tm o V B (fun K=>K==280):=Tm.set A Q S;refine⟨a3,?_,(I.mono fun T E=>by simp at E;simp[KS,E]).trans (W.mono fun T E=>by simp at E;simp[KS,E])⟩;rw[t,Qo,Bx,CL];exact W.y e Bc
     .rw[Ag X]at t;refine(O 1∘Lm (vo,wr)) ?_;rw[t];exact⟨d,y,Tm.refl _ _ _⟩
    .rintro⟨f,G⟩⟨C,x,t1⟩;have bn:v/2 ^ j<=v:=On _ _;have af:v.testBit j=decide (v/2 ^ j%2=1):=Nat.testBit_eq_decide_div_mod_eq;refine(O 2)<|Ld (fun(o:Ad)=>(Bk o wb 280 [f,Bb ((Alz bs:Y):H)]/\Bn o B 5 1 f (Alz (pack (bs++[v.testBit j]))) (BI (pack (bs++[v.testBit j])))/\Tm G o B KS,[(0,.pointer (J ⟨wb,0,Aa⟩)),(1,.int .u64 (v:H)),(7,Bb j)],o)) ?_ ?_
     .have bl:Alz (pack (bs++[Ai]))=(Alz bs+8)/8:=by rw[pack_length,Bx,CL]
      refine(O 4∘Zv (by exact PO Z Z (by show _<=64;omega))∘Zv (by exact MU (b:=1) (j:=1) (p:=2) (m:=18446744073709551615) Z Z Bc Bc Z X)∘O 2)<|Zi (fun D=>?_) fun D=>?_
      .have N:v.testBit j=Af:=by rw[af];exact AM D
       obtain⟨g,bj,rest,rfl,a1,hg,bb,a9,ba⟩:=x.blk (by rw[EZ];omega);have a4:=Aam bs;have bh:=Qn bs (Alz bs/8);have bm:128/2 ^ (Alz bs%8)<=128:=On _ _;have aj:=sT bs (Alz bs/8);rw[Nb]at aj
       have bc:(BI (pack (bs++[Ai]))++rest)[Alz bs/8]? =J (.int .u8 ((Fx bs (Alz bs/8):Y):H)):=by
        rw[FR (by rw[EZ];omega)];unfold BI;rw[DV,a4,FU];rw[UInt8.toNat_ofNat',JG X]
       have q:=Aap bs;rw[Nb]at q;have P:Alz (pack (bs++[Af]))=Alz (pack (bs++[Ai])):=by rw[q,Hg]
       refine Kk 20 Bi Bi<|HW.val Z Z (EX.move Z)<|HW.val Z Z (DU Z)<|HW.val Z Z (Dw (off:=0) lr Z Z Rs Z Z)<|HW.val Z Z (CV im Z Z (C.drew.I Z))<|HW.val Z Z (EX.move Z)<|HW.val Z Z (DU Z)<|HW.val Z Z (Dw (off:=1) lr Z Z BZ Z Z)<|HW.val Z Z (CV io Z Z (C.drew.I Z))<|HW.val Z Z (dh (b:=8) (m:=9223372036854775807) Z Z Z X)<|HW.val Z Z (by first|exact KV im CE Z Z X|exact KX im CE Z Z X)<|HW.val Z Z (CV iB Z Z (hg.drew.I bc))<|HW.val Z Z (EX.move Z)<|HW.val Z Z (DU Z)<|HW.val Z Z (Dw (off:=1) lr Z Z BZ Z Z)<|HW.val Z Z (CV io Z Z (C.drew.I Z))<|HW.val Z Z (by first|exact di (b:=8) Z Z X|exact EX.remZ Z Z Bc)<|HW.val Z Z (by first|exact RF (m:=18446744073709551615) io iJ Z Z X|exact RG (m:=18446744073709551616) io iJ Z Z Bc|exact EX.convZ io iJ Z)<|HW.val Z Z (PO (a:=128) Z Z (by show _<=8;omega))<|HW.val Z Z (NY (m:=255) Z Z Z X)<|HW.val Z Z (by first|exact KV im CE Z Z X|exact KX im CE Z Z X)<|HW.tail<|(Zt hg.drew (hlt:=by grind)) ?_;rintro o a2 a7;refine(O 1∘Lm o) ?_;have I:Tm G.drew o B (fun K=>K==5):=Tm.set hg.drew a7 a1;rw[su _ _ _ aj _ X,<-q]at a2;rw[N];refine⟨I.bk C.drew Bc,?_,(Tm.Akj (Be.drew G) B KS).trans (I.mono fun T E=>by simp at E;simp[KS,E])⟩;rw[P];exact⟨by rw[EZ,P,IX],.inr ⟨g,bj,rest,Z,a1,a2,by rw[EZ,P];rw[EZ]at bb;omega,a9,ba⟩⟩
      .have N:v.testBit j=Ai:=by rw[af];exact AN D
       refine(O 1∘Lm G) ?_;rw[N];exact⟨C,x,Tm.refl _ _ _⟩
     .rintro o⟨A,e,I⟩;refine(O 8∘Zt A) ?_;rintro V a3 Q;refine(O 7)<|Lb (((j:H)-1),V) ?_;have W:Tm o V B (fun K=>K==280):=Tm.set A Q S;refine⟨⟨k+1,X,X,?_⟩,a6.trans (t1.trans (I.trans (W.mono fun T E=>by simp at E;simp[KS,E])))⟩;rw[ai];refine⟨f,S,?_,W.y e Bc⟩;simp_all
   .have hk:k=n:=X;subst hk;rw[Dh (by rw[nb_length];simp)]at L;refine(O 5∘Bu) ?_;grind
end
namespace Bz
def OZ(l:By):Prop:=l≠[]/\l.Pairwise fun a b=>a.toNat<b.toNat
def used(s:By):By:=((BE 256).filter fun b=>decide (BV b∈s)).map BV
def toNat_ofNat{b:Y}(h:b<256):(BV b).toNat=b:=by
 simp_all
def mem_used(s:By)(b:AI):b∈used s↔b∈s:=by
 unfold used;rw[Cr];constructor
 .grind
 .intro h;refine⟨_,Km.2 ⟨DX.2 b.toNat_lt,?_⟩,Bh⟩;simp_all
def used_may{s:By}(h:s≠[]):OZ (used s):=by
 refine⟨fun e=>?_,?_⟩
 .obtain⟨b,a⟩:=List.exists_mem_of_ne_nil s h;have:=(mem_used s b).2 a;grind
 .refine LW.2 ?_;refine HK.imp_of_mem ?_ (HK.filter _ WU);simp;omega
def Aje(s:By):Alz (used s)<=256:=by
 unfold used;grind
def EI{α:Type}[Inhabited α](l:Ae α)(k:Y):Ae α:=l.getD k default::l.eraseIdx k
def Pa{α:Type}[Inhabited α]{l:Ae α}{k:Y}(h:k<Alz l):Alz (EI l k)=Alz l:=by
 unfold EI;grind
def SH{α:Type}[Inhabited α]{l:Ae α}{k:Y}(h:k<Alz l)(a:α):a∈EI l k↔a∈l:=by
 unfold EI;rw[List.mem_cons,List.mem_eraseIdx_iff_getElem];constructor
 .grind
 .intro q;obtain⟨i,d,rfl⟩:=Hw.1 q;grind
def front:By->By->Av (Bj)
 |_,[]=>J []
 |l,b::s=>if b∈l then(front (EI l (l.idxOf b)) s).map (l.idxOf b::·)else Aa
def GI:By->Bj->Av By
 |_,[]=>J []
 |l,k::ps=>if k<Alz l then(GI (EI l k) ps).map (l.getD k 0::·)else Aa
def jp:∀(s l:By),(∀b∈s,b∈l)->∃ps,front l s=J ps/\Alz ps=Alz s/\GI l ps=J s/\∀p∈ps,p<Alz l
 |[],l,_=>⟨[],Z,Z,Z,Bh⟩
 |b::s,l,h=>by
  have hb:=h b Bh;have hlt:=PU hb;obtain⟨ps,e1,e2,e3,e4⟩:=jp s (EI l (l.idxOf b)) (fun c hc=>(SH hlt c).2 Bf);refine⟨l.idxOf b::ps,?_,Bf,?_,?_⟩
  .rw[front,Aj hb,e1];rfl
  .rw[GI,Aj hlt,e3];grind
  .intro p hp;rcases List.mem_cons.1 hp with rfl|hp
   .omega
   .have:=e4 p hp;rwa[Pa hlt]at this
def eJ:∀(ps:Bj) (l s:By),GI l ps=J s->Alz s=Alz ps
 |[],l,s,h=>by simp[GI]at h;grind
 |k::ps,l,s,h=>by
  rw[GI]at h;split at h
  .rw[Nc]at h;obtain⟨t,h1,rfl⟩:=h;simp[eJ _ _ _ h1]
  .grind
def Ec(k:Y):Bj:=if h:0<k then(k-1)%2::Ec ((k-1)/2)else[]
termination_by k
decreasing_by omega
def OG:Ec 0=[]:=by rw[Ec];rfl
def UM{k:Y}(h:0<k):Ec k=(k-1)%2::Ec ((k-1)/2):=by rw[Ec,AQ h]
def Yi:∀n k,k<=n->Alz (Ec k)<=k
 |0,k,h=>by
  obtain rfl:k=0:=X;rw[OG];simp
 |n+1,k,h=>by
  rcases JF k with z|z
  .subst z;rw[OG];simp
  .rw[UM z,CF];have:=Yi n ((k-1)/2) X;omega
def Fu(n:Y):Y->Bj->Bj
 |r,[]=>Ec r++[n+1]
 |r,0::l=>Fu n (r+1) l
 |r,(x+1)::l=>Ec r++(x+2)::Fu n 0 l
def Ft(n most:Y):Bj->Y->Y->Bj->Av (Bj)
 |_,_,_,[]=>Aa
 |out,run,w,s::l=>
  if n+1<s then Aa
  else if s<2 then(if most<w∨most<Alz out+run+(s+1)*w then Aa else Ft n most out (run+(s+1)*w) (w*2) l)
  else if s=n+1 then(if l=[]then J (out++BH run 0)else Aa)
  else if Alz (out++BH run 0)=most then Aa
  else Ft n most (out++BH run 0++[s-1]) 0 1 l
def cC(n most:Y)(f:1<=n)(out rest:Bj):∀k,∀j,j<=k->∀run w,1<=w->Alz out+run+j*w<=most->∃w',1<=w'/\Ft n most out run w (Ec j++rest)=Ft n most out (run+j*w) w' rest
 |0,j,hj,run,w,hw,_=>by
  obtain rfl:j=0:=X;exact⟨w,hw,by rw[OG,Ul];rfl⟩
 |k+1,j,hj,run,w,hw,hm=>by
  rcases JF j with z|z
  .subst z;exact⟨w,hw,by rw[OG,Ul];rfl⟩
  .have hd:(j-1)%2<2:=X;have hj2:j=((j-1)%2+1)+2*((j-1)/2):=X;generalize hde:(j-1)%2=d at hd hj2;generalize hqe:(j-1)/2=q at hj2
   have e:j*w=(d+1)*w+q*(w*2):=by
    rw[hj2,RU,Qb 2 q,Xd,Qb 2 w]
   have a:w<=(d+1)*w:=Bf;rw[UM z,hde,hqe,Gi,Ft,Ag X,Aj hd,Ag X];obtain⟨w',g,h⟩:=cC n most f out rest k q X (run+(d+1)*w) (w*2) X X;exact⟨_,g,Bf⟩
def cD(n most:Y)(hn:1<=n):∀(l out:Bj) (r:Y),(∀p∈l,p<n)->Alz out+r+Alz l<=most->Ft n most out 0 1 (Fu n r l)=J (out++BH r 0++l)
 |[],out,r,_,hm=>by
  obtain⟨w',_,h⟩:=cC n most hn out [n+1] r r X 0 1 X X;rw[Fu,h,Ft,Ag X,Ag X,Aj Z,Aj Z,IX,EE,List.append_nil]
 |0::l,out,r,hl,hm=>by
  rw[Fu,cD n _ hn l _ _ Bf Bf,PW,<-Cq,Cq];rfl
 |(x+1)::l,out,r,hl,hm=>by
  have hx:=hl (x+1) Bh;obtain⟨w',_,h⟩:=cC n most hn out ((x+2)::Fu n 0 l) r r X 0 1 X X;rw[Fu,h,Ft,Ag X,Ag X,Ag X,Ag Bf,cD n _ hn l _ 0 Bf Bf];simp
def Akb{n most:Y}(a:1<=n){l:Bj}(hl:∀p∈l,p<n)(hm:Alz l<=most):Ft n most [] 0 1 (Fu n 0 l)=J l:=by
 rw[cD n _ a l _ 0 hl Bf];simp
def Wn(n:Y)(a:1<=n):∀(l:Bj) (r:Y),(∀p∈l,p<n)->∃k,Fu n r l=k++[n+1]/\(∀x∈k,x<=n)/\Alz k<=r+Alz l
 |[],r,_=>by
  refine⟨_,Z,fun x hx=>?_,by simpa using Yi r r X⟩
  have:∀m k,k<=m->∀x∈Ec k,x<=1:=fun m=>by
   induction m with
   |zero=>
    intro k h x hx;obtain rfl:k=0:=X;rw[OG]at hx;cases hx
   |succ m ih=>
    intro k h x hx;rcases JF k with z|z
    .grind
    .rw[UM z]at hx;grind
  have:=this r r X x hx;omega
 |0::l,r,hl=>by
  obtain⟨k,f,e,j⟩:=Wn n a l (r+1) Bf;exact⟨k,Ck,e,Bf⟩
 |(x+1)::l,r,hl=>by
  obtain⟨k,f,e,j⟩:=Wn n a l 0 Bf;obtain⟨g,d,t,q⟩:=Wn n a [] r Bh
  have i:=by
   rw[Fu]at d;exact List.append_inj_left' d Z
  refine⟨g++(x+2)::k,by rw[Fu,f,i];simp,fun y o=>?_,Bf⟩;grind
end Bz
namespace Bz
abbrev Tr:=Y×Y
def Gz(a b:Tr):Ar:=decide (a.1<b.1)||(decide (a.1=b.1) && decide (a.2<b.2))
def Fb:Ae Tr->Tr
 |[]=>(0,0)
 |a::l=>l.foldl (fun m x=>if Gz x m then x else m) a
def fillL{α:Type}[Inhabited α](l:Ae α)(k:Y):Ae α:=(l.set k (l.getLastD default)).dropLast
def YC{α:Type}:∀(l:Ae α) (k:Y) (h:k<Alz l),l.Perm (l[k]::l.eraseIdx k)
 |a::l,0,_=>Bh
 |a::l,k+1,h=>by
  have ih:=YC l k Bf;rw[List.eraseIdx_cons_succ,List.getElem_cons_succ];exact(ih.cons a).trans (Oe.swap _ _ _)
def vF{α:Type}[Inhabited α](l:Ae α)(k:Y)(h:k<Alz l):l.Perm (l[k]::fillL l k):=by
 rcases TO l with e|⟨a,x,e⟩
 .grind
 .rw[List.concat_eq_append]at e;subst e;have f:(a++[x]).getLastD default=x:=Bh;unfold fillL;rw[f];rw[Bx,CL]at h;rcases CM k (Alz a)with q|q
  .rw[TZ _ _ q,List.dropLast_concat,WO q]
   have i:=by
    exact YC a k q
   have g:=by
    have d:k<Alz (a.set k x):=by rwa[Hg]
    have:=YC _ k d;rwa[List.getElem_set_self,List.eraseIdx_set_eq]at this
   refine(List.perm_append_singleton x a).trans ?_;refine(i.cons x).trans ?_;refine(Oe.swap _ _ _).trans ?_;exact(g.symm).cons _
  .obtain rfl:k=Alz a:=X;simp
def fillL_length{α:Type}[Inhabited α](l:Ae α)(k:Y):Alz (fillL l k)=Alz l-1:=by
 unfold fillL;simp
def ZK:∀(l:Ae Tr),l≠[]->Fb l∈l/\∀x∈l,Gz x (Fb l)=Ai
 |[],h=>absurd Z h
 |a::l,_=>by
  have key:∀(l:Ae Tr) (m:Tr),(l.foldl (fun m x=>if Gz x m then x else m) m=m∨l.foldl (fun m x=>if Gz x m then x else m) m∈l)/\Gz m (l.foldl (fun m x=>if Gz x m then x else m) m)=Ai/\∀x∈l,Gz x (l.foldl (fun m x=>if Gz x m then x else m) m)=Ai:=fun l=>by
   induction l with
   |nil=>intro m;exact⟨Bh,by simp[Gz],Bh⟩
   |cons y l ih=>
    intro m;rw[Lf]
    have g:∀{p q r:Tr},Gz q p=Af∨q=p->Gz q r=Ai->Gz p r=Ai:=fun {p q r} f o=>by
     rcases f with f|rfl
     .simp only[Gz,Rz,Bool.and_eq_true,decide_eq_true_eq,Bool.or_eq_false_iff,Rx,decide_eq_false_iff_not]at f o ⊢;omega
     .omega
    split
    .grind
    .rename_i h;obtain⟨C,k,B⟩:=ih m;refine⟨?_,k,fun x d=>?_⟩
     .grind
     .rcases List.mem_cons.1 d with rfl|d
      .have n:Gz m x=Af∨m=x:=by
        simp[Gz,Bool.and_eq_true]at h ⊢;obtain⟨A,w⟩:=m;obtain⟨v,t⟩:=x;simp at h ⊢;omega
       grind
      .grind
  obtain⟨e,j,i⟩:=key l a;refine⟨?_,fun x d=>?_⟩
  .rcases e with e|e
   .show l.foldl _ a∈_;grind
   .exact Gl _ e
  .rcases List.mem_cons.1 d with rfl|d
   .exact j
   .exact i x d
def Do(l:Ae Tr):Tr×Ae Tr:=(Fb l,fillL l (l.idxOf (Fb l)))
def aB{l:Ae Tr}(h:l≠[]):l.Perm ((Do l).1::(Do l).2)/\∀x∈l,(Do l).1.1<=x.1:=by
 obtain⟨f,e⟩:=ZK l h;have d:=PU f;refine⟨?_,fun x a=>?_⟩
 .have:=vF l _ d;rwa[List.getElem_idxOf]at this
 .have:=e x a;simp only[Gz,Bool.or_eq_false_iff,Rx,decide_eq_false_iff_not]at this;show(Fb l).1<=x.1;omega
def grow:Y->Ae Tr->Bj->Y->Bj
 |0,_,over,_=>over
 |f+1,trees,over,next=>
  if Alz trees<=1 then over
  else grow f ((Do (Do trees).2).2++[((Do trees).1.1+(Do (Do trees).2).1.1,next)]) ((over.set (Do trees).1.2 next).set (Do (Do trees).2).1.2 next) (next+1)
def Fz(over:Bj):Y->Y->Y
 |0,_=>0
 |f+1,x=>if over.getD x 0=0 then 0 else Fz over f (over.getD x 0)+1
def grown(w:Bj):Bj:=
 let over:=grow (Alz w) (w.zipIdx) (BH (2*Alz w) 0) (Alz w)
 (BE (Alz w)).map (Fz over (2*Alz w))
def CS(l:Bj):Y:=l.foldr (·+·) 0
def Gh(a:Y)(l:Bj):CS (a::l)=a+CS l:=rfl
def To(a b:Bj):CS (a++b)=CS a+CS b:=by
 induction a with
 |nil=>simp[CS]
 |cons x a ih=>rw[Gi,Gh,Gh,ih,Lk]
def VT{a b:Bj}(h:a.Perm b):CS a=CS b:=by
 induction h with
 |nil=>rfl
 |cons x _ ih=>rw[Gh,Gh,ih]
 |swap x y l=>simp[Gh];omega
 |trans _ _ h1 h2=>omega
def VS{l:Bj}{m:Y}(h:∀x∈l,x<=m):CS l<=Alz l*m:=by
 induction l with
 |nil=>simp[CS]
 |cons x l ih=>
  have e:=h x Bh;have d:=ih (fun y a=>h y Bf);rw[Gh,CF,Qc];omega
def ow{l:Bj}{x:Y}(h:x∈l):x<=CS l:=by
 induction l with
 |nil=>grind
 |cons y l ih=>
  rw[Gh];grind
def Fh:Y->Y
 |0=>0
 |1=>1
 |n+2=>Fh n+Fh (n+1)
def vC:∀n,Fh n<=Fh (n+1)
 |0=>by decide
 |1=>by decide
 |n+2=>by
  have e2:Fh (n+2+1)=Fh _+Fh (n+2):=rfl;omega
def vB{a b:Y}(h:a<=b):Fh a<=Fh b:=by
 induction h with
 |refl=>simp
 |step _ ih=>exact BA ih (vC _)
structure Gw(n:Y)(trees:Ae Tr)(over:Bj)(next:Y)(ht:Y->Y)(M W:Y):Prop where
 len:Alz over=2*n
 sum:next+Alz trees=2*n
 G:n<=next
 lt:∀t∈trees,t.2<next
 nod:(trees.map (·.2)).Nodup
 zero:∀t∈trees,over.getD t.2 0=0
 up:∀y,next<=y->over.getD y 0=0
 dn:∀y,over.getD y 0≠0->y<over.getD y 0/\over.getD y 0<next
 fib2:∀t∈trees,Fh (ht t.2+2)<=t.1/\Fh (ht t.2+1)<=M/\M<=t.1
 tot:CS (trees.map (·.1))=W
def jt{l:Bj}{i j v:Y}(h:i<Alz l):(l.set i v).getD j 0=if i=j then v else l.getD j 0:=by
 grind
def Gw.step{n:Y}{d:Ae Tr}{over:Bj}{next:Y}{ht:Y->Y}{M W:Y}(h:Gw n d over next ht M W)(h2:2<=Alz d){a b:Tr}{l1 l2:Ae Tr}(ea:Do d=(a,l1))(eb:Do l1=(b,l2)):
 d.Perm (a::b::l2)/\a.2≠b.2/\a.2<next/\b.2<next/\next<2*n/\
 Gw n (l2++[(a.1+b.1,next)]) ((over.set a.2 next).set b.2 next) (next+1) (fun x=>if x=next then 1+max (ht a.2) (ht b.2)else ht x) b.1 W:=by
 have o:d≠[]:=Bf;obtain⟨A,B⟩:=aB o;rw[ea]at A B;have T:Alz l1+1=Alz d:=A.length_eq▸Z;have j:l1≠[]:=Bf;obtain⟨p2,m2⟩:=aB j;have l:d.Perm (a::b::l2):=Bf;have E:a∈d:=Bf;have m:b∈d:=Bf;have g:∀x∈l2,x∈d:=Bf;have V:a.1<=b.1:=B b m;have r:∀x∈l2,b.1<=x.1:=Bf;have k:((a::b::l2).map (·.2)).Nodup:=(l.map (·.2)).nodup_iff.1 h.nod;simp only[Cm,TX,List.mem_cons,not_or]at k;obtain⟨⟨I,n2⟩,n3,G⟩:=k;have L:=h.lt a E;have K:=h.lt b m;have S:Alz d=Alz l2+2:=l.length_eq▸Z;have hs:=h.sum;have D:=h.len;have C:=h.G
 have go:∀y,((over.set a.2 next).set b.2 next).getD y 0=if b.2=y then next else if a.2=y then next else over.getD y 0:=fun y=>by
  grind
 have p:∀x∈l2,x.2≠a.2/\x.2≠b.2:=Bf;refine⟨l,I,L,K,X,?_⟩;refine⟨Bf,Bf,X,?_,?_,?_,?_,?_,?_,?_⟩
 .intro t f;rcases CW.1 f with q|q
  .have:=h.lt t (g t q);omega
  .grind
 .rw[DW,LV,WS];refine⟨G,Bh,fun x Q y i=>?_⟩;obtain⟨z,P,rfl⟩:=Cr.1 Q;rw[Cp.1 i];have:=h.lt z (g z P);omega
 .intro t f;rw[go];rcases CW.1 f with q|q
  .have:=p t q;rw[Ag (fun e=>this.2 e.symm),Ag (fun e=>this.1 e.symm)];exact h.zero t (g t q)
  .rw[Cp.1 q];show(if b.2=next then next else if a.2=next then next else over.getD next 0)=0;rw[Ag X,Ag X];exact h.up next (Bq _)
 .intro y i;rw[go,Ag X,Ag X];exact h.up y X
 .intro y i;rw[go]at i ⊢;split
  .omega
  .split
   .omega
   .rename_i w v;rw[Ag w,Ag v]at i;have:=h.dn y i;omega
 .intro t f;rcases CW.1 f with q|q
  .have l3:=h.lt t (g t q);have w:=h.fib2 t (g t q);have v:=r t q;have q3:=(h.fib2 b m).2.2;grind
  .rw[Cp.1 q];simp only[if_true];obtain⟨a1,a2,a3⟩:=h.fib2 a E;obtain⟨b1,b2,b3⟩:=h.fib2 b m
   have N:∀x y:Y,Fh (x+2)<=a.1->Fh (x+1)<=M->Fh (y+2)<=b.1->Fh (y+1)<=M->Fh (1+max x y+2)<=a.1+b.1/\Fh (1+max x y+1)<=b.1:=fun x y c1 c2 c3 c4=>by
    rcases Ug x y with q|q
    .rw[Nat.max_eq_right q,show 1+y+2=(y+1)+2 by omega,show 1+y+1=y+2 by omega];refine⟨?_,c3⟩;show Fh (y+1)+Fh (y+2)<=_;omega
    .rw[Nat.max_eq_left q,show 1+x+2=(x+1)+2 by omega,show 1+x+1=x+2 by omega];refine⟨?_,X⟩;show Fh (x+1)+Fh (x+2)<=_;omega
   grind
 .have e:=VT (l.map (·.1));rw[h.tot]at e;rw[DW,LV,To,e];simp only[Cm,Gh,CS,List.foldr];omega
structure Dp(over:Bj)(d:Y->Y):Prop where
 zero:∀x,over.getD x 0=0->d x=0
 succ:∀x,over.getD x 0≠0->d x=d (over.getD x 0)+1
def jC:∀(f n:Y) (trees:Ae Tr) (over:Bj) (next:Y) (ht:Y->Y) (M W:Y),Gw n trees over next ht M W->Alz trees<=f+1->1<=Alz trees->
 Alz (grow f trees over next)=2*n/\(∀y,over.getD y 0≠0->(grow f trees over next).getD y 0=over.getD y 0)/\(∀y,(grow f trees over next).getD y 0≠0->y<(grow f trees over next).getD y 0/\(grow f trees over next).getD y 0<2*n)/\
 ∀d,Dp (grow f trees over next) d->∃hr,Fh (hr+2)<=W/\(∀t∈trees,d t.2+ht t.2<=hr)/\∀D,hr<=D->CS (trees.map fun t=>2 ^ (D-d t.2))=2 ^ D:=by
 intro f
 induction f with
 |zero=>
  intro n trees over next ht M W h S h1;have base:Alz trees=1:=X
  match trees,base with
  |[t],_=>
   have I:=h.sum;refine⟨h.len,fun y _=>rfl,fun y i=>?_,fun d g=>?_⟩
   .have:=h.dn y i;exact⟨this.1,by show over.getD y 0<2*n;omega⟩
   .have m:=g.zero _ (h.zero t Bh);have o:=h.tot;simp only[Cm,Em,CS,List.foldr]at o;refine⟨ht t.2,by have:=(h.fib2 t Bh).1;omega,fun x p=>?_,fun D _=>?_⟩
    .rw[Cp.1 p,m];omega
    .simp[CS,m]
 |succ f ih=>
  intro n trees over next ht M W h S h1;unfold grow;split
  .rename_i N;have base:Alz trees=1:=X
   match trees,base with
   |[t],_=>
    have I:=h.sum;refine⟨h.len,fun y _=>rfl,fun y i=>?_,fun d g=>?_⟩
    .have:=h.dn y i;omega
    .have m:=g.zero _ (h.zero t Bh);have o:=h.tot;simp[CS]at o;refine⟨ht t.2,by have:=(h.fib2 t Bh).1;omega,fun x p=>?_,fun D _=>?_⟩
     .rw[Cp.1 p,m];omega
     .simp[CS,m]
  .rename_i P;obtain⟨a,l1,ea⟩:∃a l1,Do trees=(a,l1):=⟨_,_,Z⟩;obtain⟨b,l2,eb⟩:∃b l2,Do l1=(b,l2):=⟨_,_,Z⟩;obtain⟨k,l,la,lb,L,Q⟩:=h.step X ea eb;simp only[ea,eb];have hl:Alz trees=Alz l2+2:=k.length_eq▸Z;obtain⟨g1,r,g3,g4⟩:=ih n _ _ _ _ _ _ Q (by rw[Bx,CL];omega) (by rw[Bx,CL];omega);have A:=h.len
   have go:∀y,((over.set a.2 _).set b.2 _).getD y 0=if b.2=y then next else if a.2=y then next else over.getD y 0:=fun y=>by
    rw[jt (by simp;omega),jt X]
   have K:next≠0:=X;have V:a∈trees:=k.symm.subset Bh;have T:b∈trees:=k.symm.subset Bh;refine⟨g1,fun y i=>?_,g3,fun d g=>?_⟩
   .have e:((over.set a.2 next).set b.2 next).getD y 0=over.getD y 0:=by
     rw[go,Ag (fun e=>by subst e;exact i (h.zero b T)),Ag (fun e=>by subst e;exact i (h.zero a V))]
    rw[r y X,e]
   .obtain⟨hr,f1,B,f3⟩:=g4 d g;have w:=r a.2 (by rwa[go,Ag (fun e=>l e.symm),Aj Z]);have v:=r b.2 (by rwa[go,Aj Z]);rw[go,Ag (fun e=>l e.symm),Aj Z]at w;rw[go,Aj Z]at v;have E:=g.succ a.2 X;have C:=g.succ b.2 X;rw[w]at E;rw[v]at C;have fn:=B (a.1+b.1,next) Bh;simp only[if_true]at fn;refine⟨hr,f1,fun t j=>?_,fun D hD=>?_⟩
    .rcases List.mem_cons.1 (k.subset j)with rfl|q
     .omega
     .rcases List.mem_cons.1 q with rfl|q
      .omega
      .have l3:=h.lt t j;have:=B t (CW.2 (.inl q));rwa[Ag X]at this
    .have e:=f3 D hD;rw[DW,LV,To]at e;rw[VT (k.map _)];simp only[Cm,Gh,E,C]
     have G:2 ^ (D-d next)=2 ^ (D-(d next+1))+2 ^ (D-(d next+1)):=by
      rw[show D-d next=(D-(d next+1))+1 by omega,Kr];omega
     have e1:CS [2 ^ (D-d next)]=2 ^ (D-d next):=by simp[CS]
     rw[e1,G]at e;omega
def Qv(over:Bj)(f x:Y):Fz over (f+1) x=if over.getD x 0=0 then 0 else Fz over f (over.getD x 0)+1:=rfl
def gA{over:Bj}{n:Y}(h:∀y,over.getD y 0≠0->y<over.getD y 0/\over.getD y 0<n):∀f x,n<=f+x->Fz over f x=Fz over (f+1) x
 |0,x,hx=>by
  rw[Qv];split
  .rfl
  .grind
 |f+1,x,hx=>by
  rw[Qv,Qv];split
  .rfl
  .rename_i z;have:=h x z;rw[gA h f _ X]
def yQ{w:Bj}{t:Tr}(h:t∈w.zipIdx):t.2<Alz w/\w.getD t.2 0=t.1:=by
 grind
def ot{w:Bj}(h1:∀x∈w,1<=x)(h2:1<=Alz w):Gw (Alz w) w.zipIdx (BH (2*Alz w) 0) (Alz w) (fun _=>0) 1 (CS w):=by
 have z:∀y,(BH (2*Alz w) 0).getD y 0=0:=Bf;refine⟨Bh,by simp;omega,X,Bf,?_,fun t _=>z _,fun y _=>z y,Bf,fun t a=>?_,?_⟩
 .have e:w.zipIdx.map (·.2)=Hh 0 (Alz w):=Bh;grind
 .have:=yQ a
  have d:t.1∈w:=by
   rw[<-this.2,Cd,BQ X];simp
  have:=h1 _ d;exact⟨this,Bq _,this⟩
 .simp
structure Lens(l:Bj)(n:Y):Prop where
 len:Alz l=n
 pos:∀x∈l,1<=x
 kraft:(∀x∈l,x<=20)->CS (l.map fun x=>2 ^ (20-x))=2 ^ 20
def YZ{w:Bj}(h1:∀x∈w,1<=x)(h2:2<=Alz w):Lens (grown w) (Alz w)/\∃hr,Fh (hr+2)<=CS w/\∀x∈grown w,x<=hr:=by
 have g:=ot h1 X;obtain⟨I,G,v,r⟩:=jC (Alz w) (Alz w) _ _ _ _ _ _ g (by rw[TU];omega) (by rw[TU];omega);obtain⟨k8,hO⟩:∃k8,k8=grow (Alz w) w.zipIdx (BH (2*Alz w) 0) (Alz w):=Bh;rw[<-hO]at I G v r;have p:grown w=(BE (Alz w)).map (Fz k8 (2*Alz w)):=hO▸Z
 have E:Dp k8 (Fz k8 (2*Alz w)):=by
  obtain⟨f,hf⟩:∃f,2*Alz w=f+1:=⟨2*Alz w-1,X⟩;have d:=gA v;refine⟨fun x a=>?_,fun x a=>?_⟩
  .rw[hf,Qv,Aj a]
  .have e:=d (2*Alz w) x X;rw[e,Qv,Ag a]
 obtain⟨hr,L,K,y⟩:=r _ E
 have N:∀D,(w.zipIdx.map fun t=>2 ^ (D-Fz k8 _ _))=(grown w).map fun x=>2 ^ (D-x):=fun D=>by
  rw[p,EV]
  have e:w.zipIdx.map (·.2)=BE (Alz w):=by
   rw[RS];simp
  rw[<-e,EV];rfl
 have k:∀x∈grown w,x<=hr:=fun x a=>by
  rw[p]at a;obtain⟨i,n,rfl⟩:=Cr.1 a;have m:=DX.1 n;have:=K (w[i],i) Bf;omega
 refine⟨⟨Bf,fun x a=>?_,fun o=>?_⟩,_,L,k⟩
 .rw[p]at a;obtain⟨i,n,rfl⟩:=Cr.1 a;have m:=DX.1 n;rcases JF (Fz k8 (2*Alz w) i)with z|z
  .exfalso;have e:=y hr (Bq _);have C:(w[i],i)∈w.zipIdx:=Bf
   obtain⟨j,Q,A⟩:∃j,j<Alz w/\j≠i:=by
    rcases JF i with q|q
    .exact⟨1,X,X⟩
    .exact⟨0,X,X⟩
   have h:=List.perm_cons_erase C;have B:(w[j],j)∈w.zipIdx.erase (w[i],i):=Bf;rw[VT (h.map _),Cm,Gh]at e;change 2 ^ (hr-Fz k8 _ i)+_=2 ^ hr at e;rw[z,Nat.sub_zero]at e;have S:=ow (Cr.2 Bf:2 ^ (hr-Fz k8 (2*Alz w) j)∈(w.zipIdx.erase (w[i],i)).map fun t=>2 ^ (hr-Fz k8 (2*Alz w) t.2));grind
  .omega
 .have e:=y (hr+20) X;rw[N]at e
  have P:∀l:Ae _,(∀x∈l,x<=20)->CS (l.map fun x=>2 ^ (hr+20-x))=2 ^ hr*CS (l.map fun x=>2 ^ (20-x)):=fun l=>by
   induction l with
   |nil=>intro _;rfl
   |cons x l ih=>
    intro a;have q:=a x Bh;rw[Cm,Cm,Gh,Gh,ih Bf,Nat.mul_add,show hr+20-x=hr+(20-x) by omega,Uk]
  rw[P _ o,Uk]at e;exact Nat.eq_of_mul_eq_mul_left Bf e
def LB:Y->Bj->Bj
 |0,w=>grown w
 |f+1,w=>if(grown w).all (fun x=>decide (x<=17))then grown w else LB f (w.map fun x=>x/2+1)
def ZL:∀(f:Y) (w:Bj),(∀x∈w,1<=x/\x<=2 ^ f+1)->2<=Alz w->Alz w<=258->Lens (LB f w) (Alz w)/\∀x∈LB f w,x<=17
 |0,w,h,h2,h3=>by
  obtain⟨h4,hr,h5,h6⟩:=YZ Bf h2;refine⟨h4,fun x hx=>?_⟩;have h7:=h6 x hx;have h8:=VS (l:=w) (m:=2) Bf;rcases CM hr 18 with q|q
  .omega
  .have:=vB (show 20<=hr+2 by omega);have e:Fh 20=6765:=by decide
   omega
 |f+1,w,h,h2,h3=>by
  unfold LB;split
  .rename_i q;refine⟨(YZ Bf h2).1,fun x hx=>?_⟩;grind
  .have:=ZL f (w.map fun x=>x/2+1) Bf Bf Bf;grind
end Bz
namespace Bz
def Cz(l:Bj)(n:Y):Y:=l.count n
def fst(l:Bj):Y->Y
 |0=>0
 |n+1=>2*(fst l n+Cz l n)
def FX(l:Bj):Y->Y
 |0=>0
 |n+1=>FX l n+Cz l n
def Mt(l:Bj)(n:Y):Bj:=(BE (Alz l)).filter fun i=>decide (l.getD i 0=n)
def longest(l:Bj):Y:=l.foldl max 0
def Dt(l:Bj)(m:Y):Bj:=(BE m).flatMap fun n=>Mt l (n+1)
def MG(l:Bj)(i:Y):Y:=(l.take i).count (l.getD i 0)
def KB(l:Bj)(i:Y):Y:=fst l (l.getD i 0)+MG l i
def jm(l:Bj):∀m,m<=l.foldl max m/\(∀x∈l,x<=l.foldl max m)/\(l.foldl max m=m∨l.foldl max m∈l):=by
 induction l with
 |nil=>simp
 |cons y l ih=>
  intro m;obtain⟨f,e,d⟩:=ih (max m y);rw[Lf];refine⟨X,fun x a=>?_,?_⟩
  .rcases List.mem_cons.1 a with rfl|a
   .omega
   .grind
  .grind
def Vf{l:Bj}{x:Y}(h:x∈l):x<=longest l:=(jm l 0).2.1 x h
def yB{l:Bj}{m:Y}(h:∀x∈l,x<=m):longest l<=m:=by
 rcases(jm l 0).2.2 with q|q
 .unfold longest;omega
 .exact h _ q
def Vb(l:Bj)(n:Y):Alz (Mt l n)=Cz l n:=by
 unfold Mt Cz
 induction l using bp with
 |h0=>rfl
 |h1 l a ih=>
  rw[Bx,CL,FT,Le,Bx,List.count_append,List.count_singleton]
  have e:(BE (Alz l)).filter (fun i=>decide ((l++[a]).getD i 0=n))=(BE (Alz l)).filter fun i=>decide (l.getD i 0=n):=by
   apply List.filter_congr;intro i d;have:=DX.1 d;rw[Cd,Cd,FR this]
  grind
def ag(l:Bj):∀m,Alz (Dt l m)+Cz l 0=FX l (m+1)
 |0=>by rfl
 |m+1=>by
  have ih:=ag l m;unfold Dt at ih ⊢;rw[FT,IT,List.flatMap_singleton,Bx,Vb];show _=FX l _+Cz l _;omega
def jK{l:Bj}{i:Y}(h:i<Alz l):(Mt l (l.getD i 0))[MG l i]? =J i:=by
 have e:Mt l (l.getD i 0)=((BE i).filter fun j=>decide (l.getD j 0=l.getD i 0))++i::((Hh (i+1) (Alz l-(i+1))).filter fun j=>decide (l.getD j 0=l.getD i 0)):=by
  unfold Mt
  have d:BE (Alz l)=BE i++i::Hh (i+1) (Alz l-(i+1)):=by
   rw[RS,RS,show Alz l=i+((Alz l-(i+1))+1) by omega,<-List.range'_append_1,EE,WV];congr 3;omega
  rw[d,Le,LU,Aj Bh]
 have f:Alz ((BE i).filter fun j=>decide (l.getD j 0=l.getD i 0))=MG l i:=by
  have:=Vb (l.take i) (l.getD i 0);unfold Mt at this;rw[BW,Hi X]at this;unfold MG;rw[<-show Cz _ _=(l.take i).count _ from Z,<-this];congr 1;apply List.filter_congr;intro j a;have:=DX.1 a;rw[Cd (l:=l.take i),List.getElem?_take,Aj this,<-Cd]
 grind
def aE{l:Bj}{i:Y}(h:i<Alz l):MG l i<Cz l (l.getD i 0):=by
 have:=(Li.1 (jK h)).1;rwa[Vb]at this
def ae{l:Bj}(h0:Cz l 0=0){i m:Y}(h:i<Alz l)(h1:1<=l.getD i 0)(h2:l.getD i 0<=m):(Dt l m)[FX l (l.getD i 0)+MG l i]? =J i:=by
 obtain⟨n,hn⟩:∃n,l.getD i 0=n+1:=⟨l.getD i 0-1,X⟩;have d:=jK h;have a:=aE h;rw[hn]at d h2 a ⊢
 have e:Dt l m=Dt l n++(Mt l (n+1)++(Hh (n+1) (m-(n+1))).flatMap fun n=>Mt l (n+1)):=by
  unfold Dt
  have f:BE m=BE n++n::Hh (n+1) (m-(n+1)):=by
   rw[RS,RS,show m=n+((m-(n+1))+1) by omega,<-List.range'_append_1,EE,WV];congr 3;omega
  rw[f,IT,Gk]
 have g:=ag l n;grind
def tW(l:Bj)(n:Y):∀m,n<=20->m=n->(∀x∈l,1<=x)->(fst l n+Cz l n)*2 ^ (20-n)=CS ((l.filter fun x=>decide (x<=n)).map fun x=>2 ^ (20-x)):=by
 induction n with
 |zero=>
  intro m _ _ h;have e:l.filter (fun x=>decide (x<=0))=[]:=List.filter_eq_nil_iff.2 Bf;have d:Cz l 0=0:=List.count_eq_zero.2 Bf;rw[e,d];simp[fst,CS]
 |succ n a=>
  intro m f _ h;have a:=a n X Z h
  have split:∀k:Bj,CS ((k.filter fun x=>decide (x<=n+1)).map fun x=>2 ^ (20-x))=CS ((k.filter fun x=>decide (x<=n)).map fun x=>2 ^ (20-x))+k.count (n+1)*2 ^ (20-(n+1)):=fun k=>by
   induction k with
   |nil=>simp
   |cons x k ih2=>
    rw[LU,LU,List.count_cons];rcases Ui x (n+1)with q|q|q
    .rw[Aj Bv,Aj Bv,Ag Bv,Cm,Cm,Gh,Gh,ih2];grind
    .subst q;rw[Aj Bh,Ag Bh,Aj Bh,Cm,Gh,ih2,Qc];omega
    .grind
  rw[split,<-a];have e:2 ^ (20-n)=2*2 ^ (20-(n+1)):=by rw[show 20-n=(20-(n+1))+1 by omega,Kr];omega
  show(2*(fst l n+Cz l n)+Cz l _)*2 ^ (20-(n+1))=_;unfold Cz;grind
structure LOk(l:Bj):Prop where
 pos:∀x∈l,1<=x/\x<=20
 kraft:CS (l.map fun x=>2 ^ (20-x))<=2 ^ 20
def LOk.Ale{l:Bj}(h:LOk l):Cz l 0=0:=List.count_eq_zero.2 fun q=>by have:=(h.pos 0 q).1;omega
def LOk.top{l:Bj}(h:LOk l){n:Y}(d:n<=20):fst l n+Cz l n<=2 ^ n:=by
 have m:=tW l n n d Z fun x a=>(h.pos x a).1
 have g:∀k:Ae _,CS ((k.filter fun x=>decide (x<=n)).map fun x=>2 ^ (20-x))<=CS (k.map fun x=>2 ^ (20-x)):=fun k=>by
  induction k with
  |nil=>simp
  |cons x k ih=>
   rw[LU];split
   .rw[Cm,Cm,Gh,Gh];omega
   .rw[Cm,Gh];grind
 have j:=g l;have i:=h.kraft;have e:2 ^ 20=2 ^ n*2 ^ (20-n):=by rw[<-Uk];congr 1;omega
 have f:(fst l n+Cz l n)*2 ^ (20-n)<=2 ^ n*2 ^ (20-n):=X;exact Nat.le_of_mul_le_mul_right f Bf
def LOk.Alq{l:Bj}(h:LOk l){i:Y}(hi:i<Alz l):KB l i<2 ^ l.getD i 0:=by
 have a:=h.pos (l.getD i 0) Bf;have e:=h.top a.2;have d:=aE hi;unfold KB;omega
def Ms(l:Bj)(n c:Y):Prop:=0<Cz l n/\fst l n<=c/\c-fst l n<Cz l n
instance(l:Bj)(n c:Y):Decidable (Ms l n c):=by unfold Ms;infer_instance
def Qm(l:Bj)(c n:Y):Prop:=∃m,m<=longest l/\n<m/\0<Cz l m/\c*2 ^ (m-n)<fst l m+Cz l m
noncomputable def Pf(l:Bj)(s:By)(p:Y):Y->Y->Y->Av (Y×Y)
 |0,_,_=>Aa
 |f+1,n,c=>open Classical in
  if 8*Alz s<=p+n then Aa
  else if Ms l (n+1) (2*c+(Cj s (p+n)).toNat)then J ((Dt l (longest l)).getD (FX l (n+1)+(2*c+(Cj s (p+n)).toNat-fst l (n+1))) 0,p+n+1)
  else if Qm l (2*c+(Cj s (p+n)).toNat) (n+1)then Pf l s p f (n+1) (2*c+(Cj s (p+n)).toNat)
  else Aa
noncomputable def Nz(l:Bj)(s:By)(p:Y):Av (Y×Y):=Pf l s p 21 0 0
def jq(l:Bj)(n:Y):∀d,(fst l n+Cz l n)*2 ^ (d+1)<=fst l (n+d+1)
 |0=>by
  show(fst l n+Cz l n)*2 ^ 1<=2*(fst l n+Cz l n);omega
 |d+1=>by
  have ih:=jq l n d;show _<=2*(fst l (n+d+1)+Cz l (n+d+1));rw[Kr,<-Xd];omega
def Aex(L c n:Y)(a:n<L):c>>>(L-(n+1))=2*(c>>>(L-n))+(c.testBit (L-1-n)).toNat:=by
 rw[Nb,Nb,show L-n=(L-(n+1))+1 by omega,Kr,<-Xb,Nat.testBit_eq_decide_div_mod_eq,show L-1-n=L-(n+1) by omega];generalize c/2 ^ (L-(n+1))=q;rcases Nat.mod_two_eq_zero_or_one q with h|h
 .rw[h];simp;omega
 .rw[h];simp;omega
def lB{l:Bj}{L c i:Y}(d:L∈l)(g:fst l L<=c)(e:c-fst l L<Cz l L)(a:(Dt l (longest l))[FX l L+(c-fst l L)]? =J i){s:By}{p:Y}(h:DF s p (nb L c)):
 ∀(f n:Y),n<L->L<=f+n->Pf l s p f n (c>>>(L-n))=J (i,p+L)
 |0,n,h1,h2=>by omega
 |f+1,n,h1,h2=>by
  have hle:=h.1;rw[nb_length]at hle;have hb:=h.2 n (by rw[nb_length];omega);rw[Cd,Vk h1]at hb;have hb':Cj s _=c.testBit _:=hb;have hsh:=Aex L c n h1;unfold Pf;rw[Ag X,hb',<-hsh];rcases CM (n+1) L with q|q
  .have hnh:¬Ms l (n+1) (c>>>(L-(n+1))):=by
    rintro⟨_,r,o⟩;have k:=jq l (n+1) (L-(n+1)-1);rw[show n+1+(L-(n+1)-1)+1=L by omega,show L-(n+1)-1+1=L-(n+1) by omega]at k;have m:c>>>(L-(n+1))<fst l (n+1)+Cz l (n+1):=X;rw[Nb,Nat.div_lt_iff_lt_mul Bf]at m;omega
   have j:Qm l (c>>>(L-(n+1))) (n+1):=by
    refine⟨L,Vf d,q,X,?_⟩;rw[Nb];have:=Nat.div_mul_le_self c (2 ^ (L-(n+1)));omega
   rw[Ag hnh,Aj j];exact lB d g e a h f _ q X
  .obtain rfl:n+1=L:=X;rw[EY,Nat.shiftRight_zero,Aj ⟨X,g,e⟩,Cd,a];rfl
def zt{l:Bj}(h:LOk l){i:Y}(hi:i<Alz l){s:By}{p:Y}(g:DF s p (nb (l.getD i 0) (KB l i))):Nz l s p=J (i,p+l.getD i 0):=by
 have a:l.getD i 0∈l:=by rw[Cd,BQ hi];simp
 have k:=h.pos _ a;have j:=aE hi;have f:=ae h.Ale hi k.1 (Vf a);have e:KB l i-fst l (l.getD i 0)=MG l i:=by unfold KB;omega
 have:=lB a (i:=i) (by unfold KB;omega) X Bf g 21 0 X X;have d:=h.Alq hi;rwa[Nat.sub_zero,Nb,Nat.div_eq_of_lt d]at this
noncomputable def Gm(l:Bj)(s:By)(fin:Y):Y->Y->Av (Bj×Y)
 |0,p=>J ([],p)
 |k+1,p=>match Nz l s p with
  |none=>Aa
  |some (x,q)=>if x=fin then J ([x],q)else(Gm l s fin k q).map fun r=>(x::r.1,r.2)
def Lq(l:Bj)(x:Y):Bs:=nb (l.getD x 0) (KB l x)
def Xr{l:Bj}(h:LOk l){s:By}{a:Y}:∀(xs:Bj) (k p:Y),(∀x∈xs,x<Alz l)->(∀y ys,xs=ys++[y]->∀x∈ys,x≠a)->Alz xs<=k->(Alz xs=k∨xs.getLast? =J a)->DF s p (xs.flatMap (Lq l))->Gm l s a k p=J (xs,p+Alz (xs.flatMap (Lq l)))
 |[],k,p,_,_,_,h3,_=>by
  rcases h3 with h3|h3
  .obtain rfl:k=0:=by simpa using h3.symm
   rfl
  .grind
 |x::xs,0,p,_,_,h2,_,_=>by grind
 |x::xs,k+1,p,h0,h1,h2,h3,hs=>by
  have j:=h0 x Bh;have e:=zt h j hs.left;have f:=hs.right;have g:Alz (Lq l x)=l.getD x 0:=nb_length _ _;rw[g]at f;unfold Gm;rw[e];simp only;rcases TO xs with z|⟨ys,y,z⟩
  .subst z;split
   .grind
   .rename_i q;rcases h3 with h3|h3
    .obtain rfl:k=0:=by simpa using h3.symm
     simp[Gm,g]
    .grind
  .have m:=h1 y (x::ys) Bf x Bh
   have d:Alz xs=k∨xs.getLast? =J a:=by
    rcases h3 with h3|h3
    .grind
    .grind
   rw[Xr h xs k (p+l.getD x 0) Bf (fun u i o v n=>h1 u (x::i) Bf v Bf) Bf d f];simp_all;omega
def HA(now x:Y):Bs:=(BH (x-now) [Af,Ai]).flatten++(BH (now-x) [Af,Af]).flatten++[Ai]
def HS:Y->Bj->Bs
 |_,[]=>[]
 |now,x::l=>HA now x++HS x l
def dShow(l:Bj):Bs:=nb 5 (l.headD 0)++HS (l.headD 0) l
def Fy(s:By):Y->Y->Y->Y->Bj->Av (Bj×Y)
 |_,p,0,_,acc=>J (acc,p)
 |0,_,_+1,_,_=>Aa
 |f+1,p,k+1,now,acc=>
  if now<1∨20<now then Aa
  else if 8*Alz s<=p then Aa
  else if Cj s p=Ai then Fy s f (p+1) k now (acc++[now])
  else if 8*Alz s<=p+1 then Aa
  else Fy s f (p+2) (k+1) (if Cj s (p+1)then now-1 else now+1) acc
def NK{s:By}{p:Y}{b:Ar}{l:Bs}(h:DF s p (b::l)):p<8*Alz s/\Cj s p=b/\DF s (p+1) l:=by
 have a:=h.1;rw[CF]at a;exact⟨X,by simpa using h.2 0 Bh,by have:=DF.right (l:=[b]) h;omega⟩
def ga{s:By}{x:Y}(hx:x<=20){rest:Bs}{k:Y}{acc:Bj}:∀(d f p now:Y),now+d=x->1<=now->DF s p ((BH d [Af,Ai]).flatten++rest)->2*d<=f->Fy s f p (k+1) now acc=Fy s (f-d) (p+2*d) (k+1) x acc
 |0,f,p,now,h1,_,_,_=>by grind
 |d+1,f,p,now,h1,h2,hs,hf=>by
  obtain⟨f,rfl⟩:∃g,f=g+1:=⟨f-1,X⟩;obtain⟨a1,a2,a3⟩:=NK hs;obtain⟨b1,b2,b3⟩:=NK a3;rw[Fy,Ag X,Ag X,Ag Bf,Ag X,b2];rw[Ag Bh,ga hx d f _ _ X X b3 X];grind
def fY{s:By}{x:Y}(hx:1<=x){rest:Bs}{k:Y}{acc:Bj}:∀(d f p now:Y),x+d=now->now<=20->DF s p ((BH d [Af,Af]).flatten++rest)->2*d<=f->Fy s f p (k+1) now acc=Fy s (f-d) (p+2*d) (k+1) x acc
 |0,f,p,now,h1,_,_,_=>by grind
 |d+1,f,p,now,h1,h2,hs,hf=>by
  obtain⟨f,rfl⟩:∃g,f=g+1:=⟨f-1,X⟩;obtain⟨a1,a2,a3⟩:=NK hs;obtain⟨b1,b2,b3⟩:=NK a3;rw[Fy,Ag X,Ag X,Ag Bf,Ag X,b2];rw[Aj Z,fY hx d f _ _ X X b3 X];grind
def YL(b c:Ar):∀d,Alz ((BH d [b,c]).flatten)=2*d
 |0=>rfl
 |d+1=>by simp;omega
def fX{s:By}:∀(l:Bj) (f p now:Y) (acc:Bj),(∀x∈l,1<=x/\x<=20)->1<=now/\now<=20->DF s p (HS now l)->Alz (HS now l)<=f->Fy s f p (Alz l) now acc=J (acc++l,p+Alz (HS now l))
 |[],f,p,now,acc,_,_,_,_=>by
  have e:Fy s f p 0 now acc=J (acc,p):=by cases f<;>rfl
  rw[ET,e];simp[HS]
 |x::l,f,p,now,acc,hl,hn,hs,hf=>by
  have d:=hl x Bh;unfold HS HA at hs hf ⊢;simp only[Bx,YL,CL]at hf;rw[Cq,Cq]at hs;have a:=hs.right;rw[YL]at a;have h:=a.right;rw[YL]at h;rw[CF]
  have e:Fy s f p (Alz l+1) now acc=Fy s (f-(x-now)-(now-x)) (p+2*(x-now)+2*(now-x)) (Alz l+1) x acc:=by
   rcases Ug now x with q|q
   .have z:now-x=0:=X;rw[z,Nat.mul_zero,JD,Nat.sub_zero];exact ga d.2 _ f p _ X hn.1 hs X
   .have z:x-now=0:=X;rw[z,Nat.mul_zero,JD,Nat.sub_zero];rw[z]at a;exact fY d.1 _ f p _ X hn.2 a X
  obtain⟨m,k,j⟩:=NK h;obtain⟨g,i⟩:∃g,f-(x-now)-(now-x)=g+1:=⟨f-(x-now)-(now-x)-1,X⟩;rw[e,i,Fy,Ag X,Ag X,Aj k,fX l g _ x _ Bf d j X];simp;omega
end Bz
namespace Bz
structure Pl where
 v:Ae (Bj)
 C:Bj
structure Pl.q(p:Pl)(n:Y):Prop where
 v:2<=Alz p.v/\Alz p.v<=6
 C:1<=Alz p.C/\Alz p.C<=32767
 len:∀t∈p.v,Alz t=n
 G:3<=n/\n<=258
 ok:∀t∈p.v,LOk t
 lt:∀k∈p.C,k<Alz p.v
def grpN(m:Y):Y:=(m+49)/50
def Ez(l:Bj)(k:Y):Bj:=(l.drop (50*k)).take 50
def Gs(m:Y):Y:=if m<200 then 2 else if m<600 then 3 else if m<1200 then 4 else if m<2400 then 5 else 6
def Iw(t g:Bj):Y:=CS (g.map fun s=>t.getD s 0)
def KK(w:Bj):Bj:=LB 31 (w.map fun x=>max x 1)
def FI(w:Bj)(i j:Y):Prop:=max (w.getD j 0) 1<max (w.getD i 0) 1∨(max (w.getD j 0) 1=max (w.getD i 0) 1/\i<j)
instance(w:Bj)(i j:Y):Decidable (FI w i j):=by unfold FI;infer_instance
def Po(w:Bj)(j:Y):Y:=Alz ((BE (Alz w)).filter fun i=>decide (FI w i j))
def Gp(w:Bj):Bj:=(BE (Alz w)).map fun i=>if Po w i<2 ^ (Ed (Alz w)+1)-Alz w then Ed (Alz w)else Ed (Alz w)+1
def dY(w:Bj)(i:Y):¬FI w i i:=by unfold FI;omega
def dZ{w:Bj}{i j k:Y}(h:FI w i j)(h2:FI w j k):FI w i k:=by unfold FI at*;omega
def rU(w:Bj){i j:Y}(h:i≠j):FI w i j∨FI w j i:=by unfold FI;omega
structure IsOw(w:Bj)(o:Bj):Prop where
 perm:o.Perm (BE (Alz w))
 sorted:o.Pairwise (FI w)
def IsOw.ex(w:Bj):∃o,IsOw w o:=by
 refine⟨(BE _).mergeSort fun i j=>decide (i=j∨FI w i j),TW _ _,?_⟩
 have g:=dJ (le:=fun i j=>decide (i=j∨FI w i j)) (fun a b c f d=>by
  simp at f d ⊢;rcases f with rfl|f
  .omega
  .rcases d with rfl|d
   .grind
   .exact .inr (dZ f d)) (fun a b=>by
  simp;rcases NX (a=b)with e|e
  .omega
  .rcases rU w e with q|q
   .grind
   .grind) (BE (Alz w))
 have h:((BE (Alz w)).mergeSort fun i j=>decide (i=j∨FI w i j)).Nodup:=(TW _ _).nodup_iff.2 RR;refine HK.imp₂ ?_ g h;grind
def IsOw.rank{w o:Bj}(h:IsOw w o){p:Y}(l:p<Alz o):Po w o[p]=p:=by
 unfold Po;rw[<-(h.perm.filter _).length_eq];have e:o=o.take p++o[p]::o.drop (p+1):=by rw[<-DD,Hx]
 have f:=h.sorted
 have g:∀x∈o.drop (p+1),FI w o[p] x:=fun x a=>by
  rw[e]at f;exact(Iq.1 Bf).1 x a
 have k:(o.take p).filter (fun i=>decide (FI w i o[p]))=o.take p:=WM.2 Bf
 have j:(o.drop _).filter (fun i=>decide _)=[]:=List.filter_eq_nil_iff.2 fun x a=>by
  have:=g x a;simp;exact fun q=>dY w _ (dZ q this)
 have d:∀q,q=p->Alz (o.filter _)=p:=fun q _=>by
  have:o.filter (fun i=>decide (FI w i o[p]))=(o.take p++o[p]::o.drop (p+1)).filter fun i=>decide (FI w i o[p]):=Bh;rw[this,Le,LU,Ag (by simpa using dY w _),k,j,List.append_nil,BW];omega
 grind
def jg{w:Bj}(h2:2<=Alz w)(I:Alz w<=258):LOk (Gp w):=by
 have a:Alz w≠0:=X;have E:=Nat.log2_self_le a;have D:Alz w<2 ^ (Ed _+1):=Nat.lt_log2_self;have C:Ed _<9:=(Uh a).2 X;generalize l:Ed _=k at*;have r:Gp w=(BE (Alz w)).map fun i=>if Po w i<2 ^ (k+1)-Alz w then k else k+1:=by unfold Gp;rw[l]
 refine⟨fun x G=>?_,?_⟩
 .grind
 .obtain⟨o,d⟩:=IsOw.ex w;rw[r,EV,<-VT (d.perm.map _)];have g:Alz o=Alz w:=by rw[d.perm.length_eq,Hf]
  have e:o.map ((fun x=>2 ^ (20-x))∘fun i=>if Po w i<2 ^ (k+1)-Alz w then k else k+1)=(BE (Alz w)).map fun p=>if p<2 ^ (k+1)-Alz w then 2 ^ (20-k)else 2 ^ (20-(k+1)):=by
   apply He;intro p;rcases CM p (Alz w)with q|q
   .rw[DV,BQ X,DV,MY q,FU,FU];show J (2 ^ (20-if Po w _<_ then k else k+1))=_;rw[d.rank];grind
   .grind
  rw[e]
  have part:∀(A B m n:Y),m<=n->CS ((BE n).map fun p=>if p<m then A else B)=m*A+(n-m)*B:=fun A B m n=>by
   induction n with
   |zero=>
    intro h;obtain rfl:m=0:=X;simp[CS]
   |succ n ih=>
    intro h;rw[FT,DW,To,LV];rcases CM n m with q|q
    .obtain rfl:m=n+1:=X;have f:(BE n).map (fun p=>if p<n+1 then A else B)=(BE n).map fun p=>if p<n then A else B:=Kl Bf
     have y:CS ((BE n).map fun p=>if p<n then A else B)=n*A:=by
      have:(BE n).map (fun p=>if p<n then A else B)=BH n A:=by
       apply He;intro p;rcases CM p n with z|z
       .grind
       .grind
      rw[this];clear this f q ih h
      induction n with
      |zero=>simp[CS]
      |succ n ih=>rw[JC,Gh,ih,Qc];omega
     rw[f,y,Aj X];simp only[CS,List.foldr,EY,Ul,Qc];omega
    .rw[ih q,Ag X];simp only[CS,List.foldr];rw[show n+1-m=(n-m)+1 by omega,Qc];omega
  have j:2 ^ (k+1)-Alz w<=Alz w:=X;rw[part _ _ _ _ j];have v:2 ^ (20-k)=2*2 ^ (20-(k+1)):=by rw[show 20-k=(20-(k+1))+1 by omega,Kr];omega
  have t:2 ^ 20=2 ^ (k+1)*2 ^ (20-(k+1)):=by rw[<-Uk];congr 1;omega
  rw[v,t];generalize 2 ^ (20-(k+1))=B;rw[<-Xd,<-RU];grind
def km{w:Bj}(h2:2<=Alz w)(g:Alz w<=258)(f:∀x∈w,x<=2147483648):LOk (KK w)/\Alz (KK w)=Alz w:=by
 obtain⟨a,e⟩:=ZL 31 (w.map fun x=>max x 1) Bf Bf Bf;refine⟨⟨fun x d=>⟨a.pos x d,by have:=e x d;omega⟩,?_⟩,a.len.trans Bh⟩;rw[show KK w=LB 31 _ from Z,a.kraft Bf];simp
def YM(w:Bj):Alz (Gp w)=Alz w:=by simp[Gp]
def UY{m:Y}(h:1<=m):1<=grpN m:=by unfold grpN;omega
def kD(m:Y):2<=Gs m/\Gs m<=6:=by
 unfold Gs;grind
def Hs:Bj->Bj->Bs
 |_,[]=>[]
 |l,p::ps=>BH (l.idxOf p) Af++Ai::Hs (EI l (l.idxOf p)) ps
def planBits(p:Pl):Bs:=nb 3 (Alz p.v)++(nb 15 (Alz p.C)++(Hs (BE (Alz p.v)) p.C++p.v.flatMap dShow))
def Ju(s:By)(most p:Y):Y->Y->Av (Y×Y)
 |0,_=>Aa
 |f+1,n=>if 8*Alz s<=p+n then Aa else if Cj s (p+n)=Ai then J (n,p+n+1)else if n=most then Aa else Ju s most p f (n+1)
def KN(s:By)(most:Y):Y->Bj->Y->Bj->Av (Bj×Y)
 |0,_,p,acc=>J (acc,p)
 |k+1,l,p,acc=>match Ju s most p (most+1) 0 with
  |none=>Aa
  |some (j,q)=>KN s most k (EI l j) q (acc++[l.getD j 0])
def JN(s:By)(p n:Y):Av (Bj×Y):=if 8*Alz s<p+5 then Aa else Fy s (8*Alz s-(p+5)) (p+5) n (num (BT s p 5)) []
noncomputable def KP(s:By)(n:Y):Y->Y->Ae (Bj)->Av (Ae (Bj)×Y)
 |0,p,acc=>J (acc,p)
 |k+1,p,acc=>match JN s p n with
  |none=>Aa
  |some (t,q)=>open Classical in if LOk t then KP s n k q (acc++[t])else Aa
noncomputable def MN(s:By)(p n:Y):Av (Pl×Y):=
 if 8*Alz s<p+3 then Aa
 else if num (BT s p 3)<2∨6<num (BT s p 3)then Aa
 else if 8*Alz s<p+3+15 then Aa
 else if num (BT s (p+3) 15)=0 then Aa
 else match KN s (num (BT s p 3)-1) (num (BT s (p+3) 15)) (BE (num (BT s p 3))) (p+18) []with
  |none=>Aa
  |some (picks,q)=>(KP s n (num (BT s p 3)) q []).map fun r=>(⟨r.1,picks⟩,r.2)
def Pv{s:By}{p n v:Y}(h:DF s p (nb n v))(hv:v<2 ^ n):p+n<=8*Alz s/\num (BT s p n)=v:=by
 have d:=h.1;have a:=h.bits;rw[nb_length]at d a;exact⟨d,by rw[a,zM hv]⟩
def pn{s:By}{most p:Y}:∀(k n f:Y),DF s (p+n) (BH k Af++[Ai])->n+k<=most->k<f->Ju s most p f n=J (n+k,p+(n+k)+1)
 |0,n,f,hs,_,hf=>by
  obtain⟨g,rfl⟩:∃g,f=g+1:=⟨f-1,X⟩;obtain⟨a1,a2,_⟩:=NK (l:=[]) (b:=Ai) (by simpa using hs);rw[Ju,Ag X,Aj a2];rfl
 |k+1,n,f,hs,hm,hf=>by
  obtain⟨g,rfl⟩:∃g,f=g+1:=⟨f-1,X⟩;obtain⟨a1,a2,a3⟩:=NK hs;rw[Ju,Ag X,Ag Bf,Ag X,pn k (n+1) g a3 X X];grind
def oH{s:By}{most:Y}:∀(ps l:Bj) (p:Y) (acc:Bj),Alz l=most+1->(∀x∈ps,x∈l)->DF s p (Hs l ps)->KN s most (Alz ps) l p acc=J (acc++ps,p+Alz (Hs l ps))
 |[],l,p,acc,_,_,_=>by simp[KN,Hs]
 |x::ps,l,p,acc,hl,hx,hs=>by
  have hm:=hx x Bh;have hlt:=PU hm;have e0:Hs l (x::ps)=(BH (l.idxOf x) Af++[Ai])++Hs (EI l (l.idxOf x)) ps:=by rw[Hs,Cq];rfl
  rw[e0]at hs ⊢;have g:=hs.left;have e:=hs.right;rw[Bx,Cn,CL]at e;have a:=pn (most:=most) _ 0 (most+1) X X X;rw[EE]at a;rw[CF,KN,a];simp only
  have d:l.getD (l.idxOf x) 0=x:=by
   rw[Cd,BQ hlt];simp
  rw[d,oH _ _ _ _ (by rw[Pa hlt];omega) (fun y f=>(SH hlt y).2 Bf) X];grind
def un{s:By}{p:Y}{t:Bj}(h:LOk t)(g:t≠[])(a:DF s p (dShow t)):JN s p (Alz t)=J (t,p+Alz (dShow t)):=by
 unfold dShow at a ⊢
 have i:∃x r,t=x::r:=by
  cases t with
  |nil=>grind
  |cons x r=>simp
 obtain⟨x,r,rfl⟩:=i;simp only[List.headD_cons]at a ⊢;have f:=h.pos x Bh;obtain⟨j,e⟩:=Pv a.left X;have d:=a.right;rw[nb_length]at d;unfold JN;rw[Ag X,e];have:=fX _ (8*Alz s-(p+5)) _ x [] h.pos f d (by have:=d.1;omega);simp only[EW,Bx,nb_length];grind
def oI{s:By}{n:Y}:∀(ts:Ae (Bj)) (p:Y) (acc:Ae (Bj)),(∀t∈ts,Alz t=n/\LOk t)->1<=n->DF s p (ts.flatMap dShow)->KP s n (Alz ts) p acc=J (acc++ts,p+Alz (ts.flatMap dShow))
 |[],p,acc,_,_,_=>by simp[KP]
 |t::ts,p,acc,h,hn,hs=>by
  have ht:=h t Bh;have e:=un ht.2 Bf hs.left;rw[ht.1]at e;rw[CF,KP,e];simp only;rw[Aj ht.2,oI _ _ _ Bf hn hs.right];grind
def Ahu{s:By}{p n:Y}{pl:Pl}(h:pl.q n)(d:DF s p (planBits pl)):MN s p n=J (pl,p+Alz (planBits pl)):=by
 unfold planBits at d ⊢;have m:=h.v;have o:=h.C;obtain⟨r,l⟩:=Pv d.left X;have f:=d.right;rw[nb_length]at f;obtain⟨q,k⟩:=Pv f.left X;have e:=f.right;rw[nb_length]at e;have g:=e.right;have j:=oH (most:=Alz pl.v-1) _ _ (p+18) [] Bf (fun x a=>DX.2 (h.lt x a)) (show p+18=p+3+15 by omega▸e.left);have i:=oI _ _ [] (fun t a=>⟨h.len t a,h.ok t a⟩) (by have:=h.G;omega) g;unfold MN;rw[Ag X,l,Ag X,Ag X,k,Ag X,j];simp only[EW];rw[show p+18+Alz (Hs _ _)=p+3+15+Alz (Hs (BE (Alz pl.v)) pl.C) by omega,i];simp only[EW,FU,Bx,nb_length];grind
def Es(p:Pl)(l:Bj):Bs:=(l.zipIdx).flatMap fun x=>Lq (p.v.getD (p.C.getD (x.2/50) 0) []) x.1
noncomputable def HB(tabs:Ae (Bj))(s:By)(fin:Y):Bj->Y->Bj->Av (Bj×Y)
 |[],_,_=>Aa
 |k::ks,p,acc=>match Gm (tabs.getD k []) s fin 50 p with
  |none=>Aa
  |some (xs,q)=>if xs.getLast? =J fin then J (acc++xs,q)else HB tabs s fin ks q (acc++xs)
def MF(tabs:Ae (Bj)):Bj->Bj->Bs
 |[],_=>[]
 |k::ks,l=>(l.take 50).flatMap (Lq (tabs.getD k []))++MF tabs ks (l.drop 50)
def mx(a:Ae (Bj)):∀(ks l:Bj) (off:Y) (all:Bj),grpN (Alz l)<=Alz ks->all.drop off=ks->(l.zipIdx (50*off)).flatMap (fun x=>Lq (a.getD (all.getD (x.2/50) 0) []) x.1)=MF a ks l
 |[],l,off,all,h,_=>by
  have:Alz l=0:=by unfold grpN at h;simp at h;omega
  rw[Im this];rfl
 |k::ks,l,off,all,h,hd=>by
  have f:all.getD off 0=k:=by
   have:(all.drop off)[0]? =J k:=hd▸Z;rw[TQ,JD]at this;rw[Cd,this];rfl
  have d:all.drop (off+1)=ks:=by rw[<-Gj,hd];rfl
  have e:l=l.take 50++l.drop 50:=Bh
  conv=>lhs;rw[e]
  rw[List.zipIdx_append,IT];congr 1
  .have:∀(m:Ae _) (j:Y),j+Alz m<=50->(m.zipIdx (50*off+j)).flatMap (fun x=>Lq (a.getD (all.getD (x.2/50) 0) []) x.1)=m.flatMap _:=fun m=>by
    induction m with
    |nil=>simp
    |cons x m ih=>
     intro j g;rw[CF]at g;rw[WX,Gk,Gk];rw[show(50*off+j)/50=off by omega,f,show 50*off+j+1=50*off+(j+1) by omega,ih _ X]
   have:=this (l.take 50) 0 (by rw[BW];omega);omega
  .rcases CM 50 (Alz l)with q|q
   .have i:Alz (l.take 50)=50:=by rw[BW];omega
    rw[i,show 50*off+50=50*(off+1) by omega];refine mx _ _ _ _ _ ?_ d;unfold grpN at h ⊢;grind
   .rw[La q]
    have:∀ks,MF a ks []=[]:=fun ks=>by
     induction ks with
     |nil=>rfl
     |cons k ks ih=>assumption
    rw[this];rfl
def ju{a:Ae (Bj)}{s:By}{d n:Y}(m:∀k,k<Alz a->LOk (a.getD k [])/\Alz (a.getD k [])=n):∀(ks l:Bj) (p:Y) (acc:Bj),(∀k∈ks,k<Alz a)->(∀x∈l,x<n)->(∃r,l=r++[d]/\∀x∈r,x≠d)->grpN (Alz l)<=Alz ks->DF s p (MF a ks l)->HB a s d ks p acc=J (acc++l,p+Alz (MF a ks l))
 |[],l,p,acc,_,_,⟨r,h,_⟩,hg,_=>by
  unfold grpN at hg;grind
 |k::ks,l,p,acc,hk,hl,⟨r,hr,hr2⟩,hg,hs=>by
  have hkk:=m k (hk k Bh);unfold MF at hs ⊢;have hmem:∀x∈l.take 50,x<Alz (a.getD k []):=Bf
  have hin:∀y ys,l.take 50=ys++[y]->∀x∈ys,x≠d:=fun y ys t x w=>by
   have f:ys++[y]<+:r++[d]:=by rw[<-t,<-hr];grind
   have A:ys<+:r:=by
    have i:Alz (ys++[y])<=Alz (r++[d]):=Bf;simp only[Bx,CL]at i;have j:ys<+:r++[d]:=(List.prefix_append ys [y]).trans f;exact List.prefix_of_prefix_length_le j Bh X
   grind
  rcases CM 50 (Alz l)with q|q
  .have o:Alz (l.take 50)=50:=by rw[BW];omega
   have e:=Xr hkk.1 _ 50 p hmem hin X X hs.left
   have g:(l.take 50).getLast?≠J d:=by
    intro z
    have f:l.take 50<+:r:=by
     have j:l.take 50<+:r++[d]:=by rw[<-hr];grind
     refine List.prefix_of_prefix_length_le j Bh ?_;rw[hr]at q;simp at q;omega
    grind
   have v:∃r',l.drop 50=r'++[d]/\∀x∈r',x≠d:=by
    refine⟨r.drop 50,?_,Bf⟩;rw[hr]at q ⊢;simp at q;rw[TM X]
   rw[HB,e];simp only;rw[Ag g,ju m ks (l.drop 50) _ (acc++l.take 50) Bf Bf v (by unfold grpN at hg ⊢;grind) hs.right,Cq,Hx,Bx];grind
  .have C:=Dh q;have e:=Xr hkk.1 _ 50 p hmem hin Bf Bf hs.left
   have B:MF a ks (l.drop 50)=[]:=by
    rw[La q]
    have:∀ks,MF a ks []=[]:=fun ks=>by
     induction ks with
     |nil=>rfl
     |cons k ks ih=>assumption
    exact this _
   rw[HB,e];grind
def xx{p:Pl}{n:Y}(h:p.q n){s:By}{at_ a:Y}{l:Bj}(hl:∀x∈l,x<n)(i:∃r,l=r++[a]/\∀x∈r,x≠a)(g:grpN (Alz l)<=Alz p.C)(d:DF s at_ (Es p l)):HB p.v s a p.C at_ []=J (l,at_+Alz (Es p l)):=by
 have e:=mx p.v _ l 0 _ g (by rfl);have o:Es p l=MF _ _ l:=e;rw[o]at d ⊢
 have j:∀k,k<Alz p.v->LOk _/\Alz (p.v.getD k _)=n:=fun k m=>by
  have f:p.v.getD k []∈p.v:=by rw[Cd,BQ m];simp
  exact⟨h.ok _ f,h.len _ f⟩
 have:=ju j _ l _ [] h.lt hl i g d;grind
def Dk(p:Pl)(l:Bj):Y:=Alz (planBits p)+Alz (Es p l)
end Bz
section
open Bz
def MS(B wb:Y)(l:Bs)(w:Ad)(h:FH w B wb l):Bm eD 137 [.pointer (J ⟨wb,0,Aa⟩)] w fun v w'=>v=Bb ((Alz l:Y):H)/\w=w':=by
 obtain⟨a,f,e,d⟩:=h;refine Bw func137 Z ntmps137 (by rfl) Z ?_;refine(O 20∘Bu) ?_;simp
def NS(B wb:Y)(l:Bs)(w:Ad)(h:FH w B wb l):Bm eD 136 [.pointer (J ⟨wb,0,Aa⟩)] w fun v w'=>v=str (pack l)/\w=w':=by
 obtain⟨e,g,f,d⟩:=h;obtain⟨A,c,rfl,_,a⟩:=d.slice;refine Bw func136 Z ntmps136 (by rfl) Z ?_;refine(O 18∘Zv (DR a)∘O 2∘Bu) ?_;simp
structure RdAt(w:Ad)(B rb:Y)(s:Bg)(p:Y):Prop where
 ex:∃sb,B<=rb/\Bk w rb 294 [.func (.func 194) #[] #[.pointer (J ⟨sb,0,Aa⟩)],Bb (p:H),Bb ((8*Alz s:Y):H)]/\Bk w sb 9 [str s]
def Ia(T:Aw):Ar:=T==294
def RdAt.a{w w':Ad}{B a:Y}{s:Bg}{p:Y}(h:RdAt w B a s p)(hx:Be w w'):RdAt w' B a s p:=by
 obtain⟨g,f,e,d⟩:=h.ex;exact⟨_,f,e.a hx,d.a hx⟩
def sG(s:Bg)(i:Y):((s.getD (i/8) 0).toNat/2 ^ (7-i%8))%2=(Cj s i).toNat:=by
 unfold Cj;grind
def eS(a:Y)(s:Bg)(i:Y)(hi:i<8*Alz s)(e:Alz s<=140737488355328)(w:Ad)(h:Bk w a 9 [str s]):
 Bm eD 194 [Bb (i:H),.pointer (J ⟨a,0,Aa⟩)] w fun v w'=>v=.int .u64 (((Cj s i).toNat:Y):H)/\w=w':=by
 have g:=(s[i/8]).toNat_lt;have d:s.getD (i/8) 0=s[i/8]:=by rw[Cd,BQ];rfl
 have f:(s[i/8]).toNat/2 ^ (7-i%8)<=(s[i/8]).toNat:=On _ _;refine Bw Bh Z ntmps194 (by rfl) Z ?_;refine(O 15∘Zv (by exact PO Z Z (by show _<=64;omega))∘Zv (by exact MU (b:=1) (j:=1) (p:=2) (m:=18446744073709551615) Z Z Bc Bc Z X)∘O 2∘Bu) ?_;refine⟨AF _ (AF _ ?_),Z⟩;rw[<-sG,d]
def zo(s:Bg)(at_:H)(a0:-9223372036854775808<=at_)(a1:at_<=9223372036854775807)(n:Alz s<=140737488355328)(w:Ad):
 Bm eD 157 [str s,Bb at_] w fun v w'=>Be w w'/\((v=.pointer Aa/\(at_<0∨((8*Alz s:Y):H)<at_))∨(0<=at_/\at_<=((8*Alz s:Y):H)/\∃rb,v=.pointer (J ⟨rb,0,Aa⟩)/\RdAt w' w.heap.size rb s at_.toNat)):=by
 refine Bw Bh Z ntmps157 Bi Z ?_;refine(O 2) ?_;refine Mb Z Z Z Z ?_;rintro m l h f d;refine(O 8)<|Zd 7 (fun j=>?_) fun j=>?_
 .refine(O 12∘Bu) ?_;grind
 .refine(O 7)<|Zi (fun i=>?_) fun i=>?_
  .refine(O 4∘Bu) ?_;grind
  .obtain⟨p,rfl⟩:=ES (show 0<=at_ by omega);refine(O 3∘Zv (by exact FZ Z Z)∘O 5) ?_;refine Dq Z Z Z ?_;rintro rb k g e a;refine(O 2∘Bu) ?_;exact⟨d.trans a,.inr ⟨X,X,_,Z,⟨_,by have:=d.size;omega,e,f.a a⟩⟩⟩
def SU(B a:Y)(s:Bg)(p:Y)(w:Ad)(h:RdAt w B a s p):Bm eD 198 [.pointer (J ⟨a,0,Aa⟩)] w fun v w'=>v=Bb (p:H)/\w=w':=by
 obtain⟨d,g,f,e⟩:=h.ex;refine Bw Bh Z ntmps198 (by rfl) Z ?_;refine(O 20∘Bu) ?_;simp
def lM(v:Y)(b:Ar):(v*2)|||b.toNat=2*v+b.toNat:=by
 have h:b.toNat<2 ^ 1:=by cases b<;>decide
 have:=Nat.two_pow_add_eq_or_of_lt h v;grind
def HZ(s:Bg)(p n:Y):Y×Y×Y:=if 8*Alz s<p+n then(0,10,p)else(num (BT s p n),0,p+n)
def LJ(B k:Y)(s:Bg)(p n:Y)(V:n<=64)(S:p<=8*Alz s)(N:Alz s<=140737488355328)(w:Ad)(h:RdAt w B k s p):
 Bm eD 158 [.pointer (J ⟨k,0,Aa⟩),Bb (n:H)] w fun v w'=>v=.tuple #[.int .u64 (((HZ s p n).1:Y):H),Bb (((HZ s p n).2.1:Y):H)]/\RdAt w' B k s (HZ s p n).2.2/\Tm w w' B Ia:=by
 obtain⟨D,I,j,G⟩:=h.ex;refine Bw Bh Z ntmps158 Bi Z ?_;refine(O 15) ?_;refine OW.val Z Z (by first|exact cQ iR Z Z|exact EX.eqlF0 iR Z Z)<|(O 10∘Kw 19∘O 4∘Ci 22∘O 9∘Zq (by exact fun _=>Bo (j.drewN _))∘O 3∘Zq (by exact fun _=>Bo (j.drewN _))∘O 2∘QW.nil) fun L=>Zi (fun r=>?_) fun r=>?_
 .have e:HZ s p n=(0,10,p):=Aj X;refine(O 5∘BF) ?_;rw[e];exact⟨Z,h.a (Be.drewN w _),Tm.Akj (Be.drewN w _) _ _⟩
 .have e:HZ s p n=(num (BT s p n),0,p+n):=Ag X;have f:=Be.drewN w L;generalize w.drewN _=w0 at f;refine(O 12)<|Lo (fun((i,v,wr))=>(i<=n/\v=num (BT s p i)/\Be w wr,[(0,.pointer (J ⟨k,0,Aa⟩)),(1,Bb n),(6,.int .u64 v),(34,Bb n),(35,Bb i)],wr,n-i)) (0,0,w0) ?_ ?_
  .exact⟨X,Z,f⟩
  .rintro⟨i,v,wr⟩⟨W,q,a⟩;refine(O 5)<|Zi (fun x=>?_) fun x=>?_
   .have A:=(G.a a).drew;have o:=Pe (BT s p i);rw[Sg,<-q]at o;have Q:2 ^ i<=2 ^ 63:=Gb Bc X;have P:=PJ (Cj s (p+i));have l:num (BT s p (i+1))=2*v+(Cj s (p+i)).toNat:=by rw[sH,ZZ,q]
    refine(O 8∘Yr 15 (fun w'=>Be wr w') (Be.drew wr)) fun E=>(Gv [0]∘Yw 1 (he:=fun _ _=>by first|exact Hv (s:=1) (p:=2) (m:=18446744073709551615) Z Z Bc Bc Z X|exact IN (s:=1) (p:=2) (m:=18446744073709551616) Z Z Bc Bc Z Bc)∘Gv [2,3,4]∘Yw 5 (he:=by exact fun _ d=>Bo ((j.a a).a d))∘Gv [6,7,8]∘Yw 9 (he:=by exact fun _ d=>Bo ((j.a a).a d))∘Gv [10,11]) ?_;refine Ha 12 Z Bi Z Z Z Z Z (eS D s (p+i) X N wr.drew A) ?_;rintro _ _⟨rfl,rfl⟩;refine⟨E,fun E=>?_⟩;refine(Yw 13 (he:=by exact fun _ _=>NY (m:=18446744073709551615) Z Z Z X)∘Gv [14]∘Yd∘O 5∘Ct 6 (.int .u64 ((num (BT s p (i+1)):Y):H)) (e:=by exact AF (Value.int .u64) (AF Om ((lM v _).trans l.symm))))<|Lb ((i+1),(num (BT s p (i+1))),wr.drew) ?_;exact⟨X,Z,a.trans (Be.drew wr)⟩
   .obtain rfl:i=n:=X;have g:=j.a a;refine(O 11∘Zt g) ?_;rintro K y t;refine(O 7∘BF) ?_;rw[e,q];have C:Tm wr K B Ia:=(Tm.set g t I).mono fun T hT=>by assumption
    exact⟨Z,⟨D,I,y,C.bk (G.a a) Bc⟩,(Tm.Akj a _ _).trans C⟩
def Aiw(B l:Y)(s:Bg)(p most:Y)(hm:most<=1000000)(hp:p<=8*Alz s)(V:Alz s<=140737488355328)(w:Ad)(h:RdAt w B l s p):
 Bm eD 200 [.pointer (J ⟨l,0,Aa⟩),Bb (most:H)] w fun v w'=>((∃k q,Ju s most p (most+1) 0=J (k,q)/\k<=most/\q<=8*Alz s/\v=.tuple #[Bb (k:H),Bb ((0:Y):H)]/\RdAt w' B l s q)∨(Ju s most p (most+1) 0=Aa/\∃e:Y,1<=e/\e<=400/\v=.tuple #[Bb ((0:Y):H),Bb (e:H)]/\RdAt w' B l s p))/\Tm w w' B Ia:=by
 obtain⟨Q,N,E,L⟩:=h.ex;refine Bw Bh Z ntmps200 Bi Z ?_;refine(O 15) ?_;refine OW.val Z Z (by first|exact cQ iR Z Z|exact EX.eqlF0 iR Z Z)<|(O 10)<|Zi (fun m=>?_) fun m=>?_
 .omega
 .refine(O 7)<|Lo (fun((n,wr))=>(n<=most/\Ju s most p (most+1-n) n=Ju s most p (most+1) 0/\Be w wr,[(0,.pointer (J ⟨l,0,Aa⟩)),(1,Bb most),(6,Bb n)],wr,most+1-n)) (0,w) ?_ ?_
  .exact⟨X,Z,Be.refl _⟩
  .rintro⟨n,wr⟩⟨W,i,I⟩;obtain⟨f,hf⟩:∃f,most+1-n=f+1:=⟨most-n,X⟩;have ab:f=most+1-(n+1):=X;rw[hf,Ju]at i;have t:=E.a I;refine(O 6∘Zq (by exact fun _=>Bo (t.drewN _))∘O 5∘Zq (by exact fun _=>Bo (t.drewN _))∘O 1∘QW.nil) fun S=>?_;have d:=I.trans (Be.drewN _ S);generalize wr.drewN _=w1 at d;refine Zi (fun A=>?_) fun A=>?_
   .have x:=E.a d;have ai:=L.a d;rw[Ag X]at i;refine(O 5∘Yr 12 (fun w'=>Be _ w') (Be.drew _)) fun K=>(Gv [0,1,2]∘Yw 3 (he:=by exact fun _ j=>Bo (x.a j))∘Gv [4,5,6]∘Yw 7 (he:=by exact fun _ j=>Bo (x.a j))∘Gv [8,9]) ?_;refine Ha 10 Z Bi Z Z Z Z Z (eS _ s _ X V _ Ck) ?_;rintro _ _⟨rfl,rfl⟩;refine⟨K,fun K=>?_⟩;refine(Gv [11]∘Yd) ?_;have a:=d.trans (Be.drew w1);generalize w1.drew=w2 at a;have r:=E.a a;have D:=L.a a;have o:(Cj s (p+n)).toNat=0↔Cj s (p+n)=Ai:=by cases Cj s (p+n)<;>simp
    refine Zi (fun C=>?_) fun C=>?_
    .rw[Aj (o.1 C)]at i;refine(O 11∘Zt r) ?_;rintro P af y;refine(O 7∘BF) ?_;have G:Tm w2 P B Ia:=(Tm.set r y N).mono fun T hT=>by assumption
     refine⟨.inl ⟨n,p+n+1,i.symm,W,X,Z,⟨Q,N,?_,G.bk D Bc⟩⟩,(Tm.Akj a _ _).trans G⟩;grind
    .rw[Ag (fun z=>C (o.2 z))]at i;refine(O 7)<|Zi (fun g=>?_) fun g=>?_
     .rw[Aj g]at i;refine(O 5∘BF) ?_;exact⟨.inr ⟨i.symm,3,Bc,Bc,Z,h.a a⟩,Tm.Akj a _ _⟩
     .refine(O 7)<|Lb ((n+1),w2) ?_;grind
   .rw[Aj X]at i;refine(O 6∘BF) ?_;exact⟨.inr ⟨i.symm,10,Bc,Bc,Z,h.a d⟩,Tm.Akj d _ _⟩
def Pc(s:Bg)(p:Y)(hp:p<=8*Alz s)(hs:Alz s<=140737488355328)(w:Ad):
 Bm eD 157 [str s,Bb (p:H)] w fun v w'=>∃rb,v=.pointer (J ⟨rb,0,Aa⟩)/\RdAt w' w.heap.size rb s p/\Be w w':=
 (zo s (p:H) X X hs w).mono Bf
def RdAt.tm{w w':Ad}{B a C:Y}{s:Bg}{q:Y}{p:Aw->Ar}(h:RdAt w B a s q)(t:Tm w w' C p)(p1:p 294=Ai)(p2:p 9=Ai):RdAt w' B a s q:=by
 obtain⟨g,f,e,d⟩:=h.ex;exact⟨_,f,t.bk e p1,t.bk d p2⟩
def zh(b:Ar):nb 1 b.toNat=[b]:=by cases b<;>rfl
def SX{s:Bg}{p:Y}(h:p<8*Alz s):HZ s p 1=((Cj s p).toNat,0,p+1):=by
 unfold HZ;have:num (BT s p 1)=(Cj s p).toNat:=by simp[BT,num]
 grind
def yC(l:Bs)(h:Alz l%8≠0):(Fx l (Alz l/8)*2 ^ (Alz l%8))%256=0:=by
 have a:Fx l (Alz l/8)%2 ^ (8-Alz l%8)=0:=by
  apply Ue;intro i;rw[Nat.testBit_mod_two_pow,Nat.zero_testBit];rcases CM i (8-Alz l%8)with q|q
  .have:=UB l (Alz l/8) (7-i) X;grind
  .grind
 obtain⟨q,d⟩:=Nat.dvd_of_mod_eq_zero a;rw[d,Qb (2 ^ _) q,Xd,<-Uk,show 8-Alz l%8+Alz l%8=8 by omega];simp
abbrev Ee(l:Bs):Bl:=[str (pack l),Bb ((Alz l:Y):H)]
def sM(l:Bs)(hl:Alz l<=1000000000)(w:Ad):Bm eD 182 [.agg (Ee l).toArray] w fun v w'=>v=.bool Af/\Be w w':=by
 have t:=pack_length l;refine Bw func182 Z ntmps182 Bi Z ?_;refine(O 2) ?_;refine Dq Z Z Z ?_;rintro x n q a g;refine(O 9∘Kw 6∘O 15)<|Zi (fun h=>?_) fun h=>?_
 .exact AH h X
 .refine(O 2) ?_;rcases Nat.decEq (Alz l%8) 0 with h8|h8
  .have o:0<Alz (pack l):=X;have f:Alz (pack l)-1=Alz l/8:=X;have k:Alz (pack l)-1<Alz (pack l):=X
   have r:(pack l)[Alz (pack l)-1].toNat=Fx l (Alz l/8):=by
    have e:=SQ (l:=l) (j:=Alz (pack l)-1) X;rw[BQ k]at e;injection e with e;rw[e,f,UInt8.toNat_ofNat',JG (Qn _ _)]
   have d:=yC l h8;rw[<-r]at d;refine WI Bi Bi<|(O 1∘Zq (by exact fun _=>Bo (a.drewN _))∘O 1) ?_;refine QW.val Z Z (fun _=>by first|exact Wt (b:=0) Z Z|exact Wu Z Z)<|(O 1∘Zqf 25∘O 1∘Zq (by exact fun _=>Bo (a.drewN _))∘O 1∘Zq (by exact fun _=>Bo (a.drewN _))∘O 2) ?_;refine QW.val Z Z (fun _=>FQ eT Z Z (BQ X))<|(O 1∘Zq (by exact fun _=>Bo (a.drewN _))∘O 2∘Zq (by exact fun _=>IN (s:=Alz l%8) (p:=2 ^ (Alz l%8)) (m:=256) Z Z Z (by show _<=8;omega) Z Bc)∘O 3∘QW.nil) fun i=>(EF 2 (e:=d)∘Bu) ?_;exact⟨Z,g.trans (Be.drewN n i)⟩
  .refine(O 2∘Zq (by exact fun _=>Bo (a.drewN _))∘O 3∘Zqa 25 (e:=h8)∘O 15∘QW.nil) fun i=>(Bu) ?_;exact⟨Z,g.trans (Be.drewN n i)⟩
abbrev Jk(l:Ae Bs):Bl:=l.flatMap Ee
def Nu(a:Ae Bs)(a4:∀l∈a,Alz l<=100000000)(hn:Alz a<=1000000)(bd:Alz a.flatten<=100000000)(A:Av AB)(c C:Y)(w:Ad)(hs:Sl w C A (Jk a)):
 Bm eD 135 [.slice A (Alz a) c] w fun v w'=>v=.tuple #[.agg (Ee a.flatten).toArray,Bb 0]/\Be w w':=by
 refine Bw func135 Z ntmps135 Bi Z ?_;refine(O 2∘Zn) ?_;rintro B y S ba I;refine(O 4∘Zc (Pd y)) ?_;rintro _ w1⟨p,rfl,L,G⟩;refine(O 10) ?_;have x1:=I.trans G;have ab:=I.size;refine Lo (fun((i,wr):Y×Ad)=>(i<=Alz a/\FH wr y.heap.size p (a.take i).flatten/\(∃W V,Bk wr B 226 [W,V])/\Be w wr,[(2,.pointer (J ⟨B,0,Aa⟩)),(4,.pointer (J ⟨p,0,Aa⟩)),(11,.slice A (Alz a) c),(12,Bb ((Alz a:Y):H)),(13,Bb i)],wr,Alz a-i)) (0,w1) ?_ ?_
 .exact⟨BC _,L,⟨_,_,ba.a G⟩,x1⟩
 .rintro⟨i,wr⟩⟨hi,f,⟨W,V,Q⟩,hx⟩;refine(O 5)<|Zi (fun d=>?_) fun d=>?_
  .obtain⟨b,o,rfl,_,g⟩:=(hs.a hx).flat (c:=2) (fun _=>rfl) Bc d;have a5:=a4 a[i] (BL d);have t:(a.take (i+1)).flatten=(a.take i).flatten++a[i]:=by rw[<-CX d,List.flatten_append,List.flatten_singleton]
   have n:(a.take i).flatten.length+Alz a[i]<=100000000:=by
    have e:Alz a.flatten=((a.take (i+1))++a.drop (i+1)).flatten.length:=by rw[Hx]
    rw[List.flatten_append,Bx,t,Bx]at e;omega
   generalize a[i]=l at g a5 t n;generalize(a.take i).flatten=pre at f t n;have bi:=pack_length l;refine(O 6∘Zv (Dj (Ee l) g)∘Zn) ?_;rintro bb w2 bf a9 E;refine(Zs a9 (hlt:=Bq _)) ?_;rintro w3 h a3;refine(O 4) ?_;replace h:Bk w3 bb 226 (Ee l):=h;have y3:Be wr w3:=Bp E a3 E.size (fun k hk=>by simp at hk;omega);have x3:=hx.trans y3;refine(Zv (BX h)∘Zc (sM l X w3)) ?_;rintro _ w4⟨rfl,r⟩;refine(O 2) ?_;have y4:=y3.trans r;have a8:=h.a r;refine(O 6∘Zc (Pc (pack l) 0 (BC _) X w4)) ?_;rintro _ w5⟨rb,rfl,P,q⟩;refine(O 5) ?_;have x4:=x3.trans r;have x5:=x4.trans q;have y5:=y4.trans q;have bl:=a8.a q;refine(O 4)<|Lo (fun((j,m):Y×Ad)=>(j<=Alz l/\FH m y.heap.size p (pre++l.take j)/\RdAt m w4.heap.size rb (pack l) j/\(∃W V,Bk m B 226 [W,V])/\Be w m,[(2,.pointer (J ⟨B,0,Aa⟩)),(4,.pointer (J ⟨p,0,Aa⟩)),(7,.pointer (J ⟨rb,0,Aa⟩)),(11,.slice (J ⟨b,o,Aa⟩) (Alz a) c),(12,Bb ((Alz a:Y):H)),(13,Bb i),(25,Bb ((Alz l:Y):H)),(26,Bb j)],m,Alz l-j)) (0,w5) ?_ ?_
   .exact⟨BC _,by rw[Oj,List.append_nil];exact f.a y5,P,⟨W,V,Q.a y5⟩,x5⟩
   .rintro⟨j,m⟩⟨hj,N,af,⟨b0,b1,al⟩,D⟩;refine(O 5)<|Zi (fun x=>?_) fun x=>?_
    .have a6:j<8*Alz (pack l):=X;have e1:=SX a6
     have T:Cj (pack l) j=l[j]:=by
      rw[eR X,Cd,BQ x];rfl
     have c1:=LJ w4.heap.size rb (pack l) j 1 Bc X X m af;rw[e1,T]at c1;have bm:=PJ l[j];have aj:Alz (pre++l.take j)<=1000000000:=by rw[Bx,BW];omega
     have bh:pre++l.take (j+1)=(pre++l.take j)++nb 1 (l[j]).toNat:=by rw[zh,Cq,CX x]
     refine(O 6∘Zc c1) ?_;rintro _ w6⟨rfl,ai,t6⟩;refine(O 9) ?_;have K:=N.tm t6 Bc Bc;have ao:=t6.bk al Bc;have x6:Be w w6:=Tm.below D t6 D.size (by have:=x4.size;omega);refine(Zc (GU y.heap.size p (pre++l.take j) (l[j]).toNat 1 X Bc X aj w6 K)) ?_;rintro _ w7⟨rfl,bc,t7⟩;refine(O 6) ?_;have x7:Be w w7:=Tm.below x6 t7 x6.size ab;refine Lb ((j+1),w7) ?_;exact⟨X,Bf,ai.tm t7 Bc Bc,⟨b0,b1,t7.bk ao Bc⟩,x7⟩
    .obtain rfl:j=Alz l:=X;rw[DY]at N;refine(O 6)<|Lb ((i+1),m) ?_;grind
  .obtain rfl:i=Alz a:=X;rw[DY]at f;refine(O 4∘Zc (NS y.heap.size p _ wr f)) ?_;rintro _ _⟨rfl,rfl⟩;refine(O 1∘Zc (MS y.heap.size p _ wr f)) ?_;rintro _ _⟨rfl,rfl⟩;refine(O 1∘Zs Q (hlt:=Bq 2)) ?_;rintro w8 a7 a2;refine(O 2∘Dx a7) ?_;have bj:w.heap.size<=B:=S;exact⟨Z,Bp hx a2 hx.size (fun k hk=>by simp at hk;omega)⟩
def Ps{s:Bg}{i:Y}(hi:i<Alz s):s.drop i=s[i]::s.drop (i+1):=DD hi
def Adw{s:Bg}{b:AI}{m k:Y}(hk:k<Alz s)(a:s[k]=b):FN b (m+1) (s.drop k)=FN b m (s.drop (k+1))+1:=by
 rw[Ps hk,FN,Aj a]
def Adx{s:Bg}{b:AI}{m k:Y}(hk:k<Alz s)(a:s[k]≠b):FN b m (s.drop k)=0:=by
 rw[Ps hk];cases m with
 |zero=>rfl
 |succ m=>rw[FN,Ag a]
def Adv{s:Bg}{b:AI}{m k:Y}(hk:Alz s<=k):FN b m (s.drop k)=0:=by
 rw[La hk];cases m<;>rfl
def Ady(b:AI)(r:Bg):FN b 0 r=0:=by rfl
def nk(s:Bg)(i:Y)(hi:i<Alz s)(o:Alz s<=140737488355328)(w:Ad):
 Bm eD 225 [str s,Bb (i:H)] w fun v w'=>v=Bb ((DB (s.drop i):Y):H)/\Be w w':=by
 have f:1+FN s[i] (255-1) (s.drop (i+1))=DB (s.drop i):=by rw[Ps hi,DB]
 refine Bw func225 Z ntmps225 Bi Z ?_;refine(O 10)<|Lo (fun((n,wr):Y×Ad)=>(1<=n/\n<=255/\i+n<=Alz s/\n+FN (s[i]'hi) (255-n) (s.drop (i+n))=DB (s.drop i)/\Be w wr,[(0,str (s)),(1,Bb i),(5,Bb n)],wr,255-n)) (1,w) ?_ ?_
 .exact⟨Bq _,Bh,X,f,Be.refl _⟩
 .rintro⟨n,wr⟩⟨r,q,p,d,a⟩;refine(O 6)<|Nh 8 (fun m=>?_) fun m=>?_
  .refine(O 8)<|Nh 16 (fun l=>?_) fun l=>?_
   .have j:i+n<Alz s:=X;refine(O 4) ?_;refine QW.val Z Z (fun _=>FQ eT Z Z (BQ X))<|(O 2∘Zq (by exact fun _=>FQ eT Z Z (BQ (hi)))∘O 2∘QW.nil) fun h=>Zi (fun g=>?_) fun g=>?_
    .have k:s[i+n]=s[i]:=Ku.1 g;rw[show 255-n=(254-n)+1 by omega,Adw j k]at d;refine(O 8) ?_;refine Lb ((n+1),_) ?_;exact⟨X,X,X,Bf,a.trans (Be.drewN _ _)⟩
    .rw[Adx j (fun e=>g (AF UInt8.toNat e))]at d;refine(O 6∘Bu) ?_;exact⟨AF (Value.int .i64) (AF Om X),a.trans (Be.drewN _ _)⟩
   .rw[Adv X]at d;refine(O 10∘QW.nil) fun h=>(O 7∘Bu) ?_;exact⟨AF (Value.int .i64) (AF Om X),a.trans (Be.drewN _ _)⟩
  .obtain rfl:n=255:=X;rw[EY,Ady]at d;refine(O 18∘QW.nil) fun h=>(O 7∘Bu) ?_;exact⟨AF (Value.int .i64) (AF Om X),a.trans (Be.drewN _ _)⟩
def ff(a b:Bg):BI a++BI b=BI (a++b):=by simp[BI]
def UQ{s:Bg}{i:Y}(hi:i<Alz s):enc (s.drop i)=Bz.runT (DB (s.drop i)) s[i]++enc (s.drop (i+DB (s.drop i))):=by
 rw[Ps hi,UR,<-Ps hi,Gj]
def Aef{s:Bg}{i n:Y}(hi:i<Alz s)(a:n<=DB (s.drop i)):(s.drop i).take (i+n-i)=BH n s[i]:=by
 have h:=ng s[i] (s.drop (i+1));rw[<-Ps hi]at h;rw[Ko,show(s.drop i).take n=((s.drop i).take (DB (s.drop i))).take n by grind,h,List.take_replicate,Hi a]
def nf{s:Bg}{i:Y}(hi:i<Alz s):1<=DB (s.drop i)/\DB (s.drop i)<=255/\i+DB (s.drop i)<=Alz s:=by
 have d:=Te (s:=s.drop i) (by simp_all);have a:=aS (s.drop i);grind
def Adf(s:Bg)(hs:Alz s<=1000000000)(w:Ad):
 Bm eD 172 [str s] w fun v w'=>v=str (enc s)/\Be w w':=by
 refine Bw func172 Z ntmps172 (by rfl) Z ?_;refine(O 12) ?_;refine Xi (len:=0) Z Z im CE Z Z Z X X CB ?_;rintro K G j p;refine(O 8)<|Lo (fun((i,o,m,wr):Y×(Bg)×Ah×Ad)=>(i<=Alz s/\Alz o<=2*i/\o++enc (s.drop i)=enc s/\Bn wr w.heap.size 5 1 m (Alz o) (BI o)/\Be w wr,[(0,str (s)),(3,m),(4,Bb i)],wr,Alz s-i)) (0,([]),K,G) ?_ ?_
 .exact⟨BC _,BC _,Z,j,p⟩
 .rintro⟨i,o,m,wr⟩⟨hi,T,D,g,S⟩;refine(O 8)<|Zi (fun d=>?_) fun d=>?_
  .obtain⟨P,N,L⟩:=nf d;have W:=UQ d;have k:=fun n C=>Aef (n:=n) d C;refine(O 6∘Zc (nk s i d X wr)) ?_;rintro _ w2⟨rfl,l⟩;refine(O 4) ?_;generalize C:DB (s.drop i)=n at P N L W k;have x:=S.trans l;have f:=g.a l;refine Ld (fun((u,e):Ah×Ad)=>(Bn e w.heap.size 5 1 u (Alz (o++Bz.runT n s[i])) (BI (o++Bz.runT n s[i]))/\Be w e,[(0,str (s)),(3,u),(4,Bb i),(5,Bb n)],e)) ?_ ?_
   .refine(O 4)<|Zi (fun r=>?_) fun r=>?_
    .have t:Bz.runT n s[i]=BH n s[i]:=Aj r;have tl:=AF DQ (k n (Bq n));rw[Cn]at tl;refine(O 7∘Zv (by exact Oa eT Z Z Z X)) ?_;refine HM Z Z im CE Z Bc Z Z (x) (f) (Src.Aky eT _) CB X ?_;rintro y e a h _ _;refine(O 2∘Lm (y,e)) ?_;rw[t];rw[k n (Bq n)]at a;have V:Alz (BH n s[i])=n:=Cn;rw[V,ff]at a;grind
    .have t:Bz.runT n s[i]=BH 4 s[i]++[BV (n-4)]:=Ag r;have tl:=AF DQ (k 4 X);rw[Cn]at tl;refine(O 7∘Zv (by exact Oa eT Z Z Z X)) ?_;refine HM Z Z im CE Z Bc Z Z (x) (f) (Src.Aky eT _) CB X ?_;rintro y e a h _ _;rw[k 4 X,Cn,ff]at a;have hq:(n-4)%256=n-4:=JG X;refine(O 7∘Hk h a) ?_;rintro _ I E B Q _ _;refine(O 2∘Lm (I,E)) ?_;rw[t,<-Cq,Qo,show((BV (n-4)).toNat:H)=((n-4:Y):H) by simp;omega,Bx,Bx,Cn,CL];grind
   .rintro⟨u,e⟩⟨a,h⟩;refine(O 7)<|Lb ((i+n),(o++Bz.runT n s[i]),u,e) ?_;have rl:=nh n s[i];grind
  .obtain rfl:i=Alz s:=X;rw[IS,Yz,List.append_nil]at D;subst D;obtain⟨A,c,rfl,_,q⟩:=g.slice;refine(O 4∘Zv (DR q)∘O 2∘Bu) ?_;grind
def fit_s(s:Bg)(most:Y)(hm:2*Alz s<=most)(k:most<=1000000000)(w:Ad):
 Bm eD 171 [str s,Bb (most:H)] w fun v w'=>v=Bb ((Alz s:Y):H)/\Be w w':=by
 refine Bw func171 Z ntmps171 (by rfl) Z ?_;refine(O 14)<|Lo (fun((i,u,wr):Y×Y×Ad)=>(i<=Alz s/\u<=2*i/\Be w wr,[(0,str (s)),(1,Bb most),(5,Bb u),(6,Bb i)],wr,Alz s-i)) (0,0,w) ?_ ?_
 .exact⟨BC _,BC _,Be.refl _⟩
 .rintro⟨i,u,wr⟩⟨r,p,j⟩;refine(O 8)<|Zi (fun a=>?_) fun a=>?_
  .obtain⟨h,g,f⟩:=nf a;refine(O 6∘Zc (nk s i a X wr)) ?_;rintro _ e⟨rfl,d⟩;refine(O 10) ?_;generalize q:DB (s.drop i)=n at h g f;have o:=j.trans d;refine Ld (fun(c:Y)=>(c<=2*n/\c<=5,[(0,str (s)),(1,Bb most),(5,Bb u),(6,Bb i),(7,Bb n),(8,Bb c)],e)) ?_ ?_
   .refine(O 4)<|Zi (fun m=>?_) fun m=>?_
    .refine(O 3∘Lm 5) ?_;exact⟨X,X⟩
    .refine(O 1∘Lm (min n 3)) ?_;exact⟨X,X⟩
   .rintro c⟨x,t⟩;refine(O 9)<|Zi (fun l=>?_) fun l=>?_
    .omega
    .refine(O 15)<|Lb ((i+n),(u+c),e) ?_;grind
  .obtain rfl:i=Alz s:=X;refine(O 7∘Bu) ?_;grind
def Bk.Alg{w:Ad}{b:Y}{T:Aw}{l:Bl}(h:Bk w b T l)(o m:Y):Sl w w.heap.size (J ⟨b,o,Aa⟩) ((l.drop o).take m):=by
 refine .inr ⟨b,o,Z,h.lt,fun j u a=>?_⟩;rw[List.getElem?_take]at a;split at a
 .rw[TQ]at a;exact h.I a
 .grind
def uH(same:Y)(o:Bg):dec same o []=if same=4 then([],30)else(o,0):=by rfl
def uz(same:Y)(o:Bg)(x:AI)(r:Bg):dec same o (x::r)=if same=4 then(if 262144<Alz o+x.toNat then([],3)else dec 0 (o++BH x.toNat (o.getLastD 0)) r)else if Alz o=262144 then([],3)else dec (HV same o x) (o++[x]) r:=by rfl
def Adc(s:Bg)(hs:Alz s<=1000000000)(w:Ad):
 Bm eD 209 [str s] w fun v w'=>v=.tuple #[str (dec 0 [] s).1,Bb (((dec 0 [] s).2:Y):H)]/\Be w w':=by
 refine Bw func209 Z ntmps209 Bi Z ?_;refine(O 8) ?_;refine Ks 0 Z Z im CE Z Z Z Z (by rfl) Bc ?_;rintro b1 w1 I a4 W;refine(O 14)<|Lo (fun((i,same,o,Q,wr):Y×Y×(Bg)×Ah×Ad)=>(i<=Alz s/\Bz.Ends same o/\Alz o<=262144/\dec same o (s.drop i)=dec 0 [] s/\Bn wr w.heap.size 5 1 Q (Alz o) (BI o)/\Be w wr,[(0,str (s)),(4,Q),(5,Bb same),(6,Bb i)],wr,Alz s-i)) (0,0,([]),(.slice (J ⟨b1,0,Aa⟩) 0 0),w1) ?_ ?_
 .exact⟨BC _,Bz.Ends.zero _,BC _,Z,Bn.Akk (l:=[]) a4 I Z Bc,W⟩
 .rintro⟨i,same,o,Q,wr⟩⟨hi,K,bb,f,a,N⟩;obtain⟨q1,q2,q3⟩:=id K;refine(O 8)<|Zi (fun d=>?_) fun d=>?_
  .rw[Ps d,uz]at f;have hc:=(s[i]).toNat_lt;refine(O 9)<|Zi (fun r=>?_) fun r=>?_
   .rw[Aj r]at f;subst r;obtain⟨b,o',ho⟩:=q3;have al:o.getLastD 0=b:=by rw[ho,show BH 4 b=BH 3 b++[b]from Z,<-Cq,List.getLastD_concat]
    rw[al]at f;obtain⟨g,a5,rest,rfl,bi,hg,bf,bc,bd⟩:=a.blk (by rw[EZ];omega);have a6:Alz o=Alz o'+4:=by rw[ho,Bx,Cn]
    refine(O 12)<|Zi (fun L=>?_) fun L=>?_
    .rw[Aj X]at f;refine(O 5∘BF) ?_;grind
    .rw[Ag X]at f;refine(O 7∘Gc) ?_;rintro h w2 a7 bj a8;refine(O 8) ?_;have bh:g≠h:=fun e=>by have:=hg.lt;omega
     refine Lo (fun((j,C):Y×Ad)=>(j<=(s[i]'d).toNat/\Bk C h 5 (BH j (.int .u8 (b.toNat:H))++BH ((s[i]'d).toNat-j) (.int .u8 0))/\Be wr C,[(0,str (s)),(4,.slice (J ⟨g,0,Aa⟩) (Alz o) a5),(5,Bb ((4:Y):H)),(6,Bb i),(7,.slice (J ⟨h,0,Aa⟩) (s[i]'d).toNat (s[i]'d).toNat),(8,Bb j)],C,(s[i]'d).toNat-j)) (0,w2) ?_ ?_
     .grind
     .rintro⟨j,C⟩⟨hj,y,p⟩;refine(O 8)<|Zi (fun a0=>?_) fun a0=>?_
      .have a2:=hg.a p
       have af:((BI o++rest).drop (Alz o-4)).take (min 4 (s[i].toNat-j))=BH (min 4 (s[i].toNat-j)) (.int .u8 (b.toNat:H)):=by
        rw[TM (by rw[EZ];omega),Ua (by rw[CA,EZ];omega),ho,Bx,Cn,RV];unfold BI;rw[DW,TM Bh,La Bh,EW,List.map_replicate,List.take_replicate];congr 1;omega
       have k:=a2.drew.Alg (Alz o-4) (min 4 (s[i].toNat-j));rw[af]at k;refine(O 5) ?_;have ai:Alz (BH (min 4 (s[i].toNat-j)) (Value.int .u8 (b.toNat:H)))=min 4 (s[i].toNat-j):=Cn;refine(Yr 12 (fun w'=>True) Ay) fun hS=>(Gv [0,1,2]∘Yw 3 (he:=by exact fun _ _=>Wy im CE Z Z X)∘Gv [4,5,6,7]∘Yw 8 (he:=by exact fun _ _=>Wy im CE Z Z X)) ?_;refine WC 9 _ Z Bi Z Z im im CE Z Z (k) X (fun u hu=>by rw[dH hu];rfl) (y.drew) Bv ?_;rintro D a1 aj;refine⟨Ay,fun hS=>?_⟩;refine(Gv [10,11]∘Yd∘Ct 8 (Bb (((j+min 4 (s[i].toNat-j)):Y):H)) (e:=by exact AF (Value.int .i64) (by rw[Cn]))) ?_;refine Lb ((j+min 4 (s[i].toNat-j)),D) ?_;have q:=Bp (p.trans (Be.drew C)) aj (p.trans (Be.drew C)).size Bv;refine⟨X,?_,q⟩;rw[ai,Hy Cn,List.replicate_append_replicate,<-Gj,RN Cn,List.drop_replicate,Nat.sub_sub]at a1;omega
      .obtain rfl:j=s[i].toNat:=X;rw[EY,TY,List.append_nil]at y;have T:=N.trans p;have G:=a.a p;refine(O 5) ?_;refine HM Z Z im CE Z Bc Z Z (T) (G) (Src.Akm im y.sl Bh (fun u hu=>by rw[dH hu];rfl) Bc) CB X ?_;rintro S P n t _ _;refine(O 12)<|Lb ((i+1),0,(o++BH s[i].toNat b),S,P) ?_;refine⟨X,Bz.Ends.zero _,Bf,f,?_,t⟩;have e:BI (o++BH s[i].toNat b)=BI o++BH s[i].toNat (.int .u8 (b.toNat:H)):=by simp[BI]
       rw[e,Bx,Cn];exact n
   .rw[Ag r]at f;obtain⟨A,c0,rfl,_,k⟩:=a.slice;refine(O 3)<|Ld (fun((m,D):Y×Ad)=>(m=HV same o s[i]/\Be wr D,[(0,str (s)),(4,.slice A (Alz o) c0),(5,Bb m),(6,Bb i)],D)) ?_ ?_
    .refine(O 4)<|Nh 51 (fun h0=>?_) fun h0=>?_
     .have ba:0<Alz o:=X;obtain⟨ab,ao,rfl,_,B⟩:=k.at_ (by rw[EZ];omega);have x:o.getLast? =J o[Alz o-1]:=by rw[dI,BQ X]
      have a3:(BI o)[Alz o-1]? =J (.int .u8 ((o[Alz o-1]).toNat:H)):=by
       unfold BI;rw[DV,BQ X,FU]
      refine(O 2∘Zq (by exact fun _=>FQ eT Z Z (BQ (d)))∘O 5∘Zq (by exact fun _=>BR (B _ _ a3))∘O 2∘QW.nil) fun nq=>Zi (fun hq=>?_) fun hq=>?_
      .have a9:s[i]=o[Alz o-1]:=Ku.1 hq
       have e:HV same o s[i]=same+1:=by
        unfold HV;rw[Aj ⟨h0,Bf⟩]
       refine(O 5∘Lm ((same+1),_)) ?_;exact⟨e.symm,Be.drewN _ _⟩
      .have e:HV same o s[i]=1:=by
        unfold HV;rw[Ag];rintro⟨_,z⟩;rw[x]at z;injection z with z;exact hq (by rw[z])
       refine(O 3∘Lm (1,_)) ?_;exact⟨e.symm,Be.drewN _ _⟩
     .refine(O 11∘QW.nil) fun nq=>(O 4∘Lm (1,_)) ?_;refine⟨?_,Be.drewN _ _⟩;unfold HV;grind
    .rintro⟨m,D⟩⟨rfl,q⟩;have E:=a.a q;have t:=N.trans q;refine(O 7)<|Zi (fun hf=>?_) fun hf=>?_
     .rw[Aj hf]at f;refine(O 5∘BF) ?_;grind
     .rw[Ag hf]at f;refine(O 6∘Hk t E) ?_;rintro _ S P n V _ _;refine(O 8)<|Lb ((i+1),(HV same o s[i]),(o++[s[i]]),S,P) ?_;refine⟨X,K.next r _,Bf,f,?_,V⟩;rw[Qo,Bx,CL];exact n
  .obtain rfl:i=Alz s:=X;rw[IS,uH]at f;obtain⟨A,c0,rfl,_,k⟩:=a.slice;refine(O 7)<|Zi (fun r=>?_) fun r=>?_
   .rw[Aj r]at f;refine(O 5∘BF) ?_;rw[<-f];exact⟨Z,N⟩
   .rw[Ag r]at f;refine(O 4∘Zv (DR k)∘O 3∘BF) ?_;rw[<-f];exact⟨Z,N⟩
end
namespace Bz
def Ej:By->By->Prop
 |[],_=>True
 |_::_,[]=>False
 |x::a,y::b=>x.toNat<y.toNat∨(x=y/\Ej a b)
def QG:∀a:By,Ej a a
 |[]=>trivial
 |x::a=>.inr ⟨Z,QG a⟩
def Ve:∀a b:By,Ej a b∨Ej b a
 |[],_=>.inl Ay
 |_::_,[]=>.inr Ay
 |x::a,y::b=>by
  rcases Ui x.toNat y.toNat with h|h|h
  .exact .inl (.inl h)
  .have e:=Ku.1 h;rcases Ve a b with q|q
   .exact .inl (.inr ⟨e,q⟩)
   .exact .inr (.inr ⟨e.symm,q⟩)
  .exact .inr (.inl h)
def OU:∀{a b:By},Ej a b->Ej b a->a=b
 |[],[],_,_=>rfl
 |[],_::_,_,h=>h.elim
 |_::_,[],h,_=>h.elim
 |x::a,y::b,h1,h2=>by
  rcases h1 with h1|⟨e,h1⟩
  .rcases h2 with h2|⟨e,h2⟩
   .omega
   .grind
  .subst e;rcases h2 with h2|⟨_,h2⟩
   .omega
   .rw[OU h1 h2]
def ZB:∀{a b c:By},Ej a b->Ej b c->Ej a c
 |[],_,_,_,_=>trivial
 |_::_,[],_,h,_=>h.elim
 |_::_,_::_,[],_,h=>h.elim
 |x::a,y::b,z::c,h1,h2=>by
  rcases h1 with h1|⟨e,h1⟩
  .rcases h2 with h2|⟨e,h2⟩
   .exact .inl X
   .subst e;exact .inl h1
  .subst e;rcases h2 with h2|⟨e,h2⟩
   .exact .inl h2
   .exact .inr ⟨e,ZB h1 h2⟩
def kh:∀{a b:By} (k:Y),Alz a=Alz b->Ej a b->Ej (a.take k) (b.take k)
 |[],_,k,_,_=>by grind
 |_::_,[],_,h,_=>by grind
 |x::a,y::b,0,_,_=>trivial
 |x::a,y::b,k+1,hl,h=>by
  rcases h with h|⟨e,h⟩
  .exact .inl h
  .exact .inr ⟨e,kh k Bf h⟩
def br{α:Type}(le:α->α->Prop)(d:∀a b,le a b->le b a->a=b)(refl:∀a,le a a):∀{a b:Ae α},a.Pairwise le->b.Pairwise le->a.Perm b->a=b
 |[],b,_,_,p=>(Oe.nil_eq p)
 |x::a,[],_,_,p=>by simp_all
 |x::a,y::b,ha,hb,p=>by
  have e:x=y:=by
   have g:x∈y::b:=Bf;have f:y∈x::a:=Bf;rcases List.mem_cons.1 g with e|g
   .exact e
   .rcases List.mem_cons.1 f with e|f
    .grind
    .exact d _ _ ((Iq.1 ha).1 y f) ((Iq.1 hb).1 x g)
  subst e;rw[br _ d refl Bf Bf (Oe.cons_inv p)]
def CH(s:By)(i:Y):By:=s.drop i++s.take i
def QX(s:By)(i:Y)(h:i<=Alz s):Alz (CH s i)=Alz s:=by unfold CH;grind
def Adl(s:By):CH s 0=s:=by simp[CH]
def QY:By->By
 |[]=>[]
 |x::a=>a++[x]
def Ic(a:By):By:=match a.getLast? with
 |none=>[]
 |some x=>x::a.dropLast
def QZ(a:By)(x:AI):Ic (a++[x])=x::a:=by simp[Ic]
def mT(a:By):Ic (QY a)=a:=by
 cases a with
 |nil=>rfl
 |cons x a=>exact QZ a x
def Adm(a:By):QY (Ic a)=a:=by
 rcases TO a with h|⟨b,x,h⟩
 .rw[h];rfl
 .rw[h,List.concat_eq_append,QZ];rfl
def VK(s:By){i:Y}(h:i<Alz s):QY (CH s i)=CH s (i+1):=by
 unfold CH;rw[DD h,Gi];show s.drop _++s.take i++[s[i]]=_;simp
def Adi(s:By):CH s (Alz s)=s:=by simp[CH]
def Adn(s:By){i:Y}(h:i<Alz s):Ic (CH s i)=if i=0 then CH s (Alz s-1)else CH s (i-1):=by
 split
 .rename_i e;subst e;have:=VK s (i:=Alz s-1) X;rw[show Alz s-1+1=Alz s by omega,Adi]at this;rw[Adl,<-this,mT];grind
 .have:=VK s (i:=i-1) X;rw[show i-1+1=i by omega]at this;rw[<-this,mT]
def Et(L:By):Bj:=(BE 256).flatMap fun b=>(BE (Alz L)).filter fun i=>decide ((L.getD i 0).toNat=b)
def gX{α:Type}(f:α->Y)(m:Y):∀l:Ae α,(l.filter fun x=>decide (f x<m+1)).Perm ((l.filter fun x=>decide (f x<m))++l.filter fun x=>decide (f x=m))
 |[]=>.nil
 |x::l=>by
  have ih:=gX f m l;simp only[LU];rcases Ui (f x) m with h|h|h
  .rw[Aj Bf,Aj (by simpa using h),Ag Bv,Gi];simp_all
  .rw[Aj Bv,Ag Bv,Aj (by simpa using h)];exact(ih.cons x).trans List.perm_middle.symm
  .grind
def fx{α:Type}(f:α->Y)(l:Ae α):∀m,((BE m).flatMap fun b=>l.filter fun x=>decide (f x=b)).Perm (l.filter fun x=>decide (f x<m))
 |0=>by simp
 |m+1=>by
  rw[FT,IT,List.flatMap_singleton];exact((fx f l m).append_right _).trans (gX f m l).symm
def Tn(L:By):(Et L).Perm (BE (Alz L)):=by
 refine(fx _ _ 256).trans ?_;rw[WM.2];intro i _;have:=(L.getD i 0).toNat_lt;grind
def Tl(L:By):Alz (Et L)=Alz L:=by rw[(Tn L).length_eq,Hf]
def oq{L:By}{j:Y}(h:j<Alz L):(Et L).getD j 0<Alz L:=by
 have a:j<Alz (Et L):=by rwa[Tl]
 rw[Cd,BQ a];exact DX.1 ((Tn L).subset Bh)
def bk(P:Bj)(L:By):Y->Y->By
 |0,_=>[]
 |t+1,p=>L.getD (P.getD p 0) 0::bk P L t (P.getD p 0)
def Uy(P:Bj)(L:By):∀t p,Alz (bk P L t p)=t
 |0,_=>rfl
 |t+1,p=>by simp[bk,Uy]
def back(L:By)(row:Y):By:=bk (Et L) L (Alz L) row
def Agx{R:Ae By}{L:By}{n:Y}(Q:∀r∈R,Alz r=n)(hL:L=R.map fun r=>r.getLastD 0)(h0:0<n)(G:R.Pairwise Ej)(hp:(R.map Ic).Perm R):
 ((Et L).map fun i=>Ic (R.getD i []))=R:=by
 have I:Alz L=Alz R:=by rw[hL,Dl]
 have d:∀i,i<Alz L->∃a x,R.getD i []=a++[x]/\L.getD i 0=x/\Alz a+1=n:=fun i k=>by
  have g:i<Alz R:=X;have q:=Q R[i] (BL g);rcases TO R[i]with h|⟨a,x,h⟩
  .grind
  .refine⟨a,x,Bf,?_,Bf⟩;simp_all
 apply br Ej (fun _ _=>OU) QG ?_ G
 .refine((Tn L).map _).trans ?_
  have e:(BE (Alz L)).map (fun i=>Ic (R.getD i []))=R.map Ic:=by
   apply He;intro j;rcases CM j (Alz R)with h|h
   .simp_all
   .grind
  grind
 .unfold Et;rw[List.map_flatMap,List.pairwise_flatMap];refine⟨fun b _=>?_,?_⟩
  .refine LW.2 ?_;have V:((BE (Alz L)).filter fun i=>decide ((L.getD i 0).toNat=b)).Pairwise _:=HK.filter _ WU;refine(List.pairwise_iff_forall_sublist.2 fun {i j} f=>?_)
   have C:i<j:=by
    have:=HK.sublist f V;simpa using this
   have k:=Km.1 (f.subset (Ip ..));have l:=Km.1 (f.subset (Gl _ (Ip ..)));obtain⟨E,v,o,q,e3⟩:=d i Bf;obtain⟨K,t,m,D,W⟩:=d j Bf
   have T:v=t:=by
    have A:(L.getD i 0).toNat=b:=by simpa using k.2
    have w:(L.getD j 0).toNat=b:=by simpa using l.2
    rw[q]at A;rw[D]at w;exact Ku.1 X
   rw[o,m,QZ,QZ];refine .inr ⟨T,?_⟩;have g:i<Alz R:=by have:=DX.1 k.1;omega
   have p:j<Alz R:=by have:=DX.1 l.1;omega
   have B:Ej (E++[v]) (K++[t]):=by
    have:=Ir.1 G i j g p C;rw[Cd,BQ g]at o;rw[Cd,BQ p]at m;simp only[Option.getD_some]at o m;rwa[o,m]at this
   have:=kh (Alz E) Bf B;grind
  .refine HK.imp_of_mem ?_ (WU (n:=256));intro b c _ _ S x P y N;obtain⟨i,k,rfl⟩:=Cr.1 P;obtain⟨j,l,rfl⟩:=Cr.1 N;have k:=Km.1 k;have l:=Km.1 l;obtain⟨E,v,o,q,e3⟩:=d i (DX.1 k.1);obtain⟨K,t,m,D,W⟩:=d j (DX.1 l.1);have A:(L.getD i 0).toNat=b:=by simpa using k.2
   have w:(L.getD j 0).toNat=c:=by simpa using l.2
   rw[q]at A;rw[D]at w;rw[o,m,QZ,QZ];exact .inl X
def xp(a:By):(QY a).getLastD 0=a.headD 0:=by
 cases a with
 |nil=>rfl
 |cons x a=>simp[QY]
def eX{R:Ae By}{L:By}{n:Y}(v:∀r∈R,Alz r=n)(hL:L=R.map fun r=>r.getLastD 0)(h0:0<n)(l:R.Pairwise Ej)(o:(R.map Ic).Perm R)(s:By)(f:Alz s=n):
 ∀t i p,i+t=n->p<Alz L->R.getD p []=CH s i->bk (Et L) L t p=s.drop i
 |0,i,p,hi,_,_=>by
  rw[La X];rfl
 |t+1,i,p,hi,hpl,hr=>by
  have hlen:Alz L=Alz R:=by rw[hL,Dl]
  have d:=Agx v hL h0 l o;have m:=oq hpl
  have y:Ic (R.getD ((Et L).getD p 0) [])=R.getD p []:=by
   have h:((Et L).map fun i=>Ic (R.getD i []))[p]? =R[p]?:=by rw[d]
   have w:p<Alz (Et L):=by rwa[Tl]
   rw[DV,BQ,FU]at h;have e:(Et L).getD p 0=(Et L)[p]:=by rw[Cd,BQ];rfl
   rw[e,Cd (i:=p),<-h];rfl
  have k:R.getD ((Et L).getD p 0) []=QY (CH s i):=by rw[<-hr,<-y,Adm]
  have a:i<Alz s:=X;rw[VK s a]at k;rw[bk,eX v hL h0 l o s f t _ _ X m k,DD a];congr 1;have g:(Et L).getD p 0<Alz R:=X
  have j:∀q,q<Alz R->L.getD q 0=(R.getD q []).getLastD 0:=fun q m=>by
   grind
  have x:=j _ g;rw[x,k,<-VK s a,xp];unfold CH;rw[DD a];rfl
structure IsOrd(s:By)(o:Bj):Prop where
 perm:o.Perm (BE (Alz s))
 sorted:o.Pairwise fun i j=>Ej (CH s i) (CH s j)/\(CH s i=CH s j->i<j)
def IsOrd.one{s:By}{o g:Bj}(h:IsOrd s o)(k:IsOrd s g):o=g:=by
 refine br (fun i j=>i=j∨(Ej _ _/\(CH s i=CH s j->i<j))) (fun a b f d=>?_) X (h.sorted.imp .inr) (k.sorted.imp .inr) (h.perm.trans k.perm.symm);rcases f with f|⟨f,m⟩
 .omega
 .rcases d with d|⟨d,l⟩
  .omega
  .have e:=OU f d;grind
def IsOrd.lng{s:By}{o:Bj}(h:IsOrd s o):Alz o=Alz s:=by rw[h.perm.length_eq,Hf]
def Ge(s:By)(o:Bj):By:=o.map fun i=>s.getD ((if i=0 then Alz s else i)-1) 0
def JZ(o:Bj):Y:=o.idxOf 0
def Adj(s:By){i:Y}(h:i<Alz s):(CH s i).getLastD 0=s.getD ((if i=0 then Alz s else i)-1) 0:=by
 unfold CH;grind
def eK{s:By}{o:Bj}(h:IsOrd s o)(h0:s≠[]):JZ o<Alz s/\Alz (Ge s o)=Alz s/\back (Ge s o) (JZ o)=s:=by
 have f:0<Alz s:=Bf;have k:∀i∈o,i<Alz s:=fun i g=>DX.1 (h.perm.subset g);have l:Alz (Ge s o)=Alz s:=by unfold Ge;rw[Dl,h.lng]
 have n:0∈o:=h.perm.symm.subset Bf;have a:JZ o<Alz o:=PU n;refine⟨h.lng▸a,l,?_⟩;unfold back
 have y:∀r∈o.map (CH s),Alz r=Alz s:=fun r w=>by
  obtain⟨i,g,rfl⟩:=Cr.1 w;exact QX s i Bf
 have A:Ge s o=(o.map (CH s)).map fun r=>r.getLastD 0:=by
  rw[EV];exact Kl fun i g=>(Adj s (k i g)).symm
 have v:=LW.2 (h.sorted.imp fun q=>q.1)
 have x:((o.map (CH s)).map Ic).Perm (o.map (CH s)):=by
  have p:=h.perm.map (CH s);refine(p.map _).trans (Oe.trans ?_ p.symm);obtain⟨m,hm⟩:∃m,Alz s=m+1:=⟨Alz s-1,X⟩
  have e:((BE (Alz s)).map (CH s)).map Ic=CH s m::(BE m).map (CH s):=by
   rw[EV];apply He;intro j;rcases CM j (Alz s)with q|q
   .rw[DV,MY q,FU];show J (Ic _)=_;rw[Adn s q];grind
   .grind
  rw[e,hm,FT,DW,LV];grind
 have d:(o.map (CH s)).getD (JZ o) []=CH s 0:=by
  rw[Cd,DV,BQ a];have t:o.idxOf 0<Alz o:=a;have B:o[o.idxOf 0]=0:=Bh;show CH s (o[o.idxOf 0])=_;rw[B]
 have:=eX y A f v x s Z (Alz s) 0 _ X Bf d;grind
end Bz
namespace Bz
def kg:∀{a b:By} (c d:By),Alz a=Alz b->(Ej (a++c) (b++d)↔(Ej a b/\a≠b)∨(a=b/\Ej c d))
 |[],[],c,d,_=>by simp
 |[],_::_,_,_,h=>by simp at h
 |_::_,[],_,_,h=>by simp at h
 |x::a,y::b,c,d,h=>by
  have ih:=kg (a:=a) (b:=b) c d Bf;simp only[Gi,Ej,RM.injEq,ne_eq,ih];grind
def pre(s:By)(k i:Y):By:=(BE k).map fun t=>s.getD ((i+t)%Alz s) 0
def ME(s:By)(k i:Y):Alz (pre s k i)=k:=by simp[pre]
def QT(s:By)(k m i:Y):pre s (k+m) i=pre s k i++pre s m ((i+k)%Alz s):=by
 unfold pre;rw[List.range_add,DW,EV];congr 1;apply Kl;intro t _;show s.getD ((i+(k+t))%Alz s) 0=_;congr 1;rw[Nat.mod_add_mod,Lk]
def Vx(s:By){i:Y}(h:i<Alz s):pre s (Alz s) i=CH s i:=by
 apply He;intro t;rcases CM t (Alz s)with q|q
 .unfold pre CH;rw[DV,MY q,FU,List.getElem?_append];split
  .rename_i a;rw[CA]at a;rw[TQ,JG X,Cd,BQ X];rfl
  .rename_i a;rw[CA]at a ⊢
   have e:(i+t)%Alz s=t-(Alz s-i):=by
    rw[Nat.mod_eq_sub_mod X,JG X];omega
   grind
 .rw[IV (by rwa[ME]),IV (QX s i X▸q)]
def IC(a b:By):Prop:=Ej a b/\a≠b
def ZC(a b:By):IC a b∨a=b∨IC b a:=by
 rcases NX (a=b)with h|h
 .grind
 .rcases Ve a b with q|q
  .exact .inl ⟨q,h⟩
  .exact .inr (.inr ⟨q,fun e=>h e.symm⟩)
def yE{a:By}:¬IC a a:=fun q=>q.2 Z
def kz{a b c:By}(h:IC a b)(h2:IC b c):IC a c:=⟨ZB h.1 h2.1,fun e=>by subst e;exact h.2 (OU h.1 h2.1)⟩
def ky{a b:By}(c d:By)(h:Alz a=Alz b):IC (a++c) (b++d)↔IC a b∨(a=b/\IC c d):=by
 unfold IC;rw[kg c d h];constructor
 .grind
 .rintro(q|⟨rfl,q,f⟩)
  .exact⟨.inl q,fun e=>q.2 (WJ e h)⟩
  .simp_all
structure Rk(s:By)(k:Y)(rank:Bj):Prop where
 len:Alz rank=Alz s
 lt:∀i j,i<Alz s->j<Alz s->(rank.getD i 0<rank.getD j 0↔IC (pre s k i) (pre s k j))
def Rk.eq{s:By}{k:Y}{rank:Bj}(h:Rk s k rank){i j:Y}(hi:i<Alz s)(a:j<Alz s):rank.getD i 0=rank.getD j 0↔pre s k i=pre s k j:=by
 have f:=h.lt i j hi a;have d:=h.lt j i a hi;constructor
 .intro e;rcases ZC (pre s k i) (pre s k j)with q|q|q
  .grind
  .exact q
  .grind
 .grind
def Adb(s:By):Rk s 1 (s.map fun b=>b.toNat):=by
 refine⟨Bh,fun i j a d=>?_⟩
 have e:∀i,i<Alz s->(s.map fun b=>b.toNat).getD i 0=(s.getD i 0).toNat/\pre s 1 i=[s.getD i 0]:=fun i a=>by
  refine⟨?_,?_⟩
  .grind
  .simp[pre,JG a]
 rw[(e i a).1,(e j d).1,(e i a).2,(e j d).2];unfold IC;simp only[Ej,and_true,ne_eq,RM.injEq];grind
def Mk(rank:Bj)(b i j:Y):H:=
 if rank.getD i 0≠rank.getD j 0 then(rank.getD i 0:H)-rank.getD j 0
 else if rank.getD ((i+b)%Alz rank) 0≠rank.getD ((j+b)%Alz rank) 0 then(rank.getD ((i+b)%Alz rank) 0:H)-rank.getD ((j+b)%Alz rank) 0
 else(i:H)-j
structure Key(s:By)(K:Y)(rank:Bj)(b:Y):Prop where
 neg:∀i j,i<Alz s->j<Alz s->(Mk rank b i j<0↔IC (pre s K i) (pre s K j)∨(pre s K i=pre s K j/\i<j))
 same:∀i j,i<Alz s->j<Alz s->((rank.getD i 0≠rank.getD j 0∨rank.getD ((i+b)%Alz rank) 0≠rank.getD ((j+b)%Alz rank) 0)↔pre s K i≠pre s K j)
def Rk.key0{s:By}{k:Y}{rank:Bj}(h:Rk s k rank):Key s k rank 0:=by
 have g:∀i,i<Alz s->(i+0)%Alz rank=i:=fun i a=>by rw[JD,h.len,JG a]
 refine⟨fun i j a d=>?_,fun i j a d=>?_⟩
 .have f:=h.lt i j a d;have e:=h.eq a d;unfold Mk;grind
 .have e:=h.eq a d;grind
def Rk.key2{s:By}{k:Y}{rank:Bj}(h:Rk s k rank):Key s (k+k) rank k:=by
 have f:∀i,i<Alz s->(i+k)%Alz s<Alz s:=fun i a=>Qa _ X;refine⟨fun i j a d=>?_,fun i j a d=>?_⟩
 .have n:=h.lt i j a d;have l:=h.eq a d;have m:=h.lt _ _ (f i a) (f j d);have g:=h.eq (f i a) (f j d);unfold Mk;rw[h.len,QT,QT,ky _ _ (by rw[ME,ME])];split
  .rename_i q;have:¬pre s k i=pre s k j:=Bf;rw[<-n];constructor
   .omega
   .rintro((z|z)|z)
    .omega
    .grind
    .exact AH (WJ z.1 (by rw[ME,ME])) this
  .rename_i q;have e:pre s k i=pre s k j:=Bf;split
   .rename_i o;rw[<-m,e];constructor
    .grind
    .rintro((z|z)|z)
     .grind
     .omega
     .simp_all
   .grind
 .rw[h.len,QT,QT];have l:=h.eq a d;have g:=h.eq (f i a) (f j d);constructor
  .rintro(q|q)e
   .exact q (l.2 (WJ e (by rw[ME,ME])))
   .exact q (g.2 (List.append_inj_right e (by rw[ME,ME])))
  .grind
structure Sd(s:By)(K:Y)(o:Bj):Prop where
 perm:o.Perm (BE (Alz s))
 sorted:o.Pairwise fun i j=>IC (pre s K i) (pre s K j)∨(pre s K i=pre s K j/\i<j)
def Sd.lng{s:By}{K:Y}{o:Bj}(h:Sd s K o):Alz o=Alz s:=by rw[h.perm.length_eq,Hf]
def Sd.lt{s:By}{K:Y}{o:Bj}(h:Sd s K o):∀i∈o,i<Alz s:=fun i a=>DX.1 (h.perm.subset a)
def Sd.Alx{s:By}{K b:Y}{rank o:Bj}(hk:Key s K rank b)(d:o.Perm (BE (Alz s)))(h:∀i j (hi:i<Alz o) (hj:j<Alz o),i<j->¬Mk rank b o[j] o[i]<0):Sd s K o:=by
 refine⟨d,Ir.2 fun i j hi hj a=>?_⟩;have l:=h i j hi hj a;have g:=DX.1 (d.subset (BL hi));have f:=DX.1 (d.subset (BL hj));rw[hk.neg _ _ f g]at l
 have k:=by
  have e:=d.nodup_iff.2 RR;exact Ir.1 e i j hi hj a
 rcases ZC (pre s K o[i]) (pre s K o[j])with q|q|q
 .grind
 .grind
 .grind
def FJ(s:By)(K:Y)(o:Bj):Y->Y
 |0=>0
 |k+1=>FJ s K o k+if pre s K (o.getD k 0)≠pre s K (o.getD (k+1) 0)then 1 else 0
def XK(s:By)(K:Y)(o:Bj):∀k,FJ s K o k<=k
 |0=>Bq _
 |k+1=>by
  have:=XK s K o k;unfold FJ;grind
def fp{s:By}{K:Y}{o:Bj}(h:Sd s K o)(a:Y):∀d,a+d<Alz o->FJ s K o a<=FJ s K o (a+d)/\(FJ s K o a<FJ s K o (a+d)↔pre s K (o.getD a 0)≠pre s K (o.getD (a+d) 0))
 |0,_=>⟨Bq _,Bh⟩
 |d+1,hd=>by
  obtain⟨i1,i2⟩:=fp h a d X
  have hs:∀i j,i<j->j<Alz o->Ej (pre s K (o.getD i 0)) (pre s K (o.getD j 0)):=fun i j f l=>by
   have:=Ir.1 h.sorted i j X l f;rw[Cd,BQ,Cd,BQ];rcases this with q|q
   .exact q.1
   .show Ej (pre s K o[i]) _;rw[q.1];exact QG _
  have e:FJ s K o (a+(d+1))=FJ s K o (a+d)+if pre s K (o.getD (a+d) 0)≠pre s K (o.getD (a+(d+1)) 0)then 1 else 0:=rfl;have k:=hs (a+d) (a+(d+1)) X hd;rw[e];split
  .rename_i q;refine⟨X,⟨fun _ z=>?_,X⟩⟩
   have g:Ej (pre s K (o.getD a 0)) (pre s K (o.getD (a+d) 0)):=by
    rcases JF d with z|z
    .grind
    .grind
   rw[z]at g;exact q (OU k g|>fun e=>e)
  .grind
def Ada{s:By}{K:Y}{o next:Bj}(h:Sd s K o)(hl:Alz next=Alz s)(t:∀k,k<Alz o->next.getD (o.getD k 0) 0=FJ s K o k):Rk s K next:=by
 refine⟨hl,fun i j v y=>?_⟩
 have m:∀i,i<Alz s->∃a,a<Alz o/\o.getD a 0=i:=fun i v=>by
  have x:i∈o:=h.perm.symm.subset Bf;obtain⟨a,p,e⟩:=Hw.1 x;grind
 obtain⟨a,p,rfl⟩:=m i v;obtain⟨b,g,rfl⟩:=m j y;rw[t a p,t b g]
 have l:∀a b,a<=b->b<Alz o->(FJ s K o a<=FJ s K o b/\(FJ s K o a<FJ s K o b↔pre s K (o.getD a 0)≠pre s K (o.getD b 0)))/\Ej (pre s K (o.getD a 0)) (pre s K (o.getD b 0)):=fun a b f g=>by
  obtain⟨d,rfl⟩:∃d,b=a+d:=⟨b-a,X⟩;refine⟨fp h a d g,?_⟩;rcases JF d with z|z
  .subst z;exact QG _
  .have:=Ir.1 h.sorted a _ X g X;rw[Cd,BQ X,Cd,BQ g];rcases this with q|q
   .exact q.1
   .show Ej (pre s K o[a]) (pre s K o[a+d]);rw[q.1];exact QG _
 rcases Ug a b with f|f
 .obtain⟨⟨w,r⟩,n⟩:=l a b f g;rw[r];exact⟨fun q=>⟨n,q⟩,fun q=>q.2⟩
 .obtain⟨⟨w,r⟩,n⟩:=l b a f p;constructor
  .omega
  .intro q;exact AH (OU q.1 n) q.2
def yn{s:By}{K:Y}{o:Bj}(h:Sd s K o)(w:Alz s<=K):IsOrd s o:=by
 refine⟨h.perm,?_⟩;refine HK.imp_of_mem ?_ h.sorted;intro i j l k d;have g:=h.lt i l;have f:=h.lt j k;obtain⟨m,rfl⟩:∃m,K=Alz s+m:=⟨K-Alz s,X⟩;rw[QT,QT,Vx s g,Vx s f,ky _ _ (by rw[QX s i X,QX s j X]),Nat.add_mod_right,Nat.add_mod_right,JG g,JG f]at d
 have a:CH s i=CH s j->pre s m i=pre s m j:=fun e=>by
  have p:pre s (Alz s) i=pre s (Alz s) j:=by rw[Vx s g,Vx s f,e]
  apply Kl;intro t _;have n:(pre s (Alz s) i)[t%Alz s]? =(pre s (Alz s) j)[t%Alz s]?:=p▸Z;have v:t%Alz s<Alz s:=Qa _ X;unfold pre at n;simp_all
 rcases d with(q|⟨e,q⟩)|⟨e,q⟩
 .exact⟨q.1,fun e=>absurd e q.2⟩
 .exact AH (a e) q.2
 .have r:=WJ e (by rw[QX s i X,QX s j X]);exact⟨r▸QG _,fun _=>q⟩
end Bz
section
open Bz
def FB{k:AK}{l:Bj}{i:Y}(h:i<Alz l):(BD k l)[i]? =J (.int k ((l.getD i 0:Y):H)):=by
 unfold BD;grind
def Sl.at2{w:Ad}{B:Y}{A:Av AB}{xs:Bl}(h:Sl w B A xs)(hx:0<Alz xs):∃b o,A=J ⟨b,o,Aa⟩/\b<B/\∀W,Be w W->∀j u,xs[j]? =J u->W.cell? ⟨b,o+j,Aa⟩=J u:=by
 obtain⟨b,o,f,a,_⟩:=h.at_ hx;refine⟨b,o,f,a,fun W d=>?_⟩;obtain⟨i,g,e,_,q⟩:=(h.a d).at_ hx;grind
def NE(A:Av AB)(n c by_:Y):Bl:=[.slice A n c,Bb (by_:H)]
def Zx(A:Av AB)(c d:Y)(rank:Bj)(i:Y)(hi:i<Alz rank)(n:Alz rank<=1000000000)(o:d<=1000000000)(C:Y)(w:Ad)(h:Sl w C A (BD .i64 rank)):
 Bm eD 263 [.agg (NE A (Alz rank) c d).toArray,Bb (i:H)] w fun v w'=>v=.tuple #[Bb ((rank.getD i 0:Y):H),Bb ((rank.getD ((i+d)%Alz rank) 0:Y):H)]/\Be w w':=by
 have g:(i+d)%Alz rank<Alz rank:=Qa _ X;obtain⟨q,p,rfl,_,a⟩:=h.at2 (by rw[DO];omega);refine Bw Bh Z ntmps263 Bi Z ?_;refine(O 2) ?_;refine Dq Z Z Z ?_;rintro l k f j e;refine(O 6∘Zq (by exact fun _=>Bo Ck)∘O 2∘Zq (by exact fun _=>BR (a _ (e.trans (Be.drewN _ _)) _ _ (FB hi)))∘O 1∘Zq (by exact fun _=>Bo Ck)∘O 2∘Zq (by exact fun _=>Bo Ck)∘O 2∘Zq (by exact fun _=>Bo Ck)∘O 3∘Zq (by exact fun _=>BR (a _ (e.trans (Be.drewN _ _)) _ _ (FB g)))∘O 2∘QW.nil) fun m=>(BF) ?_;exact⟨Z,e.trans (Be.drewN _ _)⟩
def tP(A:Av AB)(c e:Y)(rank:Bj)(i j:Y)(hi:i<Alz rank)(D:j<Alz rank)(t:Alz rank<=1000000000)(B:e<=1000000000)(hr:∀x∈rank,x<=1000000000)(C:Y)(w:Ad)(h:Sl w C A (BD .i64 rank)):
 Bm eD 265 [.agg (NE A (Alz rank) c e).toArray,Bb (i:H),Bb (j:H)] w fun v w'=>v=Bb (Mk rank e i j)/\Be w w':=by
 have m:∀k,rank.getD k 0<=1000000000:=fun k=>by
  by_cases hk:k<Alz rank
  .simp_all
  .grind
 have S:=m i;have Q:=m j;have P:=m ((i+e)%Alz rank);have N:=m ((j+e)%Alz rank);refine Bw Bh Z ntmps265 (by rfl) Z ?_;refine(O 2) ?_;refine Dq Z Z Z ?_;rintro rb w1 y l g;refine(O 4∘Zv (BX l)∘O 1∘Zc (Zx A c _ _ i hi t B C _ (h.a g))) ?_;rintro _ W⟨rfl,f⟩;refine(O 8) ?_;have q:=l.a f;have r:=g.trans f;refine(Zv (BX q)∘O 1∘Zc (Zx A c _ _ j D t B C _ (h.a r))) ?_;rintro _ V⟨rfl,n⟩;refine(O 15) ?_;have T:=r.trans n;generalize I:rank.getD i 0=a at S;generalize G:rank.getD j 0=cc at Q;generalize p:rank.getD _ 0=b at P;generalize o:rank.getD _ 0=d at N;have E:Mk rank e i j=if a≠cc then(a:H)-cc else if b≠d then b-d else i-j:=by unfold Mk;rw[I,G,p,o]
 refine Zi (fun L=>?_) fun L=>?_
 .refine(O 7∘Bu) ?_;grind
 .refine(O 7)<|Zi (fun K=>?_) fun K=>?_
  .refine(O 7∘Bu) ?_;grind
  .refine(O 9∘Bu) ?_;grind
end
section
open Go.Sort
section
variable{α:Type}[Inhabited α]{enc:α->Ah}{cf:α->α->H}
def Jj(enc:α->Ah)(d:Ap α):Bl:=d.toList.map enc
def Ie(d:Ap α):Alz (Jj enc d)=d.size:=by simp[Jj]
def BP{d:Ap α}{i:Y}(h:i<d.size):(Jj enc d)[i]? =J (enc d[i]!):=by
 unfold Jj;grind
def GX(d:Ap α)(i j:Y):(swp d i j).size=d.size:=by simp[swp]
def Adp(d:Ap α)(i j:Y):((Jj enc d).set i (enc d[j]!)).set j (enc d[i]!)=Jj enc (swp d i j):=by
 unfold Jj swp;simp
structure CmpAt(w0:Ad)(g f:Y)(rv:Ah)(enc:α->Ah)(cf:α->α->H):Prop where
 call:∀W x y,Mo w0 W [g]->Bm eD f [rv,enc x,enc y] W fun v W'=>v=Bb (cf x y)/\Be W W'
 one:∀x,(enc x).oneCell'=Af
 body:∃fn:Func,eD.funcs[f]? =J fn
def Br(cf:α->α->H)(x y:α):Ar:=decide (cf x y<0)
structure RowAt(w0 w:Ad)(g:Y)(enc:α->Ah)(d:Ap α):Prop where
 bk:Bk w g 3 (Jj enc d)
 j:Mo w0 w [g]
def RowAt.a{w0 w w':Ad}{g:Y}{d:Ap α}(h:RowAt w0 w g enc d)(hx:Be w w'):RowAt w0 w' g enc d:=⟨h.bk.a hx,h.j.trans (Mo.Akj hx _)⟩
def RowAt.Akn{w0 w3 w5 w6:Ad}{g:Y}{d:Ap α}{i j:Y}(h:RowAt w0 w3 g enc d)(m5:Mo w3 w5 [g])(m6:Mo w5 w6 [g])(hb:Bk w6 g 3 (((Jj enc d).set i (enc d[j]!)).set j (enc d[i]!))):RowAt w0 w6 g enc (swp d i j):=
 ⟨by rw[<-Adp];omega,(h.j.trans m5).trans m6⟩
def yc(lt:α->α->Ar){a j:Y}(d:Ap α)(h:¬a<j):insInner lt a j d=d:=by
 cases j with
 |zero=>rfl
 |succ j=>rw[insInner,Ag Bf]
def yb(lt:α->α->Ar){a j:Y}(d:Ap α)(h:a<j)(h2:lt d[j]! d[j-1]! =Ai):insInner lt a j d=d:=by
 obtain⟨j,rfl⟩:∃k,j=k+1:=⟨j-1,X⟩;rw[RV]at h2;rw[insInner,Ag Bf]
def ya(lt:α->α->Ar){a j:Y}(d:Ap α)(h:a<j)(h2:lt d[j]! d[j-1]! =Af):insInner lt a j d=insInner lt a (j-1) (swp d j (j-1)):=by
 obtain⟨j,rfl⟩:∃k,j=k+1:=⟨j-1,X⟩;rw[RV]at h2 ⊢;rw[insInner,Aj Bf]
def yf{r:Ad}{g f:Y}{D:Ah}(S:CmpAt r g f D enc cf)(d:Ap α)(a b:Y)(al:a<=b)(hb:b<=d.size)(hsz:d.size<=1000000000)(w:Ad)(h:RowAt r w g enc d):
 Bm eD 294 [.slice (J ⟨g,0,Aa⟩) d.size d.size,Bb (a:H),Bb (b:H),.func (.func f) #[D] #[]] w fun v w'=>v=.tuple #[]/\RowAt r w' g enc (insertionSort (Br cf) d a b)/\(insertionSort (Br cf) d a b).size=d.size:=by
 refine Bw func294 Z ntmps294 Bi Z ?_;refine(O 7)<|Lo (fun((i,e,wr):Y×(Ap α)×Ad)=>(a+1<=i/\i<=b+1/\insOuter (Br cf) a b i e=insertionSort (Br cf) d a b/\e.size=d.size/\RowAt r wr g enc e,[(0,.slice (J ⟨g,0,Aa⟩) d.size d.size),(1,Bb a),(2,Bb b),(3,.func (.func f) #[D] #[]),(8,Bb i)],wr,b+1-i)) ((a+1),d,w) ?_ ?_
 .exact⟨Bq _,X,Z,Z,h⟩
 .rintro⟨i,e,wr⟩⟨ai,af,q,aj,hr⟩;rw[insOuter]at q;refine(O 7)<|Zi (fun y=>?_) fun y=>?_
  .rw[Aj y]at q;refine(O 9)<|Lo (fun((j,m,l):Y×(Ap α)×Ad)=>(j<=i/\insInner (Br cf) a j m=insInner (Br cf) a i e/\m.size=d.size/\RowAt r l g enc m,[(0,.slice (J ⟨g,0,Aa⟩) d.size d.size),(1,Bb a),(2,Bb b),(3,.func (.func f) #[D] #[]),(8,Bb i),(9,Bb j)],l,j)) (i,e,wr) ?_ ?_
   .grind
   .rintro⟨j,m,l⟩⟨hj,p,V,P⟩;have n:=P.a (Be.drew l);refine(O 2∘Yr 17 (fun w'=>RowAt r w' g enc m) n) fun o=>(Gv [0,1,2,3]) ?_;refine Kh 21 Z (fun I=>?_) (fun I=>?_)
    .refine(Gv [4,5,6,7]∘Yw 8 (he:=by exact fun _ C=>Bo C.bk (hi:=BP X))∘Gv [9,10,11,12]∘Yw 13 (he:=by exact fun _ C=>Bo C.bk (hi:=BP X))) ?_;refine Ha 14 Z Bi Z Z Z Z Z (S.call l.drew _ _ n.j) ?_;rintro _ T⟨rfl,E⟩;refine⟨o.a E,fun o=>?_⟩;refine(Gv [15,16]∘Yd) ?_;have N:=n.a E;refine Zi (fun Q=>?_) fun Q=>?_
     .rw[ya _ _ I (AM Q)]at p;have ab:=Ie (enc:=enc) m;have k:=N.a (Be.drew T);have o1:=S.one m[j-1]!;have o2:=S.one m[j]!;refine(O 3)<|Lc (fun(G:Ad)=>(RowAt r G g enc (swp m j (j-1)),[(0,.slice (J ⟨g,0,Aa⟩) d.size d.size),(1,Bb a),(2,Bb b),(3,.func (.func f) #[D] #[]),(8,Bb i),(9,Bb j)],G)) ?_ ?_
      .refine(Yr 18 (fun w'=>True) Ay) fun o=>(Gv [0,1,2,3,4,5,6,7,8,10,11,12])<|Ye 9 13 ?_ ?_
       .refine(Jo 9 (he:=by exact Bo k.bk (hi:=BP X))) fun o=>(Yo 13 (he:=by exact Bo k.bk (hi:=BP X))) fun o=>(Gv [14]∘Yt 15 k.bk) ?_;rintro W B x;refine⟨Ay,fun o=>?_⟩;refine(Gv [16]∘Yt 17 B) ?_;rintro K A t;refine⟨Ay,fun o=>?_⟩;refine(Yd∘Lm K) ?_;exact k.Akn x t A
       .refine(Jo 13 (he:=by exact Bo k.bk (hi:=BP X))) fun o=>(Yo 9 (he:=by exact Bo k.bk (hi:=BP X))) fun o=>(Gv [14]∘Yt 15 k.bk) ?_;rintro W B x;refine⟨Ay,fun o=>?_⟩;refine(Gv [16]∘Yt 17 B) ?_;rintro K A t;refine⟨Ay,fun o=>?_⟩;refine(Yd∘Lm K) ?_;exact k.Akn x t A
      .rintro G L;refine(O 6)<|Lb ((j-1),(swp m j (j-1)),G) ?_;exact⟨X,p,by rw[GX];omega,L⟩
     .rw[yb _ _ I (AN Q)]at p;refine(O 7)<|Lb ((i+1),m,T) ?_;grind
    .rw[yc _ _ I]at p;refine(Gv [4,5,6,7,8,9,10,11,12,13,14,15,16]∘Yd∘O 8)<|Lb ((i+1),m,l.drew) ?_;grind
  .rw[Ag y]at q;refine(O 1) ?_;refine KW.done<|Ib Z ?_;grind
end
section
variable{α:Type}[Inhabited α]{enc:α->Ah}{cf:α->α->H}
def Acw{t:Ad}{g f:Y}{y:Ah}(C:CmpAt t g f y enc cf)(d:Ap α)(a b:Y)(K:a<b)(Q:b<=d.size)(hsz:d.size<=1000000000)(w:Ad)(h:RowAt t w g enc d):
 Bm eD 298 [.slice (J ⟨g,0,Aa⟩) d.size d.size,Bb (a:H),Bb (b:H),.func (.func f) #[y] #[]] w fun v w'=>v=.tuple #[]/\RowAt t w' g enc (reverseRange d a b)/\(reverseRange d a b).size=d.size:=by
 refine Bw func298 Z ntmps298 Bi Z ?_;refine(O 12)<|Lo (fun((i,j,e,wr):Y×Y×(Ap α)×Ad)=>(j<b/\reverseLoop i j e=reverseRange d a b/\e.size=d.size/\RowAt t wr g enc e,[(0,.slice (J ⟨g,0,Aa⟩) d.size d.size),(1,Bb a),(2,Bb b),(3,.func (.func f) #[y] #[]),(8,Bb i),(9,Bb j)],wr,b-i)) (a,(b-1),d,w) ?_ ?_
 .exact⟨X,Z,Z,h⟩
 .rintro⟨i,j,e,wr⟩⟨P,l,I,E⟩;rw[reverseLoop]at l;refine(O 7)<|Zi (fun p=>?_) fun p=>?_
  .rw[Aj p]at l;have N:=C.one e[j]!;have L:=C.one e[i]!;have G:=Ie (enc:=enc) e;have k:=E.a (Be.drew wr);refine(O 3)<|Lc (fun(x:Ad)=>(RowAt t x g enc (swp e (i) (j)),[(0,.slice (J ⟨g,0,Aa⟩) d.size d.size),(1,Bb a),(2,Bb b),(3,.func (.func f) #[y] #[]),(8,Bb i),(9,Bb j)],x)) ?_ ?_
   .refine(Yr 16 (fun w'=>True) Ay) fun m=>(Gv [0,1,2,3,4,5,6,8,9,10])<|Ye 7 11 ?_ ?_
    .refine(Jo 7 (he:=by exact Bo k.bk (hi:=BP X))) fun m=>(Yo 11 (he:=by exact Bo k.bk (hi:=BP X))) fun m=>(Gv [12]∘Yt 13 k.bk) ?_;rintro D r o;refine⟨Ay,fun m=>?_⟩;refine(Gv [14]∘Yt 15 r) ?_;rintro A q n;refine⟨Ay,fun m=>?_⟩;refine(Yd∘Lm A) ?_;exact k.Akn o n q
    .refine(Jo 11 (he:=by exact Bo k.bk (hi:=BP X))) fun m=>(Yo 7 (he:=by exact Bo k.bk (hi:=BP X))) fun m=>(Gv [12]∘Yt 13 k.bk) ?_;rintro D r o;refine⟨Ay,fun m=>?_⟩;refine(Gv [14]∘Yt 15 r) ?_;rintro A q n;refine⟨Ay,fun m=>?_⟩;refine(Yd∘Lm A) ?_;exact k.Akn o n q
   .rintro x B;refine(O 12)<|Lb ((i+1),(j-1),(swp e i j),x) ?_;exact⟨X,l,by rw[GX];omega,B⟩
  .rw[Ag p]at l;refine(O 1) ?_;refine KW.done<|Ib Z ?_;grind
def KH(lt:α->α->Ar)(hi first root:Y)(e:Ap α):Y:=if 2*root+1+1<hi/\lt e[first+(2*root+1)]! e[first+(2*root+1)+1]! =Af then 2*root+1+1 else 2*root+1
def yv{lt:α->α->Ar}{hi first a:Y}{e:Ap α}(h:2*a+1<hi):a<KH lt hi first a e/\KH lt hi first a e<hi:=by
 unfold KH;grind
def Agd{lt:α->α->Ar}{hi first a:Y}{e:Ap α}(h:2*a+1<hi):siftDown lt hi first a e=if lt e[first+a]! e[first+KH lt hi first a e]! =Af then siftDown lt hi first (KH lt hi first a e) (swp e (first+a) (first+KH lt hi first a e))else e:=by
 rw[siftDown,dif_neg X];unfold KH;by_cases q:2*a+1+1<hi/\lt e[first+(2*a+1)]! e[first+(2*a+1)+1]! =Af
 .grind
 .grind
def Age{lt:α->α->Ar}{hi first a:Y}{e:Ap α}(h:hi<=2*a+1):siftDown lt hi first a e=e:=by
 rw[siftDown,AQ h]
def nP{q:Ad}{g f:Y}{C:Ah}(G:CmpAt q g f C enc cf)(N:Y)(d:Ap α)(n hi first:Y)(hN:N=d.size)(hb:first+hi<=d.size)(af:n<=hi)(hsz:d.size<=1000000000)(w:Ad)(h:RowAt q w g enc d):
 Bm eD 311 [.slice (J ⟨g,0,Aa⟩) N N,Bb (n:H),Bb (hi:H),Bb (first:H),.func (.func f) #[C] #[]] w fun v w'=>v=.tuple #[]/\RowAt q w' g enc (siftDown (Br cf) hi first n d)/\(siftDown (Br cf) hi first n d).size=d.size:=by
 subst hN;refine Bw func311 Z ntmps311 Bi Z ?_;refine(O 6)<|Lo (fun((a,e,wr):Y×(Ap α)×Ad)=>(a<=hi/\siftDown (Br cf) hi first a e=siftDown (Br cf) hi first n d/\e.size=d.size/\RowAt q wr g enc e,[(0,.slice (J ⟨g,0,Aa⟩) d.size d.size),(1,Bb n),(2,Bb hi),(3,Bb first),(4,.func (.func f) #[C] #[]),(10,Bb a)],wr,hi-a)) (n,d,w) ?_ ?_
 .grind
 .rintro⟨a,e,wr⟩⟨ab,k,aj,hr⟩;refine(O 15)<|Zi (fun K=>?_) fun K=>?_
  .rw[Age X]at k;refine(O 1) ?_;refine KW.done<|Ib Z ?_;grind
  .have hk:=yv (lt:=Br cf) (first:=first) (e:=e) (show 2*a+1<hi by omega);rw[Agd X]at k;have i:=hr.a (Be.drew wr);refine(O 3)<|Ld (fun((c,p):Y×Ad)=>(c=KH (Br cf) hi first a e/\RowAt q p g enc e,[(0,.slice (J ⟨g,0,Aa⟩) d.size d.size),(1,Bb n),(2,Bb hi),(3,Bb first),(4,.func (.func f) #[C] #[]),(10,Bb a),(11,Bb c)],p)) ?_ ?_
   .refine(Yr 22 (fun w'=>RowAt q w' g enc e) i) fun l=>(Gv [0,1,2,3,4]) ?_;refine Kh 23 Z (fun T=>?_) (fun T=>?_)
    .refine(Gv [5,6,7,8,9,10]∘Yw 11 (he:=by exact fun _ j=>Bo j.bk (hi:=BP X))∘Gv [12,13,14,15,16,17]∘Yw 18 (he:=by exact fun _ j=>Bo j.bk (hi:=BP X))) ?_;refine Ha 19 Z Bi Z Z Z Z Z (G.call wr.drew _ _ i.j) ?_;rintro _ p⟨rfl,r⟩;refine⟨l.a r,fun l=>?_⟩;refine(Gv [20,21]∘Yd)<|Zi (fun t=>?_) fun t=>?_
     .have o:KH (Br cf) hi first a e=2*a+1+1:=Aj ⟨T,AM t⟩;refine(O 5∘Lm ((2*a+1+1),p)) ?_;exact⟨o.symm,i.a r⟩
     .have o:KH (Br cf) hi first a e=2*a+1:=Ag fun z=>t (AO z.2);refine(O 1∘Lm ((2*a+1),p)) ?_;exact⟨o.symm,i.a r⟩
    .have o:KH (Br cf) hi first a e=2*a+1:=Ag fun z=>T z.1;refine(Gv [5,6,7,8,9,10,11,12,13,14,15,16,17,18,19,20,21]∘Yd∘O 2∘Lm ((2*a+1),_)) ?_;grind
   .rintro⟨c,p⟩⟨S,Q⟩;rw[<-S]at k hk;have m:=Q.a (Be.drew p);refine(O 2∘Yr 16 (fun w'=>RowAt q w' g enc e) m) fun l=>(Gv [0,1,2,3,4,5]∘Yw 6 (he:=by exact fun _ j=>Bo j.bk (hi:=BP X))∘Gv [7,8,9,10,11]∘Yw 12 (he:=by exact fun _ j=>Bo j.bk (hi:=BP X))) ?_;refine Ha 13 Z Bi Z Z Z Z Z (G.call p.drew _ _ m.j) ?_;rintro _ W⟨rfl,D⟩;refine⟨l.a D,fun l=>?_⟩;refine(Gv [14,15]∘Yd) ?_;have P:=m.a D;refine Zi (fun t=>?_) fun t=>?_
    .rw[Ag (show ¬Br cf e[first+a]! e[first+c]! =Af from fun z=>t (AO z))]at k;refine DC<|Ib Z ?_;grind
    .rw[Aj (show Br cf e[first+a]! e[first+c]! =Af from AM (Dd.1 t))]at k;have o1:=G.one e[first+c]!;have o2:=G.one e[first+a]!;have ai:=Ie (enc:=enc) e;have i:=P.a (Be.drew W);refine(O 2)<|Lc (fun(E:Ad)=>(RowAt q E g enc (swp e (first+a) (first+c)),[(0,.slice (J ⟨g,0,Aa⟩) d.size d.size),(1,Bb n),(2,Bb hi),(3,Bb first),(4,.func (.func f) #[C] #[]),(10,Bb a),(11,Bb c)],E)) ?_ ?_
     .refine(Yr 24 (fun w'=>True) Ay) fun l=>(Gv [0,1,2,3,4,5,6,7,8,9,10,11,12,14,15,16,17,18])<|Ye 13 19 ?_ ?_
      .refine(Jo 13 (he:=by exact Bo i.bk (hi:=BP X))) fun l=>(Yo 19 (he:=by exact Bo i.bk (hi:=BP X))) fun l=>(Gv [20]∘Yt 21 i.bk) ?_;rintro V B y;refine⟨Ay,fun l=>?_⟩;refine(Gv [22]∘Yt 23 B) ?_;rintro I A x;refine⟨Ay,fun l=>?_⟩;refine(Yd∘Lm I) ?_;exact i.Akn y x A
      .refine(Jo 19 (he:=by exact Bo i.bk (hi:=BP X))) fun l=>(Yo 13 (he:=by exact Bo i.bk (hi:=BP X))) fun l=>(Gv [20]∘Yt 21 i.bk) ?_;rintro V B y;refine⟨Ay,fun l=>?_⟩;refine(Gv [22]∘Yt 23 B) ?_;rintro I A x;refine⟨Ay,fun l=>?_⟩;refine(Yd∘Lm I) ?_;exact i.Akn y x A
     .rintro E L;refine(O 5)<|Lb (c,(swp e (first+a) (first+c)),E) ?_;exact⟨X,k,by rw[GX];omega,L⟩
def xS{A:Ad}{g f:Y}{C:Ah}(K:CmpAt A g f C enc cf)(N:Y)(d:Ap α)(a b:Y)(hN:N=d.size)(al:a<b)(hb:b<=d.size)(hsz:d.size<=1000000000)(w:Ad)(h:RowAt A w g enc d):
 Bm eD 295 [.slice (J ⟨g,0,Aa⟩) N N,Bb (a:H),Bb (b:H),.func (.func f) #[C] #[]] w fun v w'=>v=.tuple #[]/\RowAt A w' g enc (heapSort (Br cf) d a b)/\(heapSort (Br cf) d a b).size=d.size:=by
 subst hN;refine Bw func295 Z ntmps295 Bi Z ?_;refine(O 25)<|Lo (fun((i,e,wr):H×(Ap α)×Ad)=>((∃k:Y,i=(k:H)-1/\k<=(b-a-1)/2+1/\heapPop (Br cf) a (b-a) (heapBuild (Br cf) (b-a) a k e)=heapSort (Br cf) d a b)/\e.size=d.size/\RowAt A wr g enc e,[(0,.slice (J ⟨g,0,Aa⟩) d.size d.size),(1,Bb a),(2,Bb b),(3,.func (.func f) #[C] #[]),(8,Bb a),(9,Bb ((0:Y):H)),(10,Bb (((b-a):Y):H)),(11,Bb (i:H))],wr,(i+1).toNat)) ((((b-a-1)/2:Y):H),d,w) ?_ ?_
 .exact⟨⟨_,X,Bq _,Z⟩,Z,h⟩
 .rintro⟨i,e,wr⟩⟨⟨k,aj,hk,B⟩,T,hr⟩;refine(O 6)<|Zi (fun E=>?_) fun E=>?_
  .obtain⟨j,rfl⟩:=ES E;obtain rfl:k=j+1:=X;rw[heapBuild]at B;refine(O 9∘Zc (nP K d.size e j (b-a) a T.symm X X X wr hr)) ?_;rintro _ y⟨rfl,D,ab⟩;refine(O 7)<|Lb (((j:H)-1),(siftDown (Br cf) (b-a) a j e),y) ?_;grind
  .obtain rfl:k=0:=X;rw[heapBuild]at B;refine(O 8)<|Lo (fun((I,m,y):H×(Ap α)×Ad)=>((∃k:Y,I=(k:H)-1/\k<=b-a/\heapPop (Br cf) a k m=heapSort (Br cf) d a b)/\m.size=d.size/\RowAt A y g enc m,[(0,.slice (J ⟨g,0,Aa⟩) d.size d.size),(1,Bb a),(2,Bb b),(3,.func (.func f) #[C] #[]),(8,Bb a),(9,Bb ((0:Y):H)),(12,Bb (I:H))],y,(I+1).toNat)) (((b-a-1:Y):H),e,wr) ?_ ?_
   .grind
   .rintro⟨I,m,y⟩⟨⟨k,V,ai,r⟩,W,D⟩;refine(O 6)<|Zi (fun n=>?_) fun n=>?_
    .obtain⟨j,rfl⟩:=ES n;obtain rfl:k=j+1:=X;rw[heapPop]at r;have o1:=K.one m[a+j]!;have o2:=K.one m[a]!;have af:=Ie (enc:=enc) m;have l:=D.a (Be.drew y);refine(O 4)<|Lc (fun(G:Ad)=>(RowAt A G g enc (swp m (a) (a+j)),[(0,.slice (J ⟨g,0,Aa⟩) d.size d.size),(1,Bb a),(2,Bb b),(3,.func (.func f) #[C] #[]),(8,Bb a),(9,Bb ((0:Y):H)),(12,Bb j)],G)) ?_ ?_
     .refine(Yr 20 (fun w'=>True) Ay) fun o=>(Gv [0,1,2,3,4,5,6,7,8,9,10,12,13,14])<|Ye 11 15 ?_ ?_
      .refine(Jo 11 (he:=by exact Bo l.bk (hi:=BP X))) fun o=>(Yo 15 (he:=by exact Bo l.bk (hi:=BP X))) fun o=>(Gv [16]∘Yt 17 l.bk) ?_;rintro w5 x q;refine⟨Ay,fun o=>?_⟩;refine(Gv [18]∘Yt 19 x) ?_;rintro L t p;refine⟨Ay,fun o=>?_⟩;refine(Yd∘Lm L) ?_;exact l.Akn q p t
      .refine(Jo 15 (he:=by exact Bo l.bk (hi:=BP X))) fun o=>(Yo 11 (he:=by exact Bo l.bk (hi:=BP X))) fun o=>(Gv [16]∘Yt 17 l.bk) ?_;rintro w5 x q;refine⟨Ay,fun o=>?_⟩;refine(Gv [18]∘Yt 19 x) ?_;rintro L t p;refine⟨Ay,fun o=>?_⟩;refine(Yd∘Lm L) ?_;exact l.Akn q p t
     .rintro G S;refine(O 6∘Zc (nP K d.size (swp m a (a+j)) 0 j a (by rw[GX];omega) (by rw[GX];omega) X (by rw[GX];omega) G S)) ?_;rintro _ w8⟨rfl,Q,P⟩;refine(O 7)<|Lb (((j:H)-1),(siftDown (Br cf) j a 0 (swp m a (a+j))),w8) ?_;exact⟨⟨j,Z,X,r⟩,P.trans (by rw[GX];omega),Q⟩
    .obtain rfl:k=0:=X;rw[heapPop]at r;refine(O 1) ?_;refine KW.done<|Ib Z ?_;grind
end
section
variable{α:Type}[Inhabited α]{enc:α->Ah}{cf:α->α->H}
def aW(p:α->Ar){d:Ap α}{j i:Y}(h:i<=j)(a:p d[i]! =Af):scanUp p d j i=scanUp p d j (i+1):=by
 rw[scanUp,Aj Bf]
def Rh(p:α->Ar){d:Ap α}{j i:Y}(h:¬(i<=j/\p d[i]! =Af)):scanUp p d j i=i:=by
 rw[scanUp,Ag Bf]
def aV(p:α->Ar){d:Ap α}{j i:Y}(h:i<=j)(e:0<j)(a:p d[j]! =Af):scanDown p d i j=scanDown p d i (j-1):=by
 obtain⟨j,rfl⟩:∃k,j=k+1:=⟨j-1,X⟩;rw[scanDown,Aj Bf];rfl
def Rg(p:α->Ar){d:Ap α}{j i:Y}(h:¬(i<=j/\p d[j]! =Af)):scanDown p d i j=j:=by
 cases j with
 |zero=>rfl
 |succ j=>rw[scanDown,Ag Bf]
def Aas{D:Ad}{g f:Y}{L:Ah}(hc:CmpAt D g f L enc cf)(N:Y)(d:Ap α)(a b k:Y)(hN:N=d.size)(a9:a<=k)(a4:k<b)(hb:b<=d.size)(hsz:d.size<=1000000000)(w:Ad)(h:RowAt D w g enc d):
 Bm eD 300 [.slice (J ⟨g,0,Aa⟩) N N,Bb (a:H),Bb (b:H),Bb (k:H),.func (.func f) #[L] #[]] w fun v w'=>v=Bb (((partitionEqual (Br cf) d a b k).1:Y):H)/\RowAt D w' g enc (partitionEqual (Br cf) d a b k).2/\(partitionEqual (Br cf) d a b k).2.size=d.size:=by
 subst hN;refine Bw Bh Z ntmps300 Bi Z ?_;have o1:=hc.one d[k]!;have o2:=hc.one d[a]!;have a0:=Ie (enc:=enc) d;have l:=h.a (Be.drew w);refine(O 5)<|Lc (fun w1=>(RowAt D w1 g enc (swp d (a) (k)),[(0,.slice (J ⟨g,0,Aa⟩) d.size d.size),(1,Bb a),(2,Bb b),(3,Bb k),(4,.func (.func f) #[L] #[])],w1)) ?_ ?_
 .refine(Yr 16 (fun w'=>True) Bh) fun m=>(Gv [0,1,2,3,4,5,6,8,9,10])<|Ye 7 11 ?_ ?_
  .refine(Jo 7 (he:=by exact Bo l.bk (hi:=BP X))) fun m=>(Yo 11 (he:=by exact Bo l.bk (hi:=BP X))) fun m=>(Gv [12]∘Yt 13 l.bk) ?_;rintro w5 t q;refine⟨X,fun m=>?_⟩;refine(Gv [14]∘Yt 15 t) ?_;rintro w6 r p;refine⟨X,fun m=>?_⟩;refine(Yd∘Lm _) ?_;exact l.Akn q p r
  .refine(Jo 11 (he:=by exact Bo l.bk (hi:=BP X))) fun m=>(Yo 7 (he:=by exact Bo l.bk (hi:=BP X))) fun m=>(Gv [12]∘Yt 13 l.bk) ?_;rintro w5 t q;refine⟨X,fun m=>?_⟩;refine(Gv [14]∘Yt 15 t) ?_;rintro w6 r p;refine⟨X,fun m=>?_⟩;refine(Yd∘Lm _) ?_;exact l.Akn q p r
 .rintro w1 ao;have ai:=GX d a k;refine(O 11)<|Lo (fun((i,j,e,wr))=>(a+1<=i/\i<=j+2/\j<b/\partEqLoop (Br cf) a i j e=partitionEqual (Br cf) d a b k/\e.size=d.size/\RowAt D wr g enc e,[(0,.slice (J ⟨g,0,Aa⟩) d.size d.size),(1,Bb a),(2,Bb b),(3,Bb k),(4,.func (.func f) #[L] #[]),(11,Bb i),(12,Bb j)],wr,j+1-i)) ((a+1),(b-1),(swp d a k),w1) ?_ ?_
  .exact⟨Bq _,X,X,Z,ai,ao⟩
  .rintro⟨i,j,e,wr⟩⟨a7,a6,a5,o,a8,hr⟩;rw[partEqLoop_eq]at o;have af:=scanUp_ge (fun x=>!Br cf e[a]! x) e j i;have ab:=scanDown_le (fun x=>Br cf e[a]! x) e (scanUp (fun x=>!Br cf e[a]! x) e j i) j;refine(O 2)<|Lc (fun((A,w2):Y×Ad)=>(A=scanUp (fun x=>!Br cf e[a]! x) e (j) (i)/\RowAt D w2 g enc e,[(0,.slice (J ⟨g,0,Aa⟩) d.size d.size),(1,Bb a),(2,Bb b),(3,Bb k),(4,.func (.func f) #[L] #[]),(11,Bb (((A):Y):H)),(12,Bb (((j):Y):H))],w2)) ?_ ?_
   .refine(O 1)<|Lo (fun((K,E):Y×Ad)=>(i<=K/\scanUp (fun x=>!Br cf e[a]! x) e (j) (K)=scanUp (fun x=>!Br cf e[a]! x) e (j) (i)/\RowAt D E g enc e,[(0,.slice (J ⟨g,0,Aa⟩) d.size d.size),(1,Bb a),(2,Bb b),(3,Bb k),(4,.func (.func f) #[L] #[]),(11,Bb (((K):Y):H)),(12,Bb (((j):Y):H))],E,j+1-K)) (i,wr) ?_ ?_
    .grind
    .rintro⟨K,E⟩⟨C,B,S⟩;have n:=S.a (Be.drew E);refine(O 2∘Yr 17 (fun w'=>RowAt D w' g enc e) n) fun m=>(Gv [0,1,2,3]) ?_;refine Kh 34 Z (fun V=>?_) (fun V=>?_)
     .refine(Gv [4,5,6,7]∘Yw 8 (he:=by exact fun _ y=>Bo y.bk (hi:=BP X))∘Gv [9,10,11]∘Yw 12 (he:=by exact fun _ y=>Bo y.bk (hi:=BP X))) ?_;refine Ha 13 Z Bi Z Z Z Z Z (hc.call E.drew _ _ n.j) ?_;rintro _ v3⟨rfl,G⟩;refine⟨m.a G,fun m=>?_⟩;refine(Gv [14,15,16]∘Yd) ?_;have I:=n.a G;refine Zi (fun W=>?_) fun W=>?_
      .rw[aW (fun x=>!Br cf e[a]! x) V (show(!decide (cf e[a]! e[K]!<0))=Af by grind)]at B;refine(O 8)<|Lb ((K+1),v3) ?_;exact⟨X,B,I⟩
      .rw[Rh (fun x=>!Br cf e[a]! x) (fun z=>W (fun hh=>by have z2:(!decide (cf e[a]! e[K]!<0))=Af:=z.2;grind))]at B;refine(O 1∘Lm (K,v3)) ?_;exact⟨B,I⟩
     .rw[Rh (fun x=>!Br cf e[a]! x) (fun z=>V z.1)]at B;refine(Gv [4,5,6,7,8,9,10,11,12,13,14,15,16]∘Yd∘O 2∘Lm (K,_)) ?_;exact⟨B,n⟩
   .rintro⟨A,w2⟩⟨a2,a3⟩;rw[<-a2]at o af ab;refine(O 1)<|Lc (fun((Q,w3):Y×Ad)=>(Q=scanDown (fun x=>Br cf e[a]! x) e (A) (j)/\RowAt D w3 g enc e,[(0,.slice (J ⟨g,0,Aa⟩) d.size d.size),(1,Bb a),(2,Bb b),(3,Bb k),(4,.func (.func f) #[L] #[]),(11,Bb (((A):Y):H)),(12,Bb (((Q):Y):H))],w3)) ?_ ?_
    .refine(O 1)<|Lo (fun((P,E):Y×Ad)=>(P<=j/\scanDown (fun x=>Br cf e[a]! x) e (A) (P)=scanDown (fun x=>Br cf e[a]! x) e (A) (j)/\RowAt D E g enc e,[(0,.slice (J ⟨g,0,Aa⟩) d.size d.size),(1,Bb a),(2,Bb b),(3,Bb k),(4,.func (.func f) #[L] #[]),(11,Bb (((A):Y):H)),(12,Bb (((P):Y):H))],E,P)) (j,w2) ?_ ?_
     .grind
     .rintro⟨P,E⟩⟨C,B,S⟩;have n:=S.a (Be.drew E);refine(O 2∘Yr 16 (fun w'=>RowAt D w' g enc e) n) fun m=>(Gv [0,1,2,3]) ?_;refine Kh 53 Z (fun V=>?_) (fun V=>?_)
      .refine(Gv [4,5,6,7]∘Yw 8 (he:=by exact fun _ y=>Bo y.bk (hi:=BP X))∘Gv [9,10,11]∘Yw 12 (he:=by exact fun _ y=>Bo y.bk (hi:=BP X))) ?_;refine Ha 13 Z Bi Z Z Z Z Z (hc.call E.drew _ _ n.j) ?_;rintro _ v3⟨rfl,G⟩;refine⟨m.a G,fun m=>?_⟩;refine(Gv [14,15]∘Yd) ?_;have I:=n.a G;refine Zi (fun W=>?_) fun W=>?_
       .rw[aV (fun x=>Br cf e[a]! x) V X (AM W)]at B;refine(O 8)<|Lb ((P-1),v3) ?_;exact⟨X,B,I⟩
       .rw[Rg (fun x=>Br cf e[a]! x) (fun z=>W (AO z.2))]at B;refine(O 1∘Lm (P,v3)) ?_;exact⟨B,I⟩
      .rw[Rg (fun x=>Br cf e[a]! x) (fun z=>V z.1)]at B;refine(Gv [4,5,6,7,8,9,10,11,12,13,14,15]∘Yd∘O 2∘Lm (P,_)) ?_;exact⟨B,n⟩
    .rintro⟨Q,w3⟩⟨a1,al⟩;rw[<-a1]at o ab;refine(O 7)<|Zi (fun T=>?_) fun T=>?_
     .rw[Aj T]at o;refine(O 6∘Bu) ?_;grind
     .rw[Ag T]at o;have o1:=hc.one e[Q]!;have o2:=hc.one e[A]!;have a0:=Ie (enc:=enc) e;have l:=al.a (Be.drew w3);refine(O 2)<|Lc (fun(w7:Ad)=>(RowAt D w7 g enc (swp e (A) (Q)),[(0,.slice (J ⟨g,0,Aa⟩) d.size d.size),(1,Bb a),(2,Bb b),(3,Bb k),(4,.func (.func f) #[L] #[]),(11,Bb (((A):Y):H)),(12,Bb (((Q):Y):H))],w7)) ?_ ?_
      .refine(Yr 16 (fun w'=>True) Ay) fun m=>(Gv [0,1,2,3,4,5,6,8,9,10])<|Ye 7 11 ?_ ?_
       .refine(Jo 7 (he:=by exact Bo l.bk (hi:=BP X))) fun m=>(Yo 11 (he:=by exact Bo l.bk (hi:=BP X))) fun m=>(Gv [12]∘Yt 13 l.bk) ?_;rintro w5 t q;refine⟨Ay,fun m=>?_⟩;refine(Gv [14]∘Yt 15 t) ?_;rintro w6 r p;refine⟨Ay,fun m=>?_⟩;refine(Yd∘Lm w6) ?_;exact l.Akn q p r
       .refine(Jo 11 (he:=by exact Bo l.bk (hi:=BP X))) fun m=>(Yo 7 (he:=by exact Bo l.bk (hi:=BP X))) fun m=>(Gv [12]∘Yt 13 l.bk) ?_;rintro w5 t q;refine⟨Ay,fun m=>?_⟩;refine(Gv [14]∘Yt 15 t) ?_;rintro w6 r p;refine⟨Ay,fun m=>?_⟩;refine(Yd∘Lm w6) ?_;exact l.Akn q p r
      .rintro w7 aj;refine(O 12)<|Lb ((A+1),(Q-1),(swp e A Q),w7) ?_;exact⟨X,X,X,o,by rw[GX];omega,aj⟩
def Aar{K:Ad}{g f:Y}{P:Ah}(hc:CmpAt K g f P enc cf)(N:Y)(d:Ap α)(a b k:Y)(hN:N=d.size)(bs:a<=k)(bj:k<b)(hb:b<=d.size)(hsz:d.size<=1000000000)(w:Ad)(h:RowAt K w g enc d):
 Bm eD 301 [.slice (J ⟨g,0,Aa⟩) N N,Bb (a:H),Bb (b:H),Bb (k:H),.func (.func f) #[P] #[]] w fun v w'=>v=.tuple #[Bb (((partition (Br cf) d a b k).1:Y):H),.bool (partition (Br cf) d a b k).2.1]/\RowAt K w' g enc (partition (Br cf) d a b k).2.2/\(partition (Br cf) d a b k).2.2.size=d.size:=by
 subst hN;refine Bw Bh Z ntmps301 Bi Z ?_;have o1:=hc.one d[k]!;have o2:=hc.one d[a]!;have ai:=Ie (enc:=enc) d;have l:=h.a (Be.drew w);refine(O 6)<|Lc (fun w1=>(RowAt K w1 g enc (swp d (a) (k)),[(0,.slice (J ⟨g,0,Aa⟩) d.size d.size),(1,Bb a),(2,Bb b),(3,Bb k),(4,.func (.func f) #[P] #[])],w1)) ?_ ?_
 .refine(Yr 16 (fun w'=>True) Bh) fun m=>(Gv [0,1,2,3,4,5,6,8,9,10])<|Ye 7 11 ?_ ?_
  .refine(Jo 7 (he:=by exact Bo l.bk (hi:=BP X))) fun m=>(Yo 11 (he:=by exact Bo l.bk (hi:=BP X))) fun m=>(Gv [12]∘Yt 13 l.bk) ?_;rintro w5 t q;refine⟨X,fun m=>?_⟩;refine(Gv [14]∘Yt 15 t) ?_;rintro D r p;refine⟨X,fun m=>?_⟩;refine(Yd∘Lm _) ?_;exact l.Akn q p r
  .refine(Jo 11 (he:=by exact Bo l.bk (hi:=BP X))) fun m=>(Yo 7 (he:=by exact Bo l.bk (hi:=BP X))) fun m=>(Gv [12]∘Yt 13 l.bk) ?_;rintro w5 t q;refine⟨X,fun m=>?_⟩;refine(Gv [14]∘Yt 15 t) ?_;rintro D r p;refine⟨X,fun m=>?_⟩;refine(Yd∘Lm _) ?_;exact l.Akn q p r
 .rintro w1 a8;have a1:=GX d a k
  have hp:partition (Br cf) d a b k=(if scanUp (fun x=>Br cf x (swp d a k)[a]!) (swp d a k) (b-1) (a+1)>scanDown (fun x=>!Br cf x (swp d a k)[a]!) (swp d a k) (scanUp (fun x=>Br cf x (swp d a k)[a]!) (swp d a k) (b-1) (a+1)) (b-1)then(scanDown (fun x=>!Br cf x (swp d a k)[a]!) (swp d a k) (scanUp (fun x=>Br cf x (swp d a k)[a]!) (swp d a k) (b-1) (a+1)) (b-1),Af,swp (swp d a k) (scanDown (fun x=>!Br cf x (swp d a k)[a]!) (swp d a k) (scanUp (fun x=>Br cf x (swp d a k)[a]!) (swp d a k) (b-1) (a+1)) (b-1)) a)
   else((partLoop (Br cf) a (scanUp (fun x=>Br cf x (swp d a k)[a]!) (swp d a k) (b-1) (a+1)+1) (scanDown (fun x=>!Br cf x (swp d a k)[a]!) (swp d a k) (scanUp (fun x=>Br cf x (swp d a k)[a]!) (swp d a k) (b-1) (a+1)) (b-1)-1) (swp (swp d a k) (scanUp (fun x=>Br cf x (swp d a k)[a]!) (swp d a k) (b-1) (a+1)) (scanDown (fun x=>!Br cf x (swp d a k)[a]!) (swp d a k) (scanUp (fun x=>Br cf x (swp d a k)[a]!) (swp d a k) (b-1) (a+1)) (b-1)))).1,Ai,swp (partLoop (Br cf) a (scanUp (fun x=>Br cf x (swp d a k)[a]!) (swp d a k) (b-1) (a+1)+1) (scanDown (fun x=>!Br cf x (swp d a k)[a]!) (swp d a k) (scanUp (fun x=>Br cf x (swp d a k)[a]!) (swp d a k) (b-1) (a+1)) (b-1)-1) (swp (swp d a k) (scanUp (fun x=>Br cf x (swp d a k)[a]!) (swp d a k) (b-1) (a+1)) (scanDown (fun x=>!Br cf x (swp d a k)[a]!) (swp d a k) (scanUp (fun x=>Br cf x (swp d a k)[a]!) (swp d a k) (b-1) (a+1)) (b-1)))).2 (partLoop (Br cf) a (scanUp (fun x=>Br cf x (swp d a k)[a]!) (swp d a k) (b-1) (a+1)+1) (scanDown (fun x=>!Br cf x (swp d a k)[a]!) (swp d a k) (scanUp (fun x=>Br cf x (swp d a k)[a]!) (swp d a k) (b-1) (a+1)) (b-1)-1) (swp (swp d a k) (scanUp (fun x=>Br cf x (swp d a k)[a]!) (swp d a k) (b-1) (a+1)) (scanDown (fun x=>!Br cf x (swp d a k)[a]!) (swp d a k) (scanUp (fun x=>Br cf x (swp d a k)[a]!) (swp d a k) (b-1) (a+1)) (b-1)))).1 a)):=by
   simp[partition]
  generalize swp d a _=e at a1 hp a8;generalize partition _ d a b _=R at hp;have aj:=scanUp_ge (fun x=>Br cf x e[a]!) e (b-1) (a+1);have af:=scanDown_le (fun x=>!Br cf x e[a]!) e (scanUp (fun x=>Br cf x e[a]!) e (b-1) (a+1)) (b-1);have a3:=(scanDown_spec (fun x=>!Br cf x e[a]!) e (scanUp (fun x=>Br cf x e[a]!) e (b-1) (a+1)) (b-1)).2.1;have a4:=(scanUp_spec (fun x=>Br cf x e[a]!) e (b-1) _ (a+1) Z).2.1;refine(O 10)<|Lc (fun((T,w2))=>(T=scanUp (fun x=>Br cf x e[a]!) e ((b-1)) ((a+1))/\RowAt K w2 g enc e,[(0,.slice (J ⟨g,0,Aa⟩) d.size d.size),(1,Bb a),(2,Bb b),(3,Bb k),(4,.func (.func f) #[P] #[]),(12,Bb (((T):Y))),(13,Bb ((((b-1)):Y)))],w2)) ?_ ?_
  .refine(O 1)<|Lo (fun((S,E):Y×Ad)=>((a+1)<=S/\scanUp (fun x=>Br cf x e[a]!) e ((b-1)) (S)=scanUp (fun x=>Br cf x e[a]!) e ((b-1)) ((a+1))/\RowAt K E g enc e,[(0,.slice (J ⟨g,0,Aa⟩) d.size d.size),(1,Bb a),(2,Bb b),(3,Bb k),(4,.func (.func f) #[P] #[]),(12,Bb (((S):Y):H)),(13,Bb ((((b-1)):Y):H))],E,(b-1)+1-S)) ((a+1),w1) ?_ ?_
   .grind
   .rintro⟨S,E⟩⟨A,C,V⟩;have o:=V.a (Be.drew E);refine(O 2∘Yr 16 (fun w'=>RowAt K w' g enc e) o) fun m=>(Gv [0,1,2,3]) ?_;refine Kh 35 Z (fun h0=>?_) (fun h0=>?_)
    .refine(Gv [4,5,6,7]∘Yw 8 (he:=by exact fun _ B=>Bo B.bk (hi:=BP X))∘Gv [9,10,11]∘Yw 12 (he:=by exact fun _ B=>Bo B.bk (hi:=BP X))) ?_;refine Ha 13 Z Bi Z Z Z Z Z (hc.call E.drew _ _ o.j) ?_;rintro _ v3⟨rfl,G⟩;refine⟨m.a G,fun m=>?_⟩;refine(Gv [14,15]∘Yd) ?_;have I:=o.a G;refine Zi (fun W=>?_) fun W=>?_
     .rw[aW (fun x=>Br cf x e[a]!) h0 (AM W)]at C;refine(O 8)<|Lb ((S+1),v3) ?_;exact⟨X,C,I⟩
     .rw[Rh (fun x=>Br cf x e[a]!) (fun z=>W (AO z.2))]at C;refine(O 1∘Lm (S,v3)) ?_;exact⟨C,I⟩
    .rw[Rh (fun x=>Br cf x e[a]!) (fun z=>h0 z.1)]at C;refine(Gv [4,5,6,7,8,9,10,11,12,13,14,15]∘Yd∘O 2∘Lm (S,_)) ?_;exact⟨C,o⟩
  .rintro⟨T,w2⟩⟨bc,bi⟩;rw[<-bc]at hp aj af a3 a4;refine(O 1)<|Lc (fun((j2,w3):Y×Ad)=>(j2=scanDown (fun x=>!Br cf x e[a]!) e (T) ((b-1))/\RowAt K w3 g enc e,[(0,.slice (J ⟨g,0,Aa⟩) d.size d.size),(1,Bb a),(2,Bb b),(3,Bb k),(4,.func (.func f) #[P] #[]),(12,Bb (((T):Y):H)),(13,Bb (((j2):Y):H))],w3)) ?_ ?_
   .refine(O 1)<|Lo (fun((L,E):Y×Ad)=>(L<=(b-1)/\scanDown (fun x=>!Br cf x e[a]!) e (T) (L)=scanDown (fun x=>!Br cf x e[a]!) e (T) ((b-1))/\RowAt K E g enc e,[(0,.slice (J ⟨g,0,Aa⟩) d.size d.size),(1,Bb a),(2,Bb b),(3,Bb k),(4,.func (.func f) #[P] #[]),(12,Bb (((T):Y):H)),(13,Bb (((L):Y):H))],E,L)) ((b-1),w2) ?_ ?_
    .grind
    .rintro⟨L,E⟩⟨A,C,V⟩;have o:=V.a (Be.drew E);refine(O 2∘Yr 17 (fun w'=>RowAt K w' g enc e) o) fun m=>(Gv [0,1,2,3]) ?_;refine Kh 53 Z (fun h0=>?_) (fun h0=>?_)
     .refine(Gv [4,5,6,7]∘Yw 8 (he:=by exact fun _ B=>Bo B.bk (hi:=BP X))∘Gv [9,10,11]∘Yw 12 (he:=by exact fun _ B=>Bo B.bk (hi:=BP X))) ?_;refine Ha 13 Z Bi Z Z Z Z Z (hc.call E.drew _ _ o.j) ?_;rintro _ v3⟨rfl,G⟩;refine⟨m.a G,fun m=>?_⟩;refine(Gv [14,15,16]∘Yd) ?_;have I:=o.a G;refine Zi (fun W=>?_) fun W=>?_
      .rw[aV (fun x=>!Br cf x e[a]!) h0 X (show(!decide (cf e[L]! e[a]!<0))=Af by rw[AN W];rfl)]at C;refine(O 8)<|Lb ((L-1),v3) ?_;exact⟨X,C,I⟩
      .rw[Rg (fun x=>!Br cf x e[a]!) (fun z=>W (fun hh=>by have z2:(!decide (cf e[L]! e[a]!<0))=Af:=z.2;rw[AM hh]at z2;cases z2))]at C;refine(O 1∘Lm (L,v3)) ?_;exact⟨C,I⟩
     .rw[Rg (fun x=>!Br cf x e[a]!) (fun z=>h0 z.1)]at C;refine(Gv [4,5,6,7,8,9,10,11,12,13,14,15,16]∘Yd∘O 2∘Lm (L,_)) ?_;exact⟨C,o⟩
   .rintro⟨j2,w3⟩⟨ba,a2⟩;rw[<-ba]at hp af a3;refine(O 7)<|Zi (fun a0=>?_) fun a0=>?_
    .rw[Aj a0]at hp;subst hp;have o1:=hc.one e[a]!;have o2:=hc.one e[j2]!;have ai:=Ie (enc:=enc) e;have l:=a2.a (Be.drew w3);refine(O 1)<|Lc (fun(w4:Ad)=>(RowAt K w4 g enc (swp e (j2) (a)),[(0,.slice (J ⟨g,0,Aa⟩) d.size d.size),(1,Bb a),(2,Bb b),(3,Bb k),(4,.func (.func f) #[P] #[]),(12,Bb (((T):Y):H)),(13,Bb (((j2):Y):H))],w4)) ?_ ?_
     .refine(Yr 16 (fun w'=>True) Ay) fun m=>(Gv [0,1,2,3,4,5,6,8,9,10])<|Ye 7 11 ?_ ?_
      .refine(Jo 7 (he:=by exact Bo l.bk (hi:=BP X))) fun m=>(Yo 11 (he:=by exact Bo l.bk (hi:=BP X))) fun m=>(Gv [12]∘Yt 13 l.bk) ?_;rintro w5 t q;refine⟨Ay,fun m=>?_⟩;refine(Gv [14]∘Yt 15 t) ?_;rintro D r p;refine⟨Ay,fun m=>?_⟩;refine(Yd∘Lm D) ?_;exact l.Akn q p r
      .refine(Jo 11 (he:=by exact Bo l.bk (hi:=BP X))) fun m=>(Yo 7 (he:=by exact Bo l.bk (hi:=BP X))) fun m=>(Gv [12]∘Yt 13 l.bk) ?_;rintro w5 t q;refine⟨Ay,fun m=>?_⟩;refine(Gv [14]∘Yt 15 t) ?_;rintro D r p;refine⟨Ay,fun m=>?_⟩;refine(Yd∘Lm D) ?_;exact l.Akn q p r
     .rintro w4 ao;refine(O 6∘BF) ?_;exact⟨Z,ao,by rw[GX];exact a1⟩
    .rw[Ag a0]at hp;have o1:=hc.one e[j2]!;have o2:=hc.one e[T]!;have ai:=Ie (enc:=enc) e;have l:=a2.a (Be.drew w3);refine(O 2)<|Lc (fun(w4:Ad)=>(RowAt K w4 g enc (swp e (T) (j2)),[(0,.slice (J ⟨g,0,Aa⟩) d.size d.size),(1,Bb a),(2,Bb b),(3,Bb k),(4,.func (.func f) #[P] #[]),(12,Bb (((T):Y):H)),(13,Bb (((j2):Y):H))],w4)) ?_ ?_
     .refine(Yr 16 (fun w'=>True) Ay) fun m=>(Gv [0,1,2,3,4,5,6,8,9,10])<|Ye 7 11 ?_ ?_
      .refine(Jo 7 (he:=by exact Bo l.bk (hi:=BP X))) fun m=>(Yo 11 (he:=by exact Bo l.bk (hi:=BP X))) fun m=>(Gv [12]∘Yt 13 l.bk) ?_;rintro w5 t q;refine⟨Ay,fun m=>?_⟩;refine(Gv [14]∘Yt 15 t) ?_;rintro D r p;refine⟨Ay,fun m=>?_⟩;refine(Yd∘Lm D) ?_;exact l.Akn q p r
      .refine(Jo 11 (he:=by exact Bo l.bk (hi:=BP X))) fun m=>(Yo 7 (he:=by exact Bo l.bk (hi:=BP X))) fun m=>(Gv [12]∘Yt 13 l.bk) ?_;rintro w5 t q;refine⟨Ay,fun m=>?_⟩;refine(Gv [14]∘Yt 15 t) ?_;rintro D r p;refine⟨Ay,fun m=>?_⟩;refine(Yd∘Lm D) ?_;exact l.Akn q p r
     .rintro w4 ao;have a5:(swp e T j2).size=d.size:=by rw[GX];exact a1
      generalize swp e T j2=e4 at hp ao a5;generalize hQ:partLoop (Br cf) a (T+1) (j2-1) e4=Q at hp;subst hp;refine(O 13)<|Lc (fun((jr,er,w9):Y×(Ap α)×Ad)=>(Q=(jr,er)/\er.size=d.size/\jr<b/\RowAt K w9 g enc er,[(0,.slice (J ⟨g,0,Aa⟩) d.size d.size),(1,Bb a),(2,Bb b),(3,Bb k),(4,.func (.func f) #[P] #[]),(13,Bb jr)],w9)) ?_ ?_
      .refine(O 1)<|Lo (fun((i,j,n,wr):Y×Y×(Ap α)×Ad)=>(a+1<=i/\i<=j+2/\j<b/\partLoop (Br cf) a i j n=Q/\n.size=d.size/\RowAt K wr g enc n,[(0,.slice (J ⟨g,0,Aa⟩) d.size d.size),(1,Bb a),(2,Bb b),(3,Bb k),(4,.func (.func f) #[P] #[]),(12,Bb i),(13,Bb j)],wr,j+1-i)) ((T+1),(j2-1),e4,w4) ?_ ?_
       .grind
       .rintro⟨i,j,n,wr⟩⟨bq,bn,bm,y,bd,hr⟩;rw[partLoop_eq]at y;have aj:=scanUp_ge (fun x=>Br cf x n[a]!) n j i;have af:=scanDown_le (fun x=>!Br cf x n[a]!) n (scanUp (fun x=>Br cf x n[a]!) n j i) j;refine(O 2)<|Lc (fun((i5,w5):Y×Ad)=>(i5=scanUp (fun x=>Br cf x n[a]!) n (j) (i)/\RowAt K w5 g enc n,[(0,.slice (J ⟨g,0,Aa⟩) d.size d.size),(1,Bb a),(2,Bb b),(3,Bb k),(4,.func (.func f) #[P] #[]),(12,Bb (((i5):Y):H)),(13,Bb (((j):Y):H))],w5)) ?_ ?_
        .refine(O 1)<|Lo (fun((S,E):Y×Ad)=>(i<=S/\scanUp (fun x=>Br cf x n[a]!) n (j) (S)=scanUp (fun x=>Br cf x n[a]!) n (j) (i)/\RowAt K E g enc n,[(0,.slice (J ⟨g,0,Aa⟩) d.size d.size),(1,Bb a),(2,Bb b),(3,Bb k),(4,.func (.func f) #[P] #[]),(12,Bb (((S):Y):H)),(13,Bb (((j):Y):H))],E,j+1-S)) (i,wr) ?_ ?_
         .grind
         .rintro⟨S,E⟩⟨A,C,V⟩;have o:=V.a (Be.drew E);refine(O 2∘Yr 16 (fun w'=>RowAt K w' g enc n) o) fun m=>(Gv [0,1,2,3]) ?_;refine Kh 108 Z (fun h0=>?_) (fun h0=>?_)
          .refine(Gv [4,5,6,7]∘Yw 8 (he:=by exact fun _ B=>Bo B.bk (hi:=BP X))∘Gv [9,10,11]∘Yw 12 (he:=by exact fun _ B=>Bo B.bk (hi:=BP X))) ?_;refine Ha 13 Z Bi Z Z Z Z Z (hc.call E.drew _ _ o.j) ?_;rintro _ v3⟨rfl,G⟩;refine⟨m.a G,fun m=>?_⟩;refine(Gv [14,15]∘Yd) ?_;have I:=o.a G;refine Zi (fun W=>?_) fun W=>?_
           .rw[aW (fun x=>Br cf x n[a]!) h0 (AM W)]at C;refine(O 8)<|Lb ((S+1),v3) ?_;exact⟨X,C,I⟩
           .rw[Rh (fun x=>Br cf x n[a]!) (fun z=>W (AO z.2))]at C;refine(O 1∘Lm (S,v3)) ?_;exact⟨C,I⟩
          .rw[Rh (fun x=>Br cf x n[a]!) (fun z=>h0 z.1)]at C;refine(Gv [4,5,6,7,8,9,10,11,12,13,14,15]∘Yd∘O 2∘Lm (S,_)) ?_;exact⟨C,o⟩
        .rintro⟨i5,w5⟩⟨bb,bh⟩;rw[<-bb]at y aj af;refine(O 1)<|Lc (fun((j5,D):Y×Ad)=>(j5=scanDown (fun x=>!Br cf x n[a]!) n (i5) (j)/\RowAt K D g enc n,[(0,.slice (J ⟨g,0,Aa⟩) d.size d.size),(1,Bb a),(2,Bb b),(3,Bb k),(4,.func (.func f) #[P] #[]),(12,Bb (((i5):Y):H)),(13,Bb (((j5):Y):H))],D)) ?_ ?_
         .refine(O 1)<|Lo (fun((L,E):Y×Ad)=>(L<=j/\scanDown (fun x=>!Br cf x n[a]!) n (i5) (L)=scanDown (fun x=>!Br cf x n[a]!) n (i5) (j)/\RowAt K E g enc n,[(0,.slice (J ⟨g,0,Aa⟩) d.size d.size),(1,Bb a),(2,Bb b),(3,Bb k),(4,.func (.func f) #[P] #[]),(12,Bb (((i5):Y):H)),(13,Bb (((L):Y):H))],E,L)) (j,w5) ?_ ?_
          .grind
          .rintro⟨L,E⟩⟨A,C,V⟩;have o:=V.a (Be.drew E);refine(O 2∘Yr 17 (fun w'=>RowAt K w' g enc n) o) fun m=>(Gv [0,1,2,3]) ?_;refine Kh 126 Z (fun h0=>?_) (fun h0=>?_)
           .refine(Gv [4,5,6,7]∘Yw 8 (he:=by exact fun _ B=>Bo B.bk (hi:=BP X))∘Gv [9,10,11]∘Yw 12 (he:=by exact fun _ B=>Bo B.bk (hi:=BP X))) ?_;refine Ha 13 Z Bi Z Z Z Z Z (hc.call E.drew _ _ o.j) ?_;rintro _ v3⟨rfl,G⟩;refine⟨m.a G,fun m=>?_⟩;refine(Gv [14,15,16]∘Yd) ?_;have I:=o.a G;refine Zi (fun W=>?_) fun W=>?_
            .rw[aV (fun x=>!Br cf x n[a]!) h0 X (show(!decide (cf n[L]! n[a]!<0))=Af by rw[AN W];rfl)]at C;refine(O 8)<|Lb ((L-1),v3) ?_;exact⟨X,C,I⟩
            .rw[Rg (fun x=>!Br cf x n[a]!) (fun z=>W (fun hh=>by have z2:(!decide (cf n[L]! n[a]!<0))=Af:=z.2;rw[AM hh]at z2;cases z2))]at C;refine(O 1∘Lm (L,v3)) ?_;exact⟨C,I⟩
           .rw[Rg (fun x=>!Br cf x n[a]!) (fun z=>h0 z.1)]at C;refine(Gv [4,5,6,7,8,9,10,11,12,13,14,15,16]∘Yd∘O 2∘Lm (L,_)) ?_;exact⟨C,o⟩
         .rintro⟨j5,D⟩⟨a9,a7⟩;rw[<-a9]at y af;refine(O 7)<|Zi (fun ab=>?_) fun ab=>?_
          .rw[Aj ab]at y;refine(O 1∘Lm (j5,n,D)) ?_;grind
          .rw[Ag ab]at y;have o1:=hc.one n[j5]!;have o2:=hc.one n[i5]!;have ai:=Ie (enc:=enc) n;have l:=a7.a (Be.drew D);refine(O 2)<|Lc (fun(w7:Ad)=>(RowAt K w7 g enc (swp n (i5) (j5)),[(0,.slice (J ⟨g,0,Aa⟩) d.size d.size),(1,Bb a),(2,Bb b),(3,Bb k),(4,.func (.func f) #[P] #[]),(12,Bb (((i5):Y):H)),(13,Bb (((j5):Y):H))],w7)) ?_ ?_
           .refine(Yr 16 (fun w'=>True) Ay) fun m=>(Gv [0,1,2,3,4,5,6,8,9,10])<|Ye 7 11 ?_ ?_
            .refine(Jo 7 (he:=by exact Bo l.bk (hi:=BP X))) fun m=>(Yo 11 (he:=by exact Bo l.bk (hi:=BP X))) fun m=>(Gv [12]∘Yt 13 l.bk) ?_;rintro w5 t q;refine⟨Ay,fun m=>?_⟩;refine(Gv [14]∘Yt 15 t) ?_;rintro D r p;refine⟨Ay,fun m=>?_⟩;refine(Yd∘Lm D) ?_;exact l.Akn q p r
            .refine(Jo 11 (he:=by exact Bo l.bk (hi:=BP X))) fun m=>(Yo 7 (he:=by exact Bo l.bk (hi:=BP X))) fun m=>(Gv [12]∘Yt 13 l.bk) ?_;rintro w5 t q;refine⟨Ay,fun m=>?_⟩;refine(Gv [14]∘Yt 15 t) ?_;rintro D r p;refine⟨Ay,fun m=>?_⟩;refine(Yd∘Lm D) ?_;exact l.Akn q p r
           .rintro w7 al;refine(O 12)<|Lb ((i5+1),(j5-1),(swp n i5 j5),w7) ?_;exact⟨X,X,X,y,by rw[GX];omega,al⟩
      .rintro⟨jr,er,w9⟩⟨rfl,bf,bl,a6⟩;have o1:=hc.one er[a]!;have o2:=hc.one er[jr]!;have ai:=Ie (enc:=enc) er;have l:=a6.a (Be.drew w9);refine(O 1)<|Lc (fun(w7:Ad)=>(RowAt K w7 g enc (swp er (jr) (a)),[(0,.slice (J ⟨g,0,Aa⟩) d.size d.size),(1,Bb a),(2,Bb b),(3,Bb k),(4,.func (.func f) #[P] #[]),(13,Bb jr)],w7)) ?_ ?_
       .refine(Yr 16 (fun w'=>True) Ay) fun m=>(Gv [0,1,2,3,4,5,6,8,9,10])<|Ye 7 11 ?_ ?_
        .refine(Jo 7 (he:=by exact Bo l.bk (hi:=BP X))) fun m=>(Yo 11 (he:=by exact Bo l.bk (hi:=BP X))) fun m=>(Gv [12]∘Yt 13 l.bk) ?_;rintro w5 t q;refine⟨Ay,fun m=>?_⟩;refine(Gv [14]∘Yt 15 t) ?_;rintro D r p;refine⟨Ay,fun m=>?_⟩;refine(Yd∘Lm D) ?_;exact l.Akn q p r
        .refine(Jo 11 (he:=by exact Bo l.bk (hi:=BP X))) fun m=>(Yo 7 (he:=by exact Bo l.bk (hi:=BP X))) fun m=>(Gv [12]∘Yt 13 l.bk) ?_;rintro w5 t q;refine⟨Ay,fun m=>?_⟩;refine(Gv [14]∘Yt 15 t) ?_;rintro D r p;refine⟨Ay,fun m=>?_⟩;refine(Yd∘Lm D) ?_;exact l.Akn q p r
       .rintro w7 al;refine(O 6∘BF) ?_;exact⟨Z,al,by rw[GX];omega⟩
end
section
variable{α:Type}[Inhabited α]{enc:α->Ah}{cf:α->α->H}
def RowAt.other{w0 w w':Ad}{g sb:Y}{d:Ap α}(h:RowAt w0 w g enc d)(m:Mo w w' [sb])(hsb:w0.heap.size<=sb)(hne:sb≠g):RowAt w0 w' g enc d:=
 ⟨h.bk.j m Bf,(((h.j.mono (fun k hk=>Gl sb hk)).trans (m.mono Bh)).fresh (fun k hk hl=>by
  grind))⟩
def am{m:Ad}{g f:Y}{A:Ah}(D:CmpAt m g f A enc cf)(d:Ap α)(a b n k:Y)(G:a<d.size)(E:b<d.size)(hk:k<=1000)(hsz:d.size<=1000000000)(o:m.heap.size<=n)(x:n≠g)(w:Ad)(h:RowAt m w g enc d)(C:Bk w n 3 [Bb (k:H)]):
 Bm eD 324 [.slice (J ⟨g,0,Aa⟩) d.size d.size,Bb (a:H),Bb (b:H),.pointer (J ⟨n,0,Aa⟩),.func (.func f) #[A] #[]] w fun v w'=>v=.tuple #[Bb (((order2 (Br cf) d a b k).1:Y):H),Bb (((order2 (Br cf) d a b k).2.1:Y):H)]/\RowAt m w' g enc d/\Bk w' n 3 [Bb (((order2 (Br cf) d a b k).2.2:Y):H)]/\(order2 (Br cf) d a b k).1<d.size/\(order2 (Br cf) d a b k).2.1<d.size/\(order2 (Br cf) d a b k).2.2<=k+1:=by
 have j:=h.a (Be.drew w);refine Bw func324 Z ntmps324 Bi Z ?_;refine(O 7∘Yr 11 (fun w'=>RowAt m w' g enc d) j) fun B=>(Gv [0,1,2,3]∘Yw 4 (he:=by exact fun _ l=>Bo l.bk (hi:=BP X))∘Gv [5,6,7]∘Yw 8 (he:=by exact fun _ l=>Bo l.bk (hi:=BP X))) ?_;refine Ha 9 Z Bi Z Z Z Z Z (D.call w.drew _ _ j.j) ?_;rintro _ K⟨rfl,i⟩;refine⟨B.a i,fun B=>?_⟩;refine(Gv [10]∘Yd) ?_;have r:=j.a i;have q:=(C.a (Be.drew w)).a i;refine Zi (fun t=>?_) fun t=>?_
 .have e:order2 (Br cf) d a b k=(b,a,k+1):=Aj (AM t);refine(O 7∘Zt q) ?_;rintro I p y;refine(O 8∘BF) ?_;rw[e];exact⟨Z,r.other y o x,p,E,G,Bq _⟩
 .have e:order2 (Br cf) d a b k=(a,b,k):=Ag (fun z=>t (AO z));refine(O 8∘BF) ?_;grind
def ZF{m:Ad}{g f:Y}{r:Ah}(o:CmpAt m g f r enc cf)(d:Ap α)(a b c i k:Y)(K:a<d.size)(I:b<d.size)(n:c<d.size)(hk:k<=900)(hsz:d.size<=1000000000)(j:m.heap.size<=i)(l:i≠g)(w:Ad)(h:RowAt m w g enc d)(G:Bk w i 3 [Bb (k:H)]):
 Bm eD 313 [.slice (J ⟨g,0,Aa⟩) d.size d.size,Bb (a:H),Bb (b:H),Bb (c:H),.pointer (J ⟨i,0,Aa⟩),.func (.func f) #[r] #[]] w fun v w'=>v=Bb (((median (Br cf) d a b c k).1:Y):H)/\RowAt m w' g enc d/\Bk w' i 3 [Bb (((median (Br cf) d a b c k).2:Y):H)]/\(median (Br cf) d a b c k).1<d.size/\(median (Br cf) d a b c k).2<=k+3:=by
 have e:median (Br cf) d a b c k=((order2 (Br cf) d (order2 (Br cf) d a b k).1 (order2 (Br cf) d (order2 (Br cf) d a b k).2.1 c (order2 (Br cf) d a b k).2.2).1 (order2 (Br cf) d (order2 (Br cf) d a b k).2.1 c (order2 (Br cf) d a b k).2.2).2.2).2.1,(order2 (Br cf) d (order2 (Br cf) d a b k).1 (order2 (Br cf) d (order2 (Br cf) d a b k).2.1 c (order2 (Br cf) d a b k).2.2).1 (order2 (Br cf) d (order2 (Br cf) d a b k).2.1 c (order2 (Br cf) d a b k).2.2).2.2).2.2):=rfl;rw[e];refine Bw func313 Z ntmps313 (by rfl) Z ?_;refine(O 11∘Zc (am o d a b i k K I X hsz j l w h G)) ?_;rintro _ B⟨rfl,N,q,y,x,E⟩;refine(O 13) ?_;generalize order2 (Br cf) d a b k=r1 at q y x E;refine(Zc (am o d r1.2.1 c i r1.2.2 x n X hsz j l B N q)) ?_;rintro _ A⟨rfl,L,p,t,D,C⟩;refine(O 13) ?_;generalize order2 (Br cf) d r1.2.1 c r1.2.2=r2 at p t D C;refine(Zc (am o d r1.1 r2.1 i r2.2.2 y t X hsz j l A L p)) ?_;rintro _ P⟨rfl,W,Q,V,T,S⟩;refine(O 11∘Bu) ?_;grind
def ZE{i:Ad}{g f:Y}{m:Ah}(r:CmpAt i g f m enc cf)(d:Ap α)(a e k:Y)(A:1<=a)(t:a+1<d.size)(hk:k<=900)(hsz:d.size<=1000000000)(j:i.heap.size<=e)(l:e≠g)(w:Ad)(h:RowAt i w g enc d)(q:Bk w e 3 [Bb (k:H)]):
 Bm eD 312 [.slice (J ⟨g,0,Aa⟩) d.size d.size,Bb (a:H),.pointer (J ⟨e,0,Aa⟩),.func (.func f) #[m] #[]] w fun v w'=>v=Bb (((medianAdjacent (Br cf) d a k).1:Y):H)/\RowAt i w' g enc d/\Bk w' e 3 [Bb (((medianAdjacent (Br cf) d a k).2:Y):H)]/\(medianAdjacent (Br cf) d a k).1<d.size/\(medianAdjacent (Br cf) d a k).2<=k+3:=by
 refine Bw func312 Z ntmps312 (by rfl) Z ?_;refine(O 14∘Zc (ZF r d (a-1) a (a+1) e k X X t hk hsz j l w h q)) ?_;rintro _ y⟨rfl,x,n,p,o⟩;refine(O 2∘Bu) ?_;exact⟨Z,x,n,p,o⟩
def ON:Hint->Y
 |.unknown=>0
 |.increasing=>1
 |.decreasing=>2
def Abc(lt:α->α->Ar)(d:Ap α)(a b:Y)(r:Y×Y)(e:r=(if b-a≥8 then
 if b-a≥50 then median lt d (medianAdjacent lt d (a+(b-a)/4*1) 0).1 (medianAdjacent lt d (a+(b-a)/4*2) (medianAdjacent lt d (a+(b-a)/4*1) 0).2).1 (medianAdjacent lt d (a+(b-a)/4*3) (medianAdjacent lt d (a+(b-a)/4*2) (medianAdjacent lt d (a+(b-a)/4*1) 0).2).2).1 (medianAdjacent lt d (a+(b-a)/4*3) (medianAdjacent lt d (a+(b-a)/4*2) (medianAdjacent lt d (a+(b-a)/4*1) 0).2).2).2
 else median lt d (a+(b-a)/4*1) (a+(b-a)/4*2) (a+(b-a)/4*3) 0
 else(a+(b-a)/4*2,0))):choosePivot lt d a b=(r.1,if r.2=0 then .increasing else if r.2=12 then .decreasing else .unknown):=by
 subst e;rfl
def Abe{D:Ad}{g f:Y}{T:Ah}(C:CmpAt D g f T enc cf)(N:Y)(d:Ap α)(a b:Y)(hN:N=d.size)(ai:a+12<b)(hb:b<=d.size)(hsz:d.size<=1000000000)(w:Ad)(h:RowAt D w g enc d):
 Bm eD 297 [.slice (J ⟨g,0,Aa⟩) N N,Bb (a:H),Bb (b:H),.func (.func f) #[T] #[]] w fun v w'=>v=.tuple #[Bb (((choosePivot (Br cf) d a b).1:Y):H),Bb ((ON (choosePivot (Br cf) d a b).2:Y):H)]/\RowAt D w' g enc d:=by
 subst hN;have e:=Abc (Br cf) d a b;rw[Aj X]at e;have hq:=Nat.div_mul_le_self (b-a) 4;have af:3<=(b-a)/4:=X;have hi:a+(b-a)/4*1+1<d.size:=X;have hj:a+(b-a)/4*2+1<d.size:=X;have hk:a+(b-a)/4*3+1<d.size:=X;have B:1<=a+(b-a)/4*1:=X;have A:1<=a+(b-a)/4*2:=X;have y:1<=a+(b-a)/4*3:=X;refine Bw func297 Z ntmps297 (by rfl) Z ?_;refine(O 14∘Mf) ?_;rintro r L ab x I;refine(O 34) ?_;have h1:=h.a I;have n:D.heap.size<=r:=by have:=h.j.size;omega
 have p:r≠g:=by have:=h.bk.lt;omega
 generalize a+(b-a)/4*1=i at hi B e ⊢;generalize a+(b-a)/4*2=j at hj A e ⊢;generalize a+(b-a)/4*3=k at hk y e ⊢;refine Zi (fun h8=>?_) fun h8=>?_
 .refine(O 6)<|Zi (fun K=>?_) fun K=>?_
  .rw[Aj X]at e;refine(O 5∘Zc (ZE C d i r 0 B hi X hsz n p L h1 x)) ?_;rintro _ w2⟨rfl,h2,S,l2,m2⟩;refine(O 7) ?_;generalize medianAdjacent (Br cf) d i 0=r1 at S l2 m2 e;refine(Zc (ZE C d j r r1.2 A hj X hsz n p w2 h2 S)) ?_;rintro _ w3⟨rfl,h3,Q,W,m3⟩;refine(O 6) ?_;generalize medianAdjacent (Br cf) d j r1.2=r2 at Q W m3 e;refine(Zc (ZE C d k r r2.2 y hk X hsz n p w3 h3 Q)) ?_;rintro _ w4⟨rfl,h4,P,V,m4⟩;refine(O 8) ?_;generalize medianAdjacent (Br cf) d k r2.2=r3 at P V m4 e;refine(Zc (ZF C d r1.1 r2.1 r3.1 r r3.2 l2 W V X hsz n p w4 h4 P)) ?_;rintro _ w5⟨rfl,t,E,k5,G⟩;refine(O 12) ?_;generalize hm:median (Br cf) d r1.1 r2.1 r3.1 r3.2=m at E e G;have o:=e _ Z;rw[o];refine Zi (fun q=>?_) fun q=>?_
   .rw[Aj q];refine(O 6∘BF) ?_;exact⟨Z,t⟩
   .refine(O 5)<|Zi (fun l=>?_) fun l=>?_
    .rw[Ag q,Aj l];refine(O 6∘BF) ?_;exact⟨Z,t⟩
    .rw[Ag q,Ag l];refine(O 6∘BF) ?_;exact⟨Z,t⟩
  .rw[Ag X]at e;refine(O 7∘Zc (ZF C d i j k r 0 X X X X hsz n p L h1 x)) ?_;rintro _ w5⟨rfl,t,E,k5,G⟩;refine(O 12) ?_;generalize hm:median (Br cf) d i j k 0=m at E e G;have o:=e _ Z;rw[o];refine Zi (fun q=>?_) fun q=>?_
   .rw[Aj q];refine(O 6∘BF) ?_;exact⟨Z,t⟩
   .refine(O 5)<|Zi (fun l=>?_) fun l=>?_
    .rw[Ag q,Aj l];refine(O 6∘BF) ?_;exact⟨Z,t⟩
    .rw[Ag q,Ag l];refine(O 6∘BF) ?_;exact⟨Z,t⟩
 .omega
end
section
variable{α:Type}[Inhabited α]{enc:α->Ah}{cf:α->α->H}
def Ael(lt:α->α->Ar){d:Ap α}{b i:Y}(h:i<b)(a:lt d[i]! d[i-1]! =Ai):scanSorted lt d b i=scanSorted lt d b (i+1):=by
 rw[scanSorted,Aj Bf]
def nA(lt:α->α->Ar){d:Ap α}{b i:Y}(h:¬(i<b/\lt d[i]! d[i-1]! =Ai)):scanSorted lt d b i=i:=by
 rw[scanSorted,Ag Bf]
def nE(lt:α->α->Ar){d:Ap α}{j:Y}(h:j=0∨lt d[j]! d[j-1]! =Ai):shiftDown lt j d=d:=by
 cases j with
 |zero=>rfl
 |succ j=>
  rcases h with h|h
  .cases h
  .rw[RV]at h;rw[shiftDown,h];rfl
def Aev(lt:α->α->Ar){d:Ap α}{j:Y}(a:1<=j)(h:lt d[j]! d[j-1]! =Af):shiftDown lt j d=shiftDown lt (j-1) (swp d j (j-1)):=by
 obtain⟨j,rfl⟩:∃k,j=k+1:=⟨j-1,X⟩;rw[RV]at h ⊢;rw[shiftDown,h];rfl
def nF(lt:α->α->Ar){d:Ap α}{b j:Y}(h:¬j<b∨lt d[j]! d[j-1]! =Ai):shiftUp lt b j d=d:=by
 rw[shiftUp];grind
def Aew(lt:α->α->Ar){d:Ap α}{b j:Y}(a:j<b)(h:lt d[j]! d[j-1]! =Af):shiftUp lt b j d=shiftUp lt b (j+1) (swp d j (j-1)):=by
 rw[shiftUp,Aj a,h];rfl
def Aat{G:Ad}{g f:Y}{P:Ah}(hc:CmpAt G g f P enc cf)(N:Y)(d:Ap α)(a b:Y)(hN:N=d.size)(bm:a<b)(hb:b<=d.size)(hsz:d.size<=1000000000)(w:Ad)(h:RowAt G w g enc d):
 Bm eD 299 [.slice (J ⟨g,0,Aa⟩) N N,Bb (a:H),Bb (b:H),.func (.func f) #[P] #[]] w fun v w'=>v=.bool (partialInsertionSort (Br cf) d a b).2/\RowAt G w' g enc (partialInsertionSort (Br cf) d a b).1/\(partialInsertionSort (Br cf) d a b).1.size=d.size:=by
 subst hN;refine Bw func299 Z ntmps299 Bi Z ?_;refine(O 16)<|Lo (fun((j,i,e,wr):Y×Y×(Ap α)×Ad)=>(j<=5/\a+1<=i/\i<=b/\partialIns (Br cf) a b (5-j) i e=partialInsertionSort (Br cf) d a b/\e.size=d.size/\RowAt G wr g enc e,[(0,.slice (J ⟨g,0,Aa⟩) d.size d.size),(1,Bb a),(2,Bb b),(3,.func (.func f) #[P] #[]),(9,Bb i),(10,Bb j)],wr,5-j)) (0,(a+1),d,w) ?_ ?_
 .exact⟨X,Bq _,X,Z,Z,h⟩
 .rintro⟨j,i,e,wr⟩⟨hj,bl,bi,x,a4,hr⟩;generalize partialInsertionSort (Br cf) d a b=R at x;refine(O 6)<|Zi (fun a2=>?_) fun a2=>?_
  .obtain⟨s,hs⟩:∃s,5-j=s+1:=⟨4-j,X⟩;have bd:s=5-(j+1):=X;rw[hs]at x;have D:(if scanSorted (Br cf) e b i=b then(e,Af)else if b-a<50 then(e,Ai)else partialIns (Br cf) a b s (scanSorted (Br cf) e b i) (if b-scanSorted (Br cf) e b i≥2 then shiftUp (Br cf) b (scanSorted (Br cf) e b i+1) (if scanSorted (Br cf) e b i-a≥2 then shiftDown (Br cf) (scanSorted (Br cf) e b i-1) (swp e (scanSorted (Br cf) e b i) (scanSorted (Br cf) e b i-1))else(swp e (scanSorted (Br cf) e b i) (scanSorted (Br cf) e b i-1)))else(if scanSorted (Br cf) e b i-a≥2 then shiftDown (Br cf) (scanSorted (Br cf) e b i-1) (swp e (scanSorted (Br cf) e b i) (scanSorted (Br cf) e b i-1))else(swp e (scanSorted (Br cf) e b i) (scanSorted (Br cf) e b i-1)))))=R:=x;clear x;refine(O 4)<|Lc (fun((n,w2):Y×Ad)=>(n=scanSorted (Br cf) e b i/\a+1<=n/\n<=b/\RowAt G w2 g enc e,[(0,.slice (J ⟨g,0,Aa⟩) d.size d.size),(1,Bb a),(2,Bb b),(3,.func (.func f) #[P] #[]),(9,Bb n),(10,Bb j)],w2)) ?_ ?_
   .refine(O 1)<|Lo (fun((i9,C):Y×Ad)=>(a+1<=i9/\i9<=b/\scanSorted (Br cf) e b i9=scanSorted (Br cf) e b i/\RowAt G C g enc e,[(0,.slice (J ⟨g,0,Aa⟩) d.size d.size),(1,Bb a),(2,Bb b),(3,.func (.func f) #[P] #[]),(9,Bb i9),(10,Bb j)],C,b-i9)) (i,wr) ?_ ?_
    .grind
    .rintro⟨i9,C⟩⟨bj,a8,ab,I⟩;have q:=I.a (Be.drew C);refine(O 2∘Yr 18 (fun w'=>RowAt G w' g enc e) q) fun m=>(Gv [0,1,2,3]) ?_;refine Kh 22 Z (fun h0=>?_) (fun h0=>?_)
     .refine(Gv [4,5,6,7]∘Yw 8 (he:=by exact fun _ B=>Bo B.bk (hi:=BP X))∘Gv [9,10,11,12]∘Yw 13 (he:=by exact fun _ B=>Bo B.bk (hi:=BP X))) ?_;refine Ha 14 Z Bi Z Z Z Z Z (hc.call C.drew _ _ q.j) ?_;rintro _ v3⟨rfl,E⟩;refine⟨m.a E,fun m=>?_⟩;refine(Gv [15,16,17]∘Yd) ?_;have L:=q.a E;refine Zi (fun T=>?_) fun T=>?_
      .rw[Ael _ h0 (AN T)]at ab;refine(O 8)<|Lb ((i9+1),v3) ?_;grind
      .rw[nA _ (fun z=>T (AR z.2))]at ab;refine(O 1∘Lm (i9,v3)) ?_;grind
     .rw[nA _ (fun z=>h0 z.1)]at ab;refine(Gv [4,5,6,7,8,9,10,11,12,13,14,15,16,17]∘Yd∘O 2∘Lm (i9,_)) ?_;grind
   .rintro⟨n,w2⟩⟨a3,ba,a9,a1⟩;rw[<-a3]at D;refine(O 7)<|Zi (fun V=>?_) fun V=>?_
    .rw[Aj V]at D;refine(O 4∘Bu) ?_;grind
    .rw[Ag V]at D;refine(O 9)<|Zi (fun a7=>?_) fun a7=>?_
     .rw[Aj X]at D;refine(O 4∘Bu) ?_;grind
     .rw[Ag X]at D;have o1:=hc.one e[n-1]!;have o2:=hc.one e[n]!;have al:=Ie (enc:=enc) e;have l:=a1.a (Be.drew w2);refine(O 2)<|Lc (fun(w4:Ad)=>(RowAt G w4 g enc (swp e (n) (n-1)),[(0,.slice (J ⟨g,0,Aa⟩) d.size d.size),(1,Bb a),(2,Bb b),(3,.func (.func f) #[P] #[]),(9,Bb n),(10,Bb j)],w4)) ?_ ?_
      .refine(Yr 18 (fun w'=>True) Ay) fun m=>(Gv [0,1,2,3,4,5,6,7,8,10,11,12])<|Ye 9 13 ?_ ?_
       .refine(Jo 9 (he:=by exact Bo l.bk (hi:=BP X))) fun m=>(Yo 13 (he:=by exact Bo l.bk (hi:=BP X))) fun m=>(Gv [14]∘Yt 15 l.bk) ?_;rintro S A t;refine⟨Ay,fun m=>?_⟩;refine(Gv [16]∘Yt 17 A) ?_;rintro Q y r;refine⟨Ay,fun m=>?_⟩;refine(Yd∘Lm Q) ?_;exact l.Akn t r y
       .refine(Jo 13 (he:=by exact Bo l.bk (hi:=BP X))) fun m=>(Yo 9 (he:=by exact Bo l.bk (hi:=BP X))) fun m=>(Gv [14]∘Yt 15 l.bk) ?_;rintro S A t;refine⟨Ay,fun m=>?_⟩;refine(Gv [16]∘Yt 17 A) ?_;rintro Q y r;refine⟨Ay,fun m=>?_⟩;refine(Yd∘Lm Q) ?_;exact l.Akn t r y
      .rintro w4 a0;have ao:(swp e n (n-1)).size=d.size:=by rw[GX];exact a4
       generalize swp e n (n-1)=e4 at D a0 ao;refine(O 2)<|Ld (fun((e5,S):(Ap α)×Ad)=>(e5=(if n-a≥2 then shiftDown (Br cf) (n-1) e4 else e4)/\e5.size=d.size/\RowAt G S g enc e5,[(0,.slice (J ⟨g,0,Aa⟩) d.size d.size),(1,Bb a),(2,Bb b),(3,.func (.func f) #[P] #[]),(9,Bb n),(10,Bb j)],S)) ?_ ?_
       .refine(O 6)<|Zi (fun aj=>?_) fun aj=>?_
        .refine(O 7)<|Lo (fun((k,p,C):Y×(Ap α)×Ad)=>((k<=n)/\shiftDown (Br cf) (k) p=shiftDown (Br cf) (n-1) e4/\p.size=d.size/\RowAt G C g enc p,[(0,.slice (J ⟨g,0,Aa⟩) d.size d.size),(1,Bb a),(2,Bb b),(3,.func (.func f) #[P] #[]),(9,Bb n),(10,Bb j),(11,Bb k)],C,k)) ((n-1),e4,w4) ?_ ?_
         .grind
         .rintro⟨k,p,C⟩⟨hk,o,K,I⟩;refine(O 6)<|Zi (fun ai=>?_) fun ai=>?_
          .have q:=I.a (Be.drew C);refine(O 5∘Yr 13 (fun w'=>RowAt G w' g enc p) q) fun m=>(Gv [0,1,2,3]∘Yw 4 (he:=by exact fun _ B=>Bo B.bk (hi:=BP X))∘Gv [5,6,7,8]∘Yw 9 (he:=by exact fun _ B=>Bo B.bk (hi:=BP X))) ?_;refine Ha 10 Z Bi Z Z Z Z Z (hc.call C.drew _ _ q.j) ?_;rintro _ v3⟨rfl,E⟩;refine⟨m.a E,fun m=>?_⟩;refine(Gv [11,12]∘Yd) ?_;have L:=q.a E;refine Zi (fun T=>?_) fun T=>?_
           .rw[nE _ (.inr (AN T))]at o;refine(O 1∘Lm (p,v3)) ?_;exact⟨by rw[Aj X];exact o,K,L⟩
           .rw[Aev _ X (AM (Dd.1 T))]at o;have o1:=hc.one p[k-1]!;have o2:=hc.one p[k]!;have al:=Ie (enc:=enc) p;have l:=L.a (Be.drew v3);refine(O 1)<|Lc (fun(W:Ad)=>(RowAt G W g enc (swp p (k) (k-1)),[(0,.slice (J ⟨g,0,Aa⟩) d.size d.size),(1,Bb a),(2,Bb b),(3,.func (.func f) #[P] #[]),(9,Bb n),(10,Bb j),(11,Bb k)],W)) ?_ ?_
            .refine(Yr 18 (fun w'=>True) Ay) fun m=>(Gv [0,1,2,3,4,5,6,7,8,10,11,12])<|Ye 9 13 ?_ ?_
             .refine(Jo 9 (he:=by exact Bo l.bk (hi:=BP X))) fun m=>(Yo 13 (he:=by exact Bo l.bk (hi:=BP X))) fun m=>(Gv [14]∘Yt 15 l.bk) ?_;rintro S A t;refine⟨Ay,fun m=>?_⟩;refine(Gv [16]∘Yt 17 A) ?_;rintro Q y r;refine⟨Ay,fun m=>?_⟩;refine(Yd∘Lm Q) ?_;exact l.Akn t r y
             .refine(Jo 13 (he:=by exact Bo l.bk (hi:=BP X))) fun m=>(Yo 9 (he:=by exact Bo l.bk (hi:=BP X))) fun m=>(Gv [14]∘Yt 15 l.bk) ?_;rintro S A t;refine⟨Ay,fun m=>?_⟩;refine(Gv [16]∘Yt 17 A) ?_;rintro Q y r;refine⟨Ay,fun m=>?_⟩;refine(Yd∘Lm Q) ?_;exact l.Akn t r y
            .rintro W af;refine(O 6)<|Lb ((k-1),(swp p k (k-1)),W) ?_;exact⟨X,o,by rw[GX];exact K,af⟩
          .rw[nE _ (.inl X)]at o;refine(O 1∘Lm (p,C)) ?_;exact⟨by rw[Aj X];exact o,K,I⟩
        .refine(O 1∘Lm (e4,w4)) ?_;grind
       .rintro⟨e5,S⟩⟨a6,bc,bh⟩;rw[<-a6]at D;refine(O 1)<|Ld (fun((e7,w8):(Ap α)×Ad)=>(e7=(if b-n≥2 then shiftUp (Br cf) b (n+1) e5 else e5)/\e7.size=d.size/\RowAt G w8 g enc e7,[(0,.slice (J ⟨g,0,Aa⟩) d.size d.size),(1,Bb a),(2,Bb b),(3,.func (.func f) #[P] #[]),(9,Bb n),(10,Bb j)],w8)) ?_ ?_
        .refine(O 6)<|Zi (fun aj=>?_) fun aj=>?_
         .refine(O 7)<|Lo (fun((k,p,C):Y×(Ap α)×Ad)=>((n<k/\k<=b)/\shiftUp (Br cf) b (k) p=shiftUp (Br cf) b (n+1) e5/\p.size=d.size/\RowAt G C g enc p,[(0,.slice (J ⟨g,0,Aa⟩) d.size d.size),(1,Bb a),(2,Bb b),(3,.func (.func f) #[P] #[]),(9,Bb n),(10,Bb j),(12,Bb k)],C,b-k)) ((n+1),e5,S) ?_ ?_
          .grind
          .rintro⟨k,p,C⟩⟨hk,o,K,I⟩;refine(O 7)<|Zi (fun ai=>?_) fun ai=>?_
           .have q:=I.a (Be.drew C);refine(O 5∘Yr 13 (fun w'=>RowAt G w' g enc p) q) fun m=>(Gv [0,1,2,3]∘Yw 4 (he:=by exact fun _ B=>Bo B.bk (hi:=BP X))∘Gv [5,6,7,8]∘Yw 9 (he:=by exact fun _ B=>Bo B.bk (hi:=BP X))) ?_;refine Ha 10 Z Bi Z Z Z Z Z (hc.call C.drew _ _ q.j) ?_;rintro _ v3⟨rfl,E⟩;refine⟨m.a E,fun m=>?_⟩;refine(Gv [11,12]∘Yd) ?_;have L:=q.a E;refine Zi (fun T=>?_) fun T=>?_
            .rw[nF _ (.inr (AN T))]at o;refine(O 1∘Lm (p,v3)) ?_;exact⟨by rw[Aj X];exact o,K,L⟩
            .rw[Aew _ X (AM (Dd.1 T))]at o;have o1:=hc.one p[k-1]!;have o2:=hc.one p[k]!;have al:=Ie (enc:=enc) p;have l:=L.a (Be.drew v3);refine(O 1)<|Lc (fun(W:Ad)=>(RowAt G W g enc (swp p (k) (k-1)),[(0,.slice (J ⟨g,0,Aa⟩) d.size d.size),(1,Bb a),(2,Bb b),(3,.func (.func f) #[P] #[]),(9,Bb n),(10,Bb j),(12,Bb k)],W)) ?_ ?_
             .refine(Yr 18 (fun w'=>True) Ay) fun m=>(Gv [0,1,2,3,4,5,6,7,8,10,11,12])<|Ye 9 13 ?_ ?_
              .refine(Jo 9 (he:=by exact Bo l.bk (hi:=BP X))) fun m=>(Yo 13 (he:=by exact Bo l.bk (hi:=BP X))) fun m=>(Gv [14]∘Yt 15 l.bk) ?_;rintro S A t;refine⟨Ay,fun m=>?_⟩;refine(Gv [16]∘Yt 17 A) ?_;rintro Q y r;refine⟨Ay,fun m=>?_⟩;refine(Yd∘Lm Q) ?_;exact l.Akn t r y
              .refine(Jo 13 (he:=by exact Bo l.bk (hi:=BP X))) fun m=>(Yo 9 (he:=by exact Bo l.bk (hi:=BP X))) fun m=>(Gv [14]∘Yt 15 l.bk) ?_;rintro S A t;refine⟨Ay,fun m=>?_⟩;refine(Gv [16]∘Yt 17 A) ?_;rintro Q y r;refine⟨Ay,fun m=>?_⟩;refine(Yd∘Lm Q) ?_;exact l.Akn t r y
             .rintro W af;refine(O 6)<|Lb ((k+1),(swp p k (k-1)),W) ?_;exact⟨X,o,by rw[GX];exact K,af⟩
           .rw[nF _ (.inl X)]at o;refine(O 1∘Lm (p,C)) ?_;exact⟨by rw[Aj X];exact o,K,I⟩
         .refine(O 1∘Lm (e5,S)) ?_;grind
        .rintro⟨e7,w8⟩⟨a5,bb,bf⟩;rw[<-a5]at D;refine(O 6)<|Lb ((j+1),n,e7,w8) ?_;grind
  .obtain rfl:j=5:=X;have D:(e,Ai)=R:=x;refine(O 5∘Bu) ?_;grind
end
def x13(r:UInt64):(r ^^^ (r<<<13)).toNat=r.toNat ^^^ (r.toNat*2 ^ 13%18446744073709551616):=by
 rw[UInt64.toNat_xor,UInt64.toNat_shiftLeft,Nat.shiftLeft_eq];rfl
def x7(r:UInt64):(r ^^^ (r>>>7)).toNat=r.toNat ^^^ (r.toNat/2 ^ 7):=by
 rw[UInt64.toNat_xor,UInt64.toNat_shiftRight,Nb];rfl
def x17(r:UInt64):(r ^^^ (r<<<17)).toNat=r.toNat ^^^ (r.toNat*2 ^ 17%18446744073709551616):=by
 rw[UInt64.toNat_xor,UInt64.toNat_shiftLeft,Nat.shiftLeft_eq];rfl
def Ajx(i:Y)(r:UInt64)(w:Ad)(h:Bk w i 285 [.int .u64 (r.toNat:H)]):
 Bm eD 188 [.pointer (J ⟨i,0,Aa⟩)] w fun v w'=>v=.int .u64 (((xorNext r).toNat:Y):H)/\Bk w' i 285 [.int .u64 (((xorNext r).toNat:Y):H)]/\Mo w w' [i]:=by
 have G:=r.toNat_lt;refine Bw func188 Z ntmps188 Bi Z ?_;refine(O 5)<|Lc (fun(l:Ad)=>(Bk l i 285 [.int .u64 ((((r ^^^ (r<<<13))).toNat:Y):H)]/\Mo w l [i],[(0,.pointer (J ⟨i,0,Aa⟩))],l)) ?_ ?_
 .have f:=h.drew;rw[x13];have n:=r.toNat_lt;refine(Yr 10 (fun w'=>True) Ay) fun g=>(Gv [0,1,3,4])<|Ye 2 5 ?_ ?_
  .refine(Jo 2 (he:=by exact Bo f)) fun g=>(Yo 5 (he:=by exact Bo f)) fun g=>(Yw 6 (he:=fun _ _=>by first|exact Hv (s:=13) (p:=8192) (m:=18446744073709551615) Z Z Bc Bc Z X|exact IN (s:=13) (p:=8192) (m:=18446744073709551616) Z Z Bc Bc Z Bc)∘Yw 7 (he:=by exact fun _ _=>Jy (m:=18446744073709551615) Z Z Z X)∘Gv [8]∘Yt 9 f) ?_;rintro j d a;refine⟨Ay,fun g=>?_⟩;refine(Yd∘Lm j) ?_;exact⟨d,(Mo.Akj (Be.drew w) _).trans a⟩
  .refine(Jo 5 (he:=by exact Bo f)) fun g=>(Yw 6 (he:=fun _ _=>by first|exact Hv (s:=13) (p:=8192) (m:=18446744073709551615) Z Z Bc Bc Z X|exact IN (s:=13) (p:=8192) (m:=18446744073709551616) Z Z Bc Bc Z Bc)∘Yo 2 (he:=by exact Bo f)) fun g=>(Yw 7 (he:=by exact fun _ _=>Jy (m:=18446744073709551615) Z Z Z X)∘Gv [8]∘Yt 9 f) ?_;rintro j d a;refine⟨Ay,fun g=>?_⟩;refine(Yd∘Lm j) ?_;exact⟨d,(Mo.Akj (Be.drew w) _).trans a⟩
 .rintro l⟨E,B⟩;have L:(r ^^^ (r<<<13))=(r ^^^ (r<<<13)):=rfl;generalize x:(r ^^^ (r<<<13))=q1 at E;refine(O 1)<|Lc (fun(k:Ad)=>(Bk k i 285 [.int .u64 ((((q1 ^^^ (q1>>>7))).toNat:Y):H)]/\Mo l k [i],[(0,.pointer (J ⟨i,0,Aa⟩))],k)) ?_ ?_
  .have f:=E.drew;rw[x7];have n:=q1.toNat_lt;refine(Yr 10 (fun w'=>True) Ay) fun g=>(Gv [0,1,3,4])<|Ye 2 5 ?_ ?_
   .refine(Jo 2 (he:=by exact Bo f)) fun g=>(Yo 5 (he:=by exact Bo f)) fun g=>(Yw 6 (he:=by exact fun _ _=>IP (s:=7) (p:=128) Z Z Bc Bc)∘Yw 7 (he:=by exact fun _ _=>Jy (m:=18446744073709551615) Z Z Z X)∘Gv [8]∘Yt 9 f) ?_;rintro j d a;refine⟨Ay,fun g=>?_⟩;refine(Yd∘Lm j) ?_;exact⟨d,(Mo.Akj (Be.drew l) _).trans a⟩
   .refine(Jo 5 (he:=by exact Bo f)) fun g=>(Yw 6 (he:=by exact fun _ _=>IP (s:=7) (p:=128) Z Z Bc Bc)∘Yo 2 (he:=by exact Bo f)) fun g=>(Yw 7 (he:=by exact fun _ _=>Jy (m:=18446744073709551615) Z Z Z X)∘Gv [8]∘Yt 9 f) ?_;rintro j d a;refine⟨Ay,fun g=>?_⟩;refine(Yd∘Lm j) ?_;exact⟨d,(Mo.Akj (Be.drew l) _).trans a⟩
  .rintro k⟨D,A⟩;have K:(q1 ^^^ (q1>>>7))=(q1 ^^^ (q1>>>7)):=rfl;generalize t:(q1 ^^^ (q1>>>7))=q2 at D;refine(O 1)<|Lc (fun(o:Ad)=>(Bk o i 285 [.int .u64 ((((q2 ^^^ (q2<<<17))).toNat:Y):H)]/\Mo k o [i],[(0,.pointer (J ⟨i,0,Aa⟩))],o)) ?_ ?_
   .have f:=D.drew;rw[x17];have n:=q2.toNat_lt;refine(Yr 10 (fun w'=>True) Ay) fun g=>(Gv [0,1,3,4])<|Ye 2 5 ?_ ?_
    .refine(Jo 2 (he:=by exact Bo f)) fun g=>(Yo 5 (he:=by exact Bo f)) fun g=>(Yw 6 (he:=fun _ _=>by first|exact Hv (s:=17) (p:=131072) (m:=18446744073709551615) Z Z Bc Bc Z X|exact IN (s:=17) (p:=131072) (m:=18446744073709551616) Z Z Bc Bc Z Bc)∘Yw 7 (he:=by exact fun _ _=>Jy (m:=18446744073709551615) Z Z Z X)∘Gv [8]∘Yt 9 f) ?_;rintro j d a;refine⟨Ay,fun g=>?_⟩;refine(Yd∘Lm j) ?_;exact⟨d,(Mo.Akj (Be.drew k) _).trans a⟩
    .refine(Jo 5 (he:=by exact Bo f)) fun g=>(Yw 6 (he:=fun _ _=>by first|exact Hv (s:=17) (p:=131072) (m:=18446744073709551615) Z Z Bc Bc Z X|exact IN (s:=17) (p:=131072) (m:=18446744073709551616) Z Z Bc Bc Z Bc)∘Yo 2 (he:=by exact Bo f)) fun g=>(Yw 7 (he:=by exact fun _ _=>Jy (m:=18446744073709551615) Z Z Z X)∘Gv [8]∘Yt 9 f) ?_;rintro j d a;refine⟨Ay,fun g=>?_⟩;refine(Yd∘Lm j) ?_;exact⟨d,(Mo.Akj (Be.drew k) _).trans a⟩
   .rintro o⟨C,y⟩;have I:(q2 ^^^ (q2<<<17))=(q2 ^^^ (q2<<<17)):=rfl;generalize q:(q2 ^^^ (q2<<<17))=q3 at C;refine(O 7∘Bu) ?_
    have e:xorNext r=q3:=by
     subst x t q;rfl
    rw[e];exact⟨Z,C,(B.trans A).trans y⟩
end
section
open Go.Shelf
def sx {P:AC} {f:FuncId} {B:Func} (h:((P.funcs[f]?.getD B).name== "runtime.NumGoroutine")=Ai) (k:P.funcs[f]? =J {B with name:=(P.funcs[f]?.getD B).name}):Go.Proofs.Bears P f B:=⟨_,h,k⟩
def Hz{p:Prop}(h:p:=by constructor<;>intros<;>first|kernel_rfl|decide|exact sx Bi Bi|constructor<;>intros<;>kernel_rfl):p:=h
def nK:Go.Shelf.Ren:=⟨fun|156=>126|165=>165|166=>49|169=>51|240=>83|241=>218|276=>111|277=>259|n=>n,fun|31=>97|9=>9|3=>3|4=>4|0=>0|20=>20|72=>102|76=>106|70=>100|37=>23|75=>105|127=>157|164=>201|5=>5|80=>109|n=>n,fun|n=>n⟩
def nJ:Go.Proofs.Lays.n156 eD nK:=Hz
def nG:Builder.Extra eD nK:=Hz
def Agc(a:Av AB)(c:Y)(sep:ByteArray)(w:Ad):
 Calls eD 126 #[.slice a 0 c,.string sep] w fun e w'=>e=.returned (.string ⟨#[]⟩)/\w'=w:=Any.strings_Join_none nJ nG a c sep w
def Agb(bk o c:Y)(xs:Ae ByteArray)(sep:ByteArray)(w:Ad)(hcells:∀(j:Y) x,xs[j]? =J x->w.cell? ⟨bk,o+j,Aa⟩=J (.string x))(hbk:bk<w.heap.size)(hN:Alz xs<=140737488355328)(hcap:Alz xs<=c)(hlen:Alz (Lib.join (xs.map (·.data.toList)) sep.data.toList)<=140737488355328):
 Calls eD 126 #[.slice (J ⟨bk,o,Aa⟩) (Alz xs) c,.string sep] w fun e w'=>e=.returned (.string ⟨(Lib.join (xs.map (·.data.toList)) sep.data.toList).toArray⟩)/\Below w.heap.size w w':=Any.strings_Join nJ nG bk o c xs sep w hcells hbk hN hcap hlen
def Afd:Go.Shelf.Ren:=⟨fun|125=>109|128=>150|129=>151|n=>n,fun|46=>180|3=>3|51=>58|53=>211|4=>4|5=>5|9=>9|n=>n,fun|n=>n⟩
def Afc:Go.Proofs.Lays.n125 eD Afd:=Hz
def nH(x:H)(w:Ad)(h0:0<=x)(h1:x<=18446744073709551615):
 Calls eD 109 #[.int .u64 x] w fun e w'=>e=.returned (.int .i64 (Lib.bitLen x.toNat))/\w'=w:=Any.bits_Len Afc x w h0 h1
def Afb:Go.Shelf.Ren:=⟨fun|106=>103|213=>140|265=>185|n=>n,fun|9=>9|3=>3|n=>n,fun|n=>n⟩
def Afa:Go.Proofs.Lays.n106 eD Afb:=Hz
def Afx(a b:ByteArray)(w:Ad):
 Calls eD 103 #[.string a,.string b] w fun e w'=>e=.returned (.int .i64 (Lib.compareBytes a.data.toList b.data.toList))/\w'=w:=Any.strings_Compare Afa a b w
def Aff:Go.Shelf.Ren:=⟨fun|137=>192|217=>245|266=>276|n=>n,fun|9=>9|5=>5|3=>3|n=>n,fun|n=>n⟩
def Afe:Go.Proofs.Lays.n137 eD Aff:=Hz
def Aga(s:ByteArray)(c:H)(w:Ad):
 Calls eD 192 #[.string s,.int .u8 c] w fun e w'=>e=.returned (.int .i64 (Lib.indexByte s.data.toList c.toNat.toUInt8))/\w'=w:=Any.strings_IndexByte Afe s c w
def Afp:Go.Shelf.Ren:=⟨fun|171=>224|243=>261|246=>281|283=>290|284=>291|285=>292|286=>293|129=>151|317=>307|318=>308|319=>309|320=>310|337=>322|338=>323|n=>n,fun|3=>3|9=>9|2=>2|4=>4|171=>381|0=>0|53=>211|37=>23|5=>5|173=>383|212=>399|51=>58|20=>20|213=>400|46=>180|232=>411|233=>412|n=>n,fun|17=>3|18=>4|19=>5|n=>n⟩
def Afo:Go.Proofs.LaysM.n171 eD Afp:=Hz
open Go.Sort Go.Lib in
def Afw (n:H) (h0:-9223372036854775808<=n) (h1:n<=9223372036854775807) (w:Ad) (htab:Lib.TabIs eD w "internal/strconv.uint64pow10" .u64 Lib.pow10Tab):
 Calls eD 224 #[.int .i64 n] w fun e w'=>e=.returned (.string ⟨(Lib.itoa n).toArray⟩)/\∃k os,w'=grow (w.drewN k) os:=Any.strconv_Itoa Afo n h0 h1 w htab
def Afh:Go.Shelf.Ren:=⟨fun|144=>168|143=>223|219=>193|217=>245|225=>246|224=>247|267=>248|266=>276|314=>277|n=>n,fun|9=>9|4=>4|3=>3|5=>5|46=>180|146=>327|51=>58|n=>n,fun|1=>0|n=>n⟩
def Afg:Go.Proofs.Lays.n144 eD Afh:=Hz
open Go.Lib in
def nM(s:ByteArray)(c:AI)(w:Ad):
 Calls eD 168 #[.string s,.string ⟨#[c]⟩] w fun e w'=>e=.returned (.bool (decide (0<=Lib.indexByte s.data.toList c)))/\w'=w:=Any.strings_Contains_one Afg s c w
def Afj:Go.Shelf.Ren:=⟨fun|145=>114|220=>156|219=>193|217=>245|225=>246|224=>247|267=>248|266=>276|314=>277|n=>n,fun|9=>9|4=>4|59=>206|3=>3|5=>5|46=>180|146=>327|51=>58|n=>n,fun|1=>0|n=>n⟩
def Afi:Go.Proofs.Lays.n145 eD Afj:=Hz
open Go.Lib in
def Afy(s sep:ByteArray)(m:H)(w:Ad)(hs:s.size<4294967281)(hm:w.cell? ⟨0,0,Aa⟩=J (.int .i64 m)):
 Calls eD 114 #[.string s,.string sep] w fun e w'=>e=.returned (.tuple #[.string ⟨(Lib.cut s.data.toList sep.data.toList).1.toArray⟩,.string ⟨(Lib.cut s.data.toList sep.data.toList).2.1.toArray⟩,.bool (Lib.cut s.data.toList sep.data.toList).2.2])/\∃n,w'=w.drewN n:=Any.strings_Cut Afi s sep m w hs hm
def Afq:Go.Shelf.Ren:=⟨fun|219=>193|217=>245|225=>246|224=>247|267=>248|266=>276|314=>277|n=>n,fun|9=>9|3=>3|4=>4|5=>5|46=>180|146=>327|51=>58|n=>n,fun|1=>0|n=>n⟩
def Aki:Go.Proofs.LaysM.n219 eD Afq:=by constructor<;>first|kernel_rfl|exact Hz|exact fun w h=>Go.Proofs.cell_of_shapedOpen_int (zero:=#[.int .i64 0]) (t:=3) h (of_decide_eq_true (by kernel_rfl)) (by kernel_rfl) rfl (by kernel_rfl) (by kernel_rfl) Tryz.underlying3
def Afn:Go.Shelf.Ren:=⟨fun|99=>93|206=>121|n=>n,fun|9=>9|4=>4|3=>3|n=>n,fun|n=>n⟩
def Afm:Go.Proofs.Lays.n99 eD Afn:=Hz
open Go.Lib in
def Afz(s p:ByteArray)(w:Ad):
 Calls eD 93 #[.string s,.string p] w fun e w'=>e=.returned (.bool (Lib.hasPrefix s.data.toList p.data.toList))/\w'=w:=Any.strings_HasPrefix Afm s p w
def Afl:Go.Shelf.Ren:=⟨fun|146=>139|221=>184|268=>238|138=>239|143=>223|195=>273|197=>274|218=>275|219=>193|260=>289|217=>245|225=>246|224=>247|267=>248|266=>276|314=>277|n=>n,fun|9=>9|31=>97|3=>3|4=>4|0=>0|105=>360|21=>21|5=>5|46=>180|119=>394|139=>397|138=>396|146=>327|51=>58|n=>n,fun|1=>0|3=>1|4=>2|n=>n⟩
def Afk:Go.Proofs.Lays.n146 eD Afl:=Hz
open Go.Lib in
def nO(s sep:ByteArray)(m:H)(w:Ad)(hs:s.size<4294967281)(hm:w.cell? ⟨0,0,Aa⟩=J (.int .i64 m))(h1:1<=sep.size):
 Calls eD 139 #[.string s,.string sep] w fun e w'=>
  e=.returned (.slice (J ⟨w.heap.size,0,Aa⟩) (Lib.countB s sep+1) (Lib.countB s sep+1))/\w'=w.alloc (.cells ((Lib.splitB sep 0 (Lib.countB s sep) s).map Value.string).toArray 9):=Any.strings_Split Afk Bi s sep m w hs hm h1
def nI:Go.Shelf.Ren:=⟨fun|105=>138|212=>183|99=>93|165=>165|166=>49|170=>63|169=>51|263=>236|264=>237|206=>121|240=>83|241=>218|276=>111|277=>259|n=>n,fun|9=>9|3=>3|4=>4|20=>20|0=>0|46=>180|109=>282|5=>5|72=>102|76=>106|51=>58|146=>327|53=>211|148=>329|70=>100|37=>23|75=>105|127=>157|164=>201|80=>109|n=>n,fun|n=>n⟩
def Aez:Go.Proofs.Lays.n105 eD nI:=Hz
def Aey:Builder.Extra eD nI:=Hz
open Go.Lib in
def nN(s:ByteArray)(c:Y)(w:Ad)(hc:c<=9223372036854775807)(hlen:s.size*c<=140737488355328):
 Calls eD 138 #[.string s,.int .i64 c] w fun e w'=>e=.returned (.string ⟨(Lib.repeatL s.data.toList c).toArray⟩)/\Below w.heap.size w w':=Any.strings_Repeat Aez Aey s c w hc hlen
end
section
open Go.Sort
section
variable{α:Type}[Inhabited α]{enc:α->Ah}{cf:α->α->H}
def zx(n:Y)(h1:1<=n)(h:n<=1000000000)(w:Ad):
 Bm eD 187 [Bb (n:H)] w fun v w'=>v=.int .u64 ((2 ^ (Ed n+1):Y):H)/\w=w':=by
 have d:Ed n+1<=31:=by
  have:=Uh (n:=n) (k:=31) X;have:=this.2 X;omega
 have e:Go.Lib.bitLen (n:H).toNat=Ed n+1:=by
  rw[Oc,Go.Proofs.bitLen_eq n X];exact Ag X
 have g:2 ^ (Ed n+1)<=2 ^ 31:=Gb Bc d;refine Bw func187 Z ntmps187 Bi Z ?_;refine(O 8∘Zc (Hj func109 Bi (nH (n:H) w X X))) ?_;rintro _ f⟨rfl,rfl⟩;rw[e];refine(Zv (by exact NZ (a:=1) (s:=Ed n+1) (m:=18446744073709551615) Z Z (by show _<=64;omega) Z X)∘O 2∘Bu) ?_;simp
def IZ(d:Ap α)(a l:Y):Y->UInt64×Ap α
 |0=>(UInt64.ofNat l,d)
 |t+1=>breakStep a l (1<<<bitsLen l) (IZ d a l t) (a+(l/4)*2-1+t)
def sO(d:Ap α)(a b:Y)(h:8<=b-a):breakPatterns d a b=(IZ d a (b-a) 3).2:=by
 unfold breakPatterns;simp only[ge_iff_le,h,if_true];rfl
def Pg(l:Y)(r:UInt64):Y:=if(xorNext r).toNat%2 ^ (Ed l+1)≥l then(xorNext r).toNat%2 ^ (Ed l+1)-l else(xorNext r).toNat%2 ^ (Ed l+1)
def Aai{l:Y}(h:1<=l)(r:UInt64):Pg l r<l:=by
 have a:(xorNext r).toNat%2 ^ (Ed l+1)<2 ^ (Ed l+1):=Qa _ (Nat.two_pow_pos _);have d:=Nat.log2_self_le (n:=l) X;rw[Kr]at a;unfold Pg;grind
def sQ(d:Ap α)(a l t:Y)(h:1<=l):IZ d a l (t+1)=(xorNext (IZ d a l t).1,swp (IZ d a l t).2 (a+(l/4)*2-1+t) (a+Pg l (IZ d a l t).1)):=by
 have e:(1<<<bitsLen l)-1=2 ^ (Ed l+1)-1:=by
  unfold bitsLen;rw[Ag X,Nat.one_shiftLeft]
 show breakStep a l (1<<<bitsLen l) (IZ d a l t) (a+(l/4)*2-1+t)=_;unfold breakStep Pg;simp_all
def sP{B:Ad}{g f:Y}{E:Ah}(hc:CmpAt B g f E enc cf)(N:Y)(d:Ap α)(a b:Y)(hN:N=d.size)(bi:a+12<b)(hb:b<=d.size)(hsz:d.size<=1000000000)(w:Ad)(h:RowAt B w g enc d):
 Bm eD 296 [.slice (J ⟨g,0,Aa⟩) N N,Bb (a:H),Bb (b:H),.func (.func f) #[E] #[]] w fun v w'=>v=.tuple #[]/\RowAt B w' g enc (breakPatterns d a b)/\(breakPatterns d a b).size=d.size:=by
 subst hN;rw[sO d a b X];have bh:=Nat.div_mul_le_self (b-a) 4;have ba:3<=(b-a)/4:=X
 have S:(UInt64.ofNat (b-a)).toNat=b-a:=by
  rw[UInt64.toNat_ofNat'];exact JG X
 have a9:Ed (b-a)+1<=31:=by
  have:=(Uh (n:=b-a) (k:=31) X).2 X;omega
 have a3:2 ^ (Ed (b-a)+1)<=2 ^ 31:=Gb Bc a9;have a4:1<=2 ^ (Ed (b-a)+1):=Nat.two_pow_pos _;refine Bw func296 Z ntmps296 Bi Z ?_;refine(O 12)<|Zi (fun h8=>?_) fun h8=>?_
 .refine(O 4∘Mf) ?_;rintro q w1 bc a0 ab;refine(Zt a0) ?_;rintro V ao a7;refine(O 4) ?_;have I:B.heap.size<=q:=by have:=h.j.size;omega
  have Q:q≠g:=by have:=h.bk.lt;omega
  have h2:=(h.a ab).other a7 I Q;refine(Zc (zx (b-a) X X V)) ?_;rintro _ _⟨rfl,rfl⟩;refine(O 13) ?_;generalize K:2 ^ (Ed (b-a)+1)=pk at a3 a4
  have al:Bk V q 285 [.int .u64 (((IZ d a (b-a) 0).1.toNat:Y):H)]:=by
   show Bk V q _ [.int .u64 (((UInt64.ofNat (b-a)).toNat:Y):H)];rw[S];exact ao
  refine Lo (fun((t,wr):Y×Ad)=>(t<=3/\(IZ d a (b-a) t).2.size=d.size/\RowAt B wr g enc (IZ d a (b-a) t).2/\Bk wr q 285 [.int .u64 (((IZ d a (b-a) t).1.toNat:Y):H)],[(0,.slice (J ⟨g,0,Aa⟩) d.size d.size),(1,Bb a),(2,Bb b),(3,.func (.func f) #[E] #[]),(8,Bb (((b-a):Y):H)),(9,.pointer (J ⟨q,0,Aa⟩)),(10,.int .u64 (pk:H)),(11,Bb (((a+(b-a)/4*2-1+t):Y):H))],wr,3-t)) (0,V) ?_ ?_
  .exact⟨X,Z,h2,al⟩
  .rintro⟨t,wr⟩⟨ht,af,hr,G⟩;have x:=sQ d a (b-a) t X;have P:=Aai (l:=b-a) X (IZ d a (b-a) t).1;generalize hR:IZ d a (b-a) t=R at af hr G x P;refine(O 12)<|Zi (fun a8=>?_) fun a8=>?_
   .have T:(xorNext R.1).toNat &&& (pk-1)=(xorNext R.1).toNat%pk:=by rw[<-K,Nat.and_two_pow_sub_one_eq_mod]
    have bd:=(xorNext R.1).toNat_lt;have bb:(xorNext R.1).toNat%pk<pk:=Qa _ X
    have bf:Pg (b-a) R.1=if(xorNext R.1).toNat%pk≥b-a then(xorNext R.1).toNat%pk-(b-a)else(xorNext R.1).toNat%pk:=by
     unfold Pg;rw[K]
    refine(O 5∘Zc (Ajx q R.1 wr G)) ?_;rintro _ D⟨rfl,aj,a6⟩;refine(O 1∘Zv (by exact Kg (b:=1) (m:=18446744073709551615) Z Z Z X)∘Zv (by exact Wq (m:=18446744073709551615) Z Z Z X)∘O 5) ?_;have a2:=hr.other a6 I Q;refine Ld (fun(j:Y)=>(j=Pg (b-a) R.1,[(0,.slice (J ⟨g,0,Aa⟩) d.size d.size),(1,Bb a),(2,Bb b),(3,.func (.func f) #[E] #[]),(8,Bb (((b-a):Y):H)),(9,.pointer (J ⟨q,0,Aa⟩)),(10,.int .u64 (pk:H)),(11,Bb (((a+(b-a)/4*2-1+t):Y):H)),(12,Bb j)],D)) ?_ ?_
    .refine(Ct 12 (Bb ((((xorNext R.1).toNat%pk):Y):H)) (e:=by exact AF (Value.int .i64) (AF Om T))∘O 5)<|Zi (fun ho=>?_) fun ho=>?_
     .refine(O 6∘Lm ((xorNext R.1).toNat%pk-(b-a))) ?_;grind
     .refine(O 1∘Lm ((xorNext R.1).toNat%pk)) ?_;grind
    .rintro j L;rw[<-L]at x P;have o1:=hc.one R.2[a+j]!;have o2:=hc.one R.2[a+(b-a)/4*2-1+t]!;have ba:=Ie (enc:=enc) R.2;have i:=a2.a (Be.drew D);refine Lc (fun(C:Ad)=>(RowAt B C g enc (swp R.2 (a+(b-a)/4*2-1+t) (a+j))/\Mo D C [g],[(0,.slice (J ⟨g,0,Aa⟩) d.size d.size),(1,Bb a),(2,Bb b),(3,.func (.func f) #[E] #[]),(8,Bb (((b-a):Y):H)),(9,.pointer (J ⟨q,0,Aa⟩)),(10,.int .u64 (pk:H)),(11,Bb (((a+(b-a)/4*2-1+t):Y):H))],C)) ?_ ?_
     .refine(Yr 20 (fun w'=>True) Ay) fun r=>(Gv [0,1,2,3,4,5,6,7,8,9,10,12,13,14])<|Ye 11 15 ?_ ?_
      .refine(Jo 11 (he:=by exact Bo i.bk (hi:=BP X))) fun r=>(Yo 15 (he:=by exact Bo i.bk (hi:=BP X))) fun r=>(Gv [16]∘Yt 17 i.bk) ?_;rintro w5 A p;refine⟨Ay,fun r=>?_⟩;refine(Gv [18]∘Yt 19 A) ?_;rintro W y o;refine⟨Ay,fun r=>?_⟩;refine(Yd∘Lm W) ?_;exact⟨i.Akn p o y,((Mo.Akj (Be.drew D) _).trans p).trans o⟩
      .refine(Jo 15 (he:=by exact Bo i.bk (hi:=BP X))) fun r=>(Yo 11 (he:=by exact Bo i.bk (hi:=BP X))) fun r=>(Gv [16]∘Yt 17 i.bk) ?_;rintro w5 A p;refine⟨Ay,fun r=>?_⟩;refine(Gv [18]∘Yt 19 A) ?_;rintro W y o;refine⟨Ay,fun r=>?_⟩;refine(Yd∘Lm W) ?_;exact⟨i.Akn p o y,((Mo.Akj (Be.drew D) _).trans p).trans o⟩
     .rintro C⟨a1,a5⟩;have ai:=aj.j a5 Bf;refine(O 6)<|Lb ((t+1),C) ?_;dsimp only;rw[x];exact⟨X,by rw[GX];omega,a1,ai⟩
   .obtain rfl:t=3:=X;refine(O 1) ?_;refine KW.done<|Ib Z ?_;grind
 .omega
end
section
variable{α:Type}[Inhabited α]{enc:α->Ah}{cf:α->α->H}
def ye{e:Ad}{g f:Y}{j:Ah}(k:CmpAt e g f j enc cf)(N:Y)(d:Ap α)(a b:Y)(m:N=d.size)(i:a<=b)(l:b<=d.size)(hsz:d.size<=1000000000)(w:Ad)(h:RowAt e w g enc d):
 Bm eD 294 [.slice (J ⟨g,0,Aa⟩) N N,Bb (a:H),Bb (b:H),.func (.func f) #[j] #[]] w fun v w'=>v=.tuple #[]/\RowAt e w' g enc (insertionSort (Br cf) d a b)/\(insertionSort (Br cf) d a b).size=d.size:=by
 subst m;exact yf k d a b i l hsz w h
def Acv{e:Ad}{g f:Y}{j:Ah}(k:CmpAt e g f j enc cf)(N:Y)(d:Ap α)(a b:Y)(m:N=d.size)(i:a<b)(l:b<=d.size)(hsz:d.size<=1000000000)(w:Ad)(h:RowAt e w g enc d):
 Bm eD 298 [.slice (J ⟨g,0,Aa⟩) N N,Bb (a:H),Bb (b:H),.func (.func f) #[j] #[]] w fun v w'=>v=.tuple #[]/\RowAt e w' g enc (reverseRange d a b)/\(reverseRange d a b).size=d.size:=by
 subst m;exact Acw k d a b i l hsz w h
def pdq_s{P:Ad}{g f:Y}{rv:Ah}(T:CmpAt P g f rv enc cf)(hO:SWO (Br cf))(N:Y)(hsz:N<=1000000000):∀(m a b limit:Y) (d:Ap α) (w:Ad),b-a<m->N=d.size->a<=b->b<=d.size->limit<=1000->Below (Br cf) a b d->RowAt P w g enc d->
 Bm eD 282 [.slice (J ⟨g,0,Aa⟩) N N,Bb (a:H),Bb (b:H),Bb (limit:H),.func (.func f) #[rv] #[]] w fun v w'=>v=.tuple #[]/\RowAt P w' g enc (pdq (Br cf) d a b limit Af Af)/\(pdq (Br cf) d a b limit Af Af).size=d.size:=by
 intro m
 induction m with
 |zero=>
  simp
 |succ m ih=>
  intro a b limit d w hm hN b3 hb bq hB h;subst hN;refine Bw func282 Z ntmps282 Bi Z ?_;refine(O 9)<|Lo (fun((x,y,i,pr,e,wr):Y×Y×Y×(Ar×Ar)×(Ap α)×Ad)=>(y-x<m+1/\x<=y/\y<=d.size/\i<=1000/\Below (Br cf) x y e/\e.size=d.size/\pdq (Br cf) e x y i pr.1 pr.2=pdq (Br cf) d a b limit Af Af/\RowAt P wr g enc e,[(0,.slice (J ⟨g,0,Aa⟩) d.size d.size),(1,Bb x),(2,Bb y),(3,Bb i),(4,.func (.func f) #[rv] #[]),(10,.bool pr.1),(11,.bool pr.2)],wr,y-x)) (a,b,limit,(Af,Af),d,w) ?_ ?_
  .grind
  .rintro⟨x,y,i,⟨l,k⟩,e,wr⟩⟨b0,a7,bs,b1,bm,a0,he,hr⟩;generalize pdq (Br cf) d a b limit Af Af=R at he;refine(O 14)<|Zi (fun bn=>?_) fun bn=>?_
   .rw[pdq_small X]at he;refine(O 6∘Zc (ye T d.size e x y a0.symm a7 X X wr hr)) ?_;rintro _ w2⟨rfl,E,a3⟩;refine(O 1) ?_;refine DC<|Ib Z ?_;grind
   .refine(O 7)<|Zi (fun h0=>?_) fun h0=>?_
    .rw[pdq_heap X h0]at he;refine(O 6∘Zc (xS T d.size e x y a0.symm X X X wr hr)) ?_;rintro _ w2⟨rfl,E,a3⟩;refine(O 1) ?_;refine DC<|Ib Z ?_;grind
    .have G:x+12<y:=X;have F:=rd_facts (wb:=l) (wp:=k) (limit:=i) hO partialInsertionSort_holds reverseRange_holds (show x<y by omega) (show y<=e.size by omega) bm;refine(O 3)<|Ld (fun((j,V,w1):Y×(Ap α)×Ad)=>(V=(rd (Br cf) e x y i l k).d1/\j=(rd (Br cf) e x y i l k).lim/\RowAt P w1 g enc V,[(0,.slice (J ⟨g,0,Aa⟩) d.size d.size),(1,Bb x),(2,Bb y),(3,Bb j),(4,.func (.func f) #[rv] #[]),(10,.bool l),(11,.bool k),(12,Bb (((y-x):Y):H))],w1)) ?_ ?_
     .rcases l with _|_
      .refine(O 11∘Zc (sP T d.size e x y a0.symm G X X wr hr)) ?_;rintro _ w2⟨rfl,E,a3⟩;refine(O 6∘Lm ((i-1),(breakPatterns e x y),w2)) ?_;exact⟨Z,Z,E⟩
      .refine(O 6∘Lm (i,e,wr)) ?_;exact⟨Z,Z,hr⟩
     .rintro⟨j,V,w1⟩⟨a1,I,bc⟩;have F1:=F.1;rw[<-a1]at F1;refine(O 6∘Zc (Abe T d.size V x y X G X X w1 bc)) ?_;rintro _ w2⟨rfl,E⟩;refine(O 8) ?_;have bl:(rd (Br cf) e x y i l k).c=choosePivot (Br cf) V x y:=by rw[a1];rfl
      rw[<-bl];have F3:=F.2.2.1
      have a5:ON (rd (Br cf) e x y i l k).c.2=2↔(rd (Br cf) e x y i l k).c.2=.decreasing:=by
       cases(rd (Br cf) e x y i l k).c.2<;>simp[ON]
      refine Ld (fun((ph,e2,L):(Y×Y)×(Ap α)×Ad)=>(e2=(rd (Br cf) e x y i l k).d2/\ph.1=(rd (Br cf) e x y i l k).pivot/\ph.2=ON (rd (Br cf) e x y i l k).hint/\RowAt P L g enc e2,[(0,.slice (J ⟨g,0,Aa⟩) d.size d.size),(1,Bb x),(2,Bb y),(3,Bb j),(4,.func (.func f) #[rv] #[]),(10,.bool l),(11,.bool k),(12,Bb (((y-x):Y):H)),(13,Bb ((ph.1:Y):H)),(14,Bb ((ph.2:Y):H))],L)) ?_ ?_
      .refine(O 4)<|Zi (fun hh=>?_) fun hh=>?_
       .have hD:=rd_dec (a5.1 X);refine(O 6∘Zc (Acv T d.size V x y X X X X w2 E)) ?_;rintro _ L⟨rfl,A,bx⟩;refine(O 14∘Lm ((y-1-((rd (Br cf) e x y i l k).c.1-x),1),(reverseRange V x y),L)) ?_;exact⟨by rw[hD.1,a1],by rw[hD.2.1],by rw[hD.2.2];rfl,A⟩
       .have hD:=rd_not (fun z=>hh (by have:=a5.2 z;omega));refine(O 1∘Lm (((rd (Br cf) e x y i l k).c.1,ON (rd (Br cf) e x y i l k).c.2),V,w2)) ?_;grind
      .rintro⟨⟨pv,hn⟩,e2,L⟩⟨r,ai,bj,A⟩;have F4:=F.2.2.2.1;rw[<-r]at F4
       have b2:hn=1↔(rd (Br cf) e x y i l k).hint=.increasing:=by
        rw[show hn=ON (rd (Br cf) e x y i l k).hint from bj];cases(rd (Br cf) e x y i l k).hint<;>simp[ON]
       refine(O 2)<|Ld (fun((o,w4):(Ap α)×Ad)=>(o=(rd (Br cf) e x y i l k).pi.1/\(rd (Br cf) e x y i l k).pi.2=Ai/\RowAt P w4 g enc o,[(0,.slice (J ⟨g,0,Aa⟩) d.size d.size),(1,Bb x),(2,Bb y),(3,Bb j),(4,.func (.func f) #[rv] #[]),(10,.bool l),(11,.bool k),(12,Bb (((y-x):Y):H)),(13,Bb pv),(14,Bb hn)],w4)) ?_ ?_
       .rcases l with _|_
        .have B:=rd_pi_no (lt:=Br cf) (d:=e) (a:=x) (b:=y) (limit:=i) (wb:=Ai) (wp:=k) Z;refine(O 12∘Lm (e2,L)) ?_;exact⟨by rw[B];exact r,by rw[B],A⟩
        .rcases k with _|_
         .have B:=rd_pi_no (lt:=Br cf) (d:=e) (a:=x) (b:=y) (limit:=i) (wb:=Af) (wp:=Ai) Z;refine(O 12∘Lm (e2,L)) ?_;exact⟨by rw[B];exact r,by rw[B],A⟩
         .refine(O 10)<|Zi (fun h1=>?_) fun h1=>?_
          .have B:=rd_pi_yes (lt:=Br cf) (d:=e) (a:=x) (b:=y) (limit:=i) (wb:=Af) (wp:=Af) Bf;refine(O 6∘Zc (Aat T d.size e2 x y X X X X L A)) ?_;rintro _ K⟨rfl,D,a9⟩;refine(O 1) ?_;rw[r,<-B]at D a9;refine Ga Z (fun S=>?_) (fun S=>?_)
           .rw[r,<-B]at S;rw[pdq_done X X S]at he;refine DC<|Ib Z ?_;grind
           .rw[r,<-B]at S;refine(O 1∘Lm (((rd (Br cf) e x y i Af Af).pi.1),K)) ?_;grind
          .have B:=rd_pi_no (lt:=Br cf) (d:=e) (a:=x) (b:=y) (limit:=i) (wb:=Af) (wp:=Af) Bf;refine(O 1∘Lm (e2,L)) ?_;exact⟨by rw[B];exact r,by rw[B],A⟩
       .rintro⟨o,w4⟩⟨q,aj,bb⟩;have F6:=F.2.2.2.2.2.1;have F7:=F.2.2.2.2.2.2;rw[<-q]at F7;rw[<-(show pv=(rd (Br cf) e x y i l k).pivot from ai)]at F6;have t:=bb.a (Be.drew w4);refine(O 2)<|Ld (fun(K:Ad)=>((decide (x>0) && !Br cf o[x-1]! o[pv]!)=Ai/\RowAt P K g enc o,[(0,.slice (J ⟨g,0,Aa⟩) d.size d.size),(1,Bb x),(2,Bb y),(3,Bb j),(4,.func (.func f) #[rv] #[]),(10,.bool l),(11,.bool k),(12,Bb (((y-x):Y):H)),(13,Bb pv),(14,Bb hn)],K)) ?_ ?_
        .refine(Yr 17 (fun w'=>RowAt P w' g enc o) t) fun hS=>(Gv [0,1,2]) ?_;refine Kh 83 Z (fun a6=>?_) (fun a6=>?_)
         .refine(Gv [3,4,5,6,7]∘Yw 8 (he:=by exact fun _ a2=>Bo a2.bk (hi:=BP X))∘Gv [9,10,11]∘Yw 12 (he:=by exact fun _ a2=>Bo a2.bk (hi:=BP X))) ?_;refine Ha 13 Z Bi Z Z Z Z Z (T.call w4.drew _ _ t.j) ?_;rintro _ K⟨rfl,ab⟩;refine⟨hS.a ab,fun hS=>?_⟩;refine(Gv [14,15,16]∘Yd)<|Zi (fun hq=>?_) fun hq=>?_
          .have bf:Br cf o[x-1]! o[pv]! =Ai:=AN hq;have RE:=round_eq (mid:=(partitionEqual (Br cf) o x y pv).1) (d4:=(partitionEqual (Br cf) o x y pv).2) hO (partitionEqual_holds (Br cf)) a6 F6.1 F6.2 X F7.2 bf (Z:partitionEqual (Br cf) o x y pv=((partitionEqual (Br cf) o x y pv).1,(partitionEqual (Br cf) o x y pv).2));have bd:=pdq_eq (lt:=Br cf) (d:=e) (a:=x) (b:=y) (limit:=i) (wb:=l) (wp:=k) X h0 aj Bf Bf;rw[<-q,<-(show pv=(rd (Br cf) e x y i l k).pivot from ai),<-I]at bd;have R1:=RE.1;have R2:=RE.2.1;have R3:=RE.2.2.1;have F71:=F7.1;have bi:=rd_lim_le (lt:=Br cf) (d:=e) (a:=x) (b:=y) (limit:=i) (wb:=l) (wp:=k);have D:=t.a ab;refine(O 7∘Zc (Aas T d.size o x y pv X F6.1 F6.2 X X K D)) ?_;rintro _ w6⟨rfl,C,af⟩;refine(O 8)<|Lb (((partitionEqual (Br cf) o x y pv).1),y,j,(l,k),((partitionEqual (Br cf) o x y pv).2),w6) ?_;grind
          .refine(O 1∘Lm K) ?_;exact⟨by rw[show Br cf o[x-1]! o[pv]! =Af from AM (Dd.1 hq)];simp,t.a ab⟩
         .refine(Gv [3,4,5,6,7,8,9,10,11,12,13,14,15,16]∘Yd∘O 2∘Lm _) ?_;grind
        .rintro K⟨a4,D⟩;have RP:=round_part (mid:=(partition (Br cf) o x y pv).1) (ap:=(partition (Br cf) o x y pv).2.1) (d4:=(partition (Br cf) o x y pv).2.2) hO (partition_holds (Br cf)) F6.1 F6.2 X F7.2 Z;have bi:=rd_lim_le (lt:=Br cf) (d:=e) (a:=x) (b:=y) (limit:=i) (wb:=l) (wp:=k);have p:pv=(rd (Br cf) e x y i l k).pivot:=ai;have ao:=pdq_left (lt:=Br cf) (d:=e) (a:=x) (b:=y) (limit:=i) (wb:=l) (wp:=k) X h0 aj (by rw[<-q,<-p];exact a4) (by rw[<-q,<-p];exact⟨RP.1,RP.2.1⟩);have al:=pdq_right (lt:=Br cf) (d:=e) (a:=x) (b:=y) (limit:=i) (wb:=l) (wp:=k) X h0 aj (by rw[<-q,<-p];exact a4) (by rw[<-q,<-p];exact⟨RP.1,RP.2.1⟩);rw[<-q,<-p,<-I]at ao al;have F71:=F7.1;refine(O 7∘Zc (Aar T d.size o x y pv X F6.1 F6.2 X X K D)) ?_;rintro _ w6⟨rfl,C,af⟩;refine(O 34) ?_;generalize partition (Br cf) o x y pv=Q at RP ao al C af;obtain⟨n,ap,W⟩:=Q;obtain⟨P1,P2,P3,P4,P5,P6,P7⟩:=RP;simp only at P1 P2 P3 P4 P5 P6 P7 ao al C af;refine Zi (fun bh=>?_) fun bh=>?_
         .have PL:=pdq_sorts (Br cf) hO W x n j Af Af X X P4;refine(O 14∘Zc (ih x n j W w6 X X X X X P4 C)) ?_;rintro _ w7⟨rfl,ba,a8⟩;refine(O 7)<|Lb ((n+1),y,j,(decide (n-x≥(y-x)/8),ap),(pdq (Br cf) W x n j Af Af),w7) ?_;grind
         .have PL:=pdq_sorts (Br cf) hO W (n+1) y j Af Af X X P5;refine(O 15∘Zc (ih (n+1) y j W w6 X X X X X P5 C)) ?_;rintro _ w7⟨rfl,ba,a8⟩;refine(O 6)<|Lb (x,n,j,(decide (y-n≥(y-x)/8),ap),(pdq (Br cf) W (n+1) y j Af Af),w7) ?_;grind
end
end
section
open Go.Sort Bz
section
variable{α:Type}[Inhabited α]{enc:α->Ah}{cf:α->α->H}
def Agl{a:Ad}{g f:Y}{k:Ah}(r:CmpAt a g f k enc cf)(l:SWO (Br cf))(d:Ap α)(h0:0<d.size)(hsz:d.size<=1000000000)(w:Ad)(h:RowAt a w g enc d):
 Bm eD 264 [.slice (J ⟨g,0,Aa⟩) d.size d.size,.func (.func f) #[k] #[]] w fun v w'=>v=.tuple #[]/\∃d':Ap α,d'.toList.Perm d.toList/\d'.size=d.size/\(∀i j,i<j->j<d'.size->Br cf d'[j]! d'[i]! =Ai)/\RowAt a w' g enc d':=by
 have q:Ed d.size<64:=(Uh X).2 X
 have t:Go.Lib.bitLen (d.size:H).toNat=Ed d.size+1:=by
  rw[Oc,Go.Proofs.bitLen_eq _ X];unfold bitsLen;rw[Ag X]
 refine Bw Bh Z ntmps264 Bi Z ?_;refine(O 11∘Zc (Hj func109 Bi (nH (d.size:H) w X X))) ?_;rintro _ A⟨rfl,rfl⟩;refine(O 1) ?_;rw[t];refine(Zc (pdq_s r l d.size hsz (d.size+1) 0 d.size (Ed d.size+1) d _ X Z X X X (.inl Z) h)) ?_;rintro _ y⟨rfl,p,C⟩;refine(O 1) ?_;refine KW.done<|Ib Z ?_;obtain⟨n,m⟩:=pdq_sorts (Br cf) l d 0 d.size (Ed d.size+1) Af Af X X (.inl Z);obtain⟨o,_,B⟩:=n;refine⟨Z,_,?_,o,fun i j e D=>m i j X e X,p⟩;have E:∀x:Ap α,x.size=d.size->x.extract 0 d.size=x:=Bf;grind
end
abbrev Plc(n:Y):={i:Y//i<n}
def QS{n:Y}(x:Plc n):Ah:=Bb (x.1:H)
section
variable{s:Bg}{K b:Y}{rank:Bj}
def Adk(hk:Key s K rank b):SWO (Br fun x y:Plc (Alz s)=>Mk rank b x.1 y.1):=by
 have e:=hk.neg;refine⟨fun x=>AN fun h=>?_,fun x y z d a=>AM ?_,fun x y z d a=>AN fun h=>?_⟩
 .rcases(e _ _ x.2 x.2).1 h with q|q
  .exact yE q
  .omega
 .have d:=(e _ _ x.2 y.2).1 (AO d);have a:=(e _ _ y.2 z.2).1 (AO a);refine(e _ _ x.2 z.2).2 ?_;rcases d with d|⟨m,j⟩
  .rcases a with a|⟨l,i⟩
   .exact .inl (kz d a)
   .grind
  .grind
 .have d:=fun q=>AR d ((e _ _ x.2 y.2).2 q);have a:=fun q=>AR a ((e _ _ y.2 z.2).2 q);have f:=(e _ _ x.2 z.2).1 h;rcases ZC (pre s K x.1) (pre s K y.1)with q|q|q
  .grind
  .grind
  .rcases f with f|⟨k,g⟩
   .exact a (.inl (kz q f))
   .grind
def mS(hk:Key s K rank b)(p:Alz rank=Alz s)(h0:0<Alz s)(hn:Alz s<=1000000000)(hb:b<=1000000000)(L:∀x∈rank,x<=1000000000)(g k:Y)(P:k≠g)(o:Bj)(C:o.Perm (BE (Alz s)))(w:Ad)(hg:Bk w g 3 (BD .i64 o))(q:Bk w k 3 (BD .i64 rank)):
 Bm eD 264 [.slice (J ⟨g,0,Aa⟩) (Alz s) (Alz s),.func (.func 265) #[.agg (NE (J ⟨k,0,Aa⟩) (Alz s) (Alz s) b).toArray] #[]] w fun v w'=>v=.tuple #[]/\∃o',Sd s K o'/\Bk w' g 3 (BD .i64 o')/\Mo w w' [g]:=by
 haveI:Inhabited (Plc _):=⟨⟨0,h0⟩⟩
 have V:CmpAt w g 265 (.agg (NE (J ⟨k,0,Aa⟩) (Alz s) (Alz s) b).toArray) (QS (n:=Alz s)) (fun x y=>Mk rank b x.1 y.1):=by
  refine⟨fun W x y Q=>?_,fun _=>rfl,⟨_,Z⟩⟩;have hW:=q.j Q Bf;have:=tP _ (Alz s) b _ x.1 y.1 X X X hb L _ W hW.sl;rw[p]at this;exact this
 have t:Alz o=Alz s:=by rw[C.length_eq,Hf]
 have f:∀i∈o,i<Alz s:=Bf
 have hd:∀l,(D:∀i∈l,i<Alz s)->Jj QS (l.pmap (fun i h=>(⟨i,h⟩)) D).toArray=BD .i64 l:=fun l D=>by
  unfold Jj BD QS;rw[WQ];simp
 have I:(o.pmap (fun i h=>(⟨i,h⟩:Plc _)) f).toArray.size=Alz s:=by simp[t]
 have a:RowAt w w g (QS) (o.pmap (fun i h=>(⟨i,h⟩)) f).toArray:=⟨Bf,Mo.Akj (Be.refl w) _⟩;have E:=Agl V (Adk hk) _ X X w a;rw[I]at E;refine E.mono ?_;rintro v w'⟨e,B,N,G,m,d⟩
 have r:(B.toList.map (·.1)).Perm o:=by
  have:=N.map (fun x:Plc (Alz s)=>x.1);rwa[WQ,List.pmap_eq_map,List.map_id']at this
 refine⟨e,_,Sd.Alx hk (r.trans C) (fun i j T S A=>?_),?_,d.j⟩
 .simp at T S;have:=AR (m i j A X);grind
 .have:BD .i64 (B.toList.map (·.1))=Jj QS B:=by simp[BD,Jj,QS]
  rw[this];exact d.bk
end
end
end Go.Proofs.YtkmlafmjaeeanaaGreatDoor
