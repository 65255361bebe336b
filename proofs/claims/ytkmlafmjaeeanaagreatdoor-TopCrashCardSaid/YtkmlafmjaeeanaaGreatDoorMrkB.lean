/- TopCrash, part B: plain facts and functions of headers, fields, bits, runs, rotations and sorting. -/
import Derived.Test.YtkmlafmjaeeanaaGreatDoorMrkA
set_option linter.all false
set_option maxHeartbeats 2000000
set_option maxRecDepth 20000
open Go Go.RowKit Go.Proofs.Tryz
open _root_ renaming rfl→Z,Nat→Y,Int→H,List→Ae,if_neg→Ag,if_pos→Ai,Array→Ap,Bool→Ar,congrArg→Av,Option→Aw,trivial→AB,UInt8→AH,absurd→AI,String→AJ,decide_eq_true→AL,decide_eq_false→AN,of_decide_eq_true→AO,dif_pos→AQ,of_decide_eq_false→AR
open _root_.Array renaming replicate→JX
open _root_.Bool renaming true→Af,false→Aj
open _root_.Go renaming World→Ad,Value→Ah,TypeId→Ay,Addr→AC,Program→AD,Act→AE,Operand→AF,Oper→AG,IntKind→AK,Code→AM,Exit→AP
open _root_.List renaming range→BF,replicate→BJ,length→DZ,range'→Ha,Pairwise→HE,toArray→Li,Perm→Oo,cons→RM,length→Ajb
open _root_.Nat renaming blt→BL,log2→Ea,beq→Jw,cast→Nd,strongRecOn→RX,reducePow→WV
open _root_.Option renaming some→J,none→Aa
open _root_.UInt8 renaming ofNat→BU
namespace Go.Proofs.YtkmlafmjaeeanaaGreatDoor
namespace Ust
open Fld
abbrev By:=Bh
structure Hd where
 path:By
 size:H
 kind:Y
 mode:H
 time:H
 link:By
 n0:By
 n1:By
 i0:H
 i1:H
 deriving DecidableEq
def IU:Hd:=⟨[],0,0,0,0,[],[],[],0,0⟩
def sl(s:By)(k n:Y):By:=(s.drop k).take n
def DB(s:By)(n:Y):By:=s++Cu (n-Ajb s)
def oc(n:H)(k:Y):By:=Dm n.toNat k++[0]
def magic:By:=[117,115,116,97,114,0,48,48]
def SM(n:Y):Ajb (Cu n)=n:=by simp[Cu]
def SH{s:By}{n:Y}(h:Ajb s<=n):Ajb (DB s n)=n:=by unfold DB;rw[BA,SM];omega
def kS(n:H)(k:Y):Ajb (oc n k)=k+1:=by unfold oc;rw[BA,QS];rfl
def Hv(h:Hd)(name:By):Ae By:=[DB name 100,oc h.mode 7,oc h.i0 7,oc h.i1 7,oc h.size 11,oc h.time 11]
def Ib(h:Hd)(pre:By):Ae By:=[[BU h.kind],DB h.link 100,magic,DB h.n0 32,DB h.n1 32,oc 0 7++oc 0 7,DB pre 155,Cu 12]
def MP(h:Hd)(pre name s:By):By:=(Hv h name).flatten++s++(Ib h pre).flatten
def Iu(h:Hd):Y:=Fm (MP h (BP h.path).1 (BP h.path).2.1 (Cu 8)) 512
def Rr(n:Y):By:=Dm n 6++[0,32]
def CY(h:Hd):By:=MP h (BP h.path).1 (BP h.path).2.1 (Rr (Iu h))
def IV(k:Y):Prop:=k=48∨k=53∨k=120∨k=103
instance(k:Y):Decidable (IV k):=by unfold IV;infer_instance
def CJ(n:H)(m:H):Prop:=0<=n/\n<=m
instance(n m:H):Decidable (CJ n m):=by unfold CJ;infer_instance
def KJ(s:By)(m:Y):Prop:=Ajb s<=m/\(0:AH)∉s
instance(s:By)(m:Y):Decidable (KJ s m):=by unfold KJ;infer_instance
structure May(h:Hd):Prop where
 kind:IV h.kind
 path:(0:AH)∉h.path
 link:KJ h.link 100
 n0:KJ h.n0 31
 n1:KJ h.n1 31
 mode:CJ h.mode 2097151
 i0:CJ h.i0 2097151
 i1:CJ h.i1 2097151
 size:CJ h.size 8589934591
 time:CJ h.time 8589934591
def xt(h:Hd):May h↔IV h.kind/\(0:AH)∉h.path/\KJ h.link 100/\KJ h.n0 31/\KJ h.n1 31/\CJ h.mode 2097151/\CJ h.i0 2097151/\CJ h.i1 2097151/\CJ h.size 8589934591/\CJ h.time 8589934591:=
 ⟨fun⟨a,b,c,d,e,f,g,i,j,k⟩=>Bg,fun⟨a,b,c,d,e,f,g,i,j,k⟩=>⟨a,b,c,d,e,f,g,i,j,k⟩⟩
instance(h:Hd):Decidable (May h):=decidable_of_iff _ (xt h).symm
def JJ(h:Hd):By×Y:=
 if(BP h.path).2.2=Aj∨h.path=[]then([],140)else if May h then(CY h,0)else([],160)
def LG(s:By):By:=if cut (sl s 345 155)≠[]then cut (sl s 345 155)++[47]++cut (sl s 0 100)else cut (sl s 0 100)
def OY(s:By):Y:=if(s.getD 156 0).toNat=0 then 48 else(s.getD 156 0).toNat
def Nx(s:By):Hd:=⟨LG s,(num (sl s 124 12)).1,OY s,(num (sl s 100 8)).1,(num (sl s 136 12)).1,cut (sl s 157 100),cut (sl s 265 32),cut (sl s 297 32),(num (sl s 108 8)).1,(num (sl s 116 8)).1⟩
structure OkD(s:By):Prop where
 len:Ajb s=512
 magic:sl s 257 8=magic
 mode:(num (sl s 100 8)).2=0
 i0:(num (sl s 108 8)).2=0
 i1:(num (sl s 116 8)).2=0
 size:(num (sl s 124 12)).2=0
 time:(num (sl s 136 12)).2=0
 sum:(num (sl s 148 8)).2=0
 sums:(num (sl s 148 8)).1=Fm s 512
 path:LG s≠[]
def yx(s:By):OkD s↔Ajb s=512/\sl s 257 8=magic/\(num (sl s 100 8)).2=0/\(num (sl s 108 8)).2=0/\(num (sl s 116 8)).2=0/\(num (sl s 124 12)).2=0/\(num (sl s 136 12)).2=0/\(num (sl s 148 8)).2=0/\(num (sl s 148 8)).1=Fm s 512/\LG s≠[]:=
 ⟨fun⟨a,b,c,d,e,f,g,i,j,k⟩=>Bg,fun⟨a,b,c,d,e,f,g,i,j,k⟩=>⟨a,b,c,d,e,f,g,i,j,k⟩⟩
instance(s:By):Decidable (OkD s):=decidable_of_iff _ (yx s).symm
def Hi(s:By):Hd×Y:=if OkD s then(Nx s,0)else(IU,160)
def mY:∀(L:Ae By) (i k n:Y) (h:i<Ajb L),((L.map DZ).take i).sum=k->Ajb (L[i])=n->sl L.flatten k n=L[i]
 |[],i,k,n,h,_,_=>by simp at h
 |a::L,0,k,n,h,hk,hn=>by
  subst hk hn;simp[sl]
 |a::L,i+1,k,n,h,hk,hn=>by
  simp at hk;have ih:=mY L i (k-Ajb a) n (by simpa using h) X Bg;have hle:Ajb a<=k:=X;simp only[List.getElem_cons_succ];rw[<-ih];unfold sl;rw[PZ,List.drop_append,Oq hle,EP]
def nA{s t:By}:∀i,(∀k,k<i->¬(148<=k/\k<156)->s.getD k 0=t.getD k 0)->Fm s i=Fm t i
 |0,_=>rfl
 |i+1,h=>by
  simp only[Fm];rw[nA i (fun k hk=>h k X)];grind
def Adl{a b d c:By}(g:Ajb a=148)(f:Ajb b=8)(e:Ajb d=8)(i:Y):Fm (a++b++c) i=Fm (a++d++c) i:=by
 apply nA;grind
def yo{n:Y}(h:n/8 ^ 6=0):num (Rr n)=(n,0):=by
 have i:(Dm n 6++[0,32]).dropWhile (HV 32 32)=Dm n 6++[0,32]:=by
  rw[Vh,Gi,dm];simp[HV,RB];rw[Nu X];omega
 have g:(Dm n 6++[0,32]).takeWhile Fi=Dm n 6:=by
  rw[dt (fun a d=>SO _ _ a d)];simp[Fi]
 have f:(Dm n 6++[0,32]).dropWhile Fi=[0,32]:=by
  rw[List.dropWhile_append_of_pos (fun a d=>SO _ _ a d)];decide
 unfold num Rr
 have e:n<=9007199254740992:=by
  omega
 simp only[i,g,f,YE _ _ h e];rw[Ag Bc,Ag X]
def SN{n:H}{k:Y}(hk:1<=k)(h0:0<=n)(h:n.toNat/8 ^ k=0)(hn:n<=9007199254740992):num (oc n k)=(n.toNat,0):=yn hk h X
def YS(h:Hd){a:By}(d:Ajb a<=100):(Hv h a).map DZ=[100,8,8,8,12,12]:=by
 simp[Hv,Co,Ep,SH d,kS]
def nH(h:Hd){pre:By}(a:Ajb pre<=155)(h1:Ajb h.link<=100)(e:Ajb h.n0<=32)(d:Ajb h.n1<=32):(Ib h pre).map DZ=[1,100,8,32,32,16,155,12]:=by
 simp only[Ib,Co,Ep,SH a,SH h1,SH e,SH d,BA,kS,SM];rfl
def oJ(h:Hd)(pre a s:By):MP h pre a s=(Hv h a++[s]++Ib h pre).flatten:=by simp[MP]
def Sr{s:By}(h:(0:AH)∉s)(n:Y):cut (DB s n)=s:=fE (UA h) _
def nB(s:By):Fm s 512/8 ^ 6=0:=by
 have:=VM s 512;omega
def aT(n:Y):Ajb (Rr n)=8:=by rfl
def gz{h:Hd}{pre a s:By}(hm:May h)(j:Ajb a<=100)(g:Ajb pre<=155)(f:Ajb s=8):
 Ajb (MP h pre a s)=512/\∀(i k n:Y),i<15->(([100,8,8,8,12,12,8,1,100,8,32,32,16,155,12]:Bj).take i).sum=k->([100,8,8,8,12,12,8,1,100,8,32,32,16,155,12]:Bj)[i]? =J n->∃x,(Hv h a++[s]++Ib h pre)[i]? =J x/\sl (MP h pre a s) k n=x:=by
 have m:=hm.link.1;have t:=hm.n0.1;have r:=hm.n1.1
 have l:(Hv h a++[s]++Ib h pre).map DZ=[100,8,8,8,12,12,8,1,100,8,32,32,16,155,12]:=by
  rw[DT,DT,YS h j,nH h g m X X];simp[f]
 refine⟨?_,fun i k n q p o=>?_⟩
 .rw[oJ,WG,l];rfl
 .have e:Ajb (Hv h a++[s]++Ib h pre)=15:=by simp[Hv,Ib]
  have d:i<Ajb (Hv h a++[s]++Ib h pre):=X;refine⟨_,BR d,?_⟩;rw[oJ];refine mY _ i k n _ Bg ?_;grind
def QC{n:H}{k:Y}{m:H}(h:CJ n m)(hm:m<((8 ^ k:Y):H)):n.toNat/8 ^ k=0:=Nat.div_eq_zero_iff.2 (.inr (by have:=h.1;have:=h.2;omega))
def uJ{s:By}{k:Y}{x:AH}(h:sl s k 1=[x]):s.getD k 0=x:=by
 unfold sl at h;by_cases a:k<Ajb s
 .rw[DE a,TV,Qd]at h;grind
 .rw[Oq X]at h;grind
def uZ{h:Hd}(hm:May h)(e:(BP h.path).2.2=Af)(f:h.path≠[]):Ajb (CY h)=512:=by
 obtain⟨d,l,a,k,j,i,g⟩:=aP e f;exact(gz hm d a (aT _)).1
def Ns{h:Hd}(hm:May h)(hs:(BP h.path).2.2=Af)(hp:h.path≠[]):Hi (CY h)=(h,0):=by
 obtain⟨G,s2,S,Q,P,N,s7⟩:=aP hs hp;obtain⟨i,a⟩:=gz (s:=Rr (Iu h)) hm G S (aT _);have v:=a 0 0 100 Bc Z Z;have t:=a 1 100 8 Bc Z Z;have r:=a 2 108 8 Bc Z Z;have p:=a 3 116 8 Bc Z Z;have o:=a 4 124 12 Bc Z Z;have n:=a 5 136 12 Bc Z Z;have m:=a 6 148 8 Bc Z Z;have l:=a 7 156 1 Bc Z Z;have k:=a 8 157 100 Bc Z Z;have j:=a 9 257 8 Bc Z Z;have g:=a 10 265 32 Bc Z Z;have f:=a 11 297 32 Bc Z Z;have d:=a 13 345 155 Bc Z Z;change ∃x,J _=J x/\_ at v t r p o n m l k j g f d;obtain⟨_,e,v⟩:=v;cases e;obtain⟨_,e,t⟩:=t;cases e;obtain⟨_,e,r⟩:=r;cases e;obtain⟨_,e,p⟩:=p;cases e;obtain⟨_,e,o⟩:=o;cases e;obtain⟨_,e,n⟩:=n;cases e;obtain⟨_,e,m⟩:=m;cases e;obtain⟨_,e,l⟩:=l;cases e;obtain⟨_,e,k⟩:=k;cases e;obtain⟨_,e,j⟩:=j;cases e;obtain⟨_,e,g⟩:=g;cases e;obtain⟨_,e,f⟩:=f;cases e;obtain⟨_,e,d⟩:=d;cases e;change sl (CY h) _ _=_ at v t r p o n m l k j g f d;change (Ajb (CY h))=512 at i;have L:(0:AH)∉(BP h.path).2.1:=fun q=>hm.path (P _ q);have K:(0:AH)∉(BP h.path).1:=fun q=>hm.path (Q _ q);have C:=hm.mode;have B:=hm.i0;have A:=hm.i1;have y:=hm.size;have w:=hm.time;have n1:num (sl (CY h) 100 8)=(h.mode.toNat,0):=by rw[t];exact SN Bc C.1 (QC C Bc) (by have:=C.2;omega)
 have n2:num (sl (CY h) 108 8)=(h.i0.toNat,0):=by rw[r];exact SN Bc B.1 (QC B Bc) (by have:=B.2;omega)
 have W:num (sl (CY h) 116 8)=(h.i1.toNat,0):=by rw[p];exact SN Bc A.1 (QC A Bc) (by have:=A.2;omega)
 have V:num (sl (CY h) 124 12)=(h.size.toNat,0):=by rw[o];exact SN Bc y.1 (QC y Bc) (by have:=y.2;omega)
 have T:num (sl (CY h) 136 12)=(h.time.toNat,0):=by rw[n];exact SN Bc w.1 (QC w Bc) (by have:=w.2;omega)
 have n6:num (sl (CY h) 148 8)=(Iu h,0):=by rw[m];exact yo (nB _)
 have I:Fm (CY h) 512=Iu h:=by
  unfold CY Iu MP;refine Adl ?_ (aT _) (SM 8) _;rw[WG,YS h G];rfl
 have hk:OY (CY h)=h.kind:=by
  unfold OY;rw[uJ l];have:=hm.kind;unfold IV at this;rcases this with e|e|e|e<;>rw[e]<;>rfl
 have D:LG (CY h)=h.path:=by
  unfold LG;rw[v,d,Sr L,Sr K];exact N
 have E:OkD (CY h):=⟨i,j,Bg,Bg,Bg,Bg,Bg,Bg,Bg,Bg⟩;unfold Hi;rw[Ai E];unfold Nx;rw[D,hk,n1,n2,W,V,T,k,g,f,Sr hm.link.2,Sr hm.n0.2,Sr hm.n1.2];simp only[TE C.1,TE B.1,TE A.1,TE y.1,TE w.1]
end Ust
namespace Pax
open Fld
abbrev By:=Bh
structure Pr where
 key:By
 val:By
 deriving DecidableEq
def CN(s:By)(c:AH):By×By×Ar:=if c∈s then(s.takeWhile (· !=c),(s.dropWhile (· !=c)).drop 1,Af)else(s,[],Aj)
def fB(s:By)(c:AH):Ajb (CN s c).1<=Ajb s:=by
 unfold CN;split
 .exact(List.takeWhile_prefix _).length_le
 .simp
def KD(s:By):Aw (Pr×Y):=
 let d:=CN s 32
 let n:=(dec d.1).1
 if d.2.2=Af/\(dec d.1).2=0/\n<=Ajb s/\Ajb d.1+2<=n/\s.getD (n-1) 0=10 then
  let e:=CN ((s.drop (Ajb d.1+1)).take (n-1-(Ajb d.1+1))) 61
  if e.2.2=Af/\e.1≠[]then J (⟨e.1,e.2.1⟩,n)else Aa
 else Aa
def Fe:Y->By->Ae Pr->Ae Pr×Y
 |0,_,_=>([],170)
 |f+1,s,out=>if s=[]then(out,0)else match KD s with
  |some (p,n)=>Fe f (s.drop n) (out++[p])
  |none=>([],170)
def GM(s:By):Ae Pr×Y:=if 262144<Ajb s then([],3)else Fe (Ajb s+1) s []
def tH{s:By}{p:Pr}{n:Y}(h:KD s=J (p,n)):2<=n/\n<=Ajb s:=by
 unfold KD at h;grind
def XO:∀(f:Y) (s:By) (out:Ae Pr),Ajb s<f->Fe f s out=((if(Fe f s []).2=0 then out++(Fe f s []).1 else[]),(Fe f s []).2)/\∀f',Ajb s<f'->Fe f' s out=Fe f s out
 |0,s,out,h=>by omega
 |f+1,s,out,h=>by
  by_cases hs:s=[]
  .subst hs;refine⟨by simp[Fe],fun f' h'=>?_⟩;obtain⟨g,rfl⟩:∃g,f'=g+1:=⟨f'-1,X⟩;simp[Fe]
  .rcases hd:KD s with _|⟨p,n⟩
   .refine⟨by simp[Fe,hs,hd],fun f' h'=>?_⟩;obtain⟨g,rfl⟩:∃g,f'=g+1:=⟨f'-1,X⟩;simp[Fe,hd]
   .obtain⟨n2,nl⟩:=tH hd;have hl:Ajb (s.drop n)<f:=by rw[CM];omega
    obtain⟨d,_⟩:=XO f (s.drop n) (out++[p]) hl;obtain⟨a,_⟩:=XO f (s.drop n) ([]++[p]) hl;refine⟨?_,fun f' h'=>?_⟩
    .rw[Fe,Ag hs,hd,Fe,Ag hs,hd];grind
    .obtain⟨g,rfl⟩:∃g,f'=g+1:=⟨f'-1,X⟩;rw[Fe,Ag hs,hd,Fe,Ag hs,hd];grind
def dl(n:Y):Y:=Ajb (Lib.decDigits n)
def JH(r:Y):Y:=((BF 40).find? (fun d=>decide (1<=d/\dl (d+r)=d))).getD 0
def IsD(r d:Y):Prop:=1<=d/\d<40/\dl (d+r)=d/\∀d',1<=d'->d'<d->dl (d'+r)≠d'
def vK{r d:Y}(h:IsD r d):d=JH r:=by
 obtain⟨i,g,f,e⟩:=h;unfold JH
 have:(BF 40).find? (fun d=>decide (1<=d/\dl (d+r)=d))=J d:=by
  rw[List.find?_range_eq_some];refine⟨Bg,Bg,fun j a=>?_⟩;grind
 grind
def rest(p:Pr):Y:=Ajb p.key+Ajb p.val+3
def Dj(p:Pr):Y:=JH (rest p)+rest p
def Du(p:Pr):By:=Lib.decDigits (Dj p)++[32]++p.key++[61]++p.val++[10]
def Mw(k:By):Ar:=decide (k≠[]/\(61:AH)∉k)
def Lu:Ae Pr->Y->By->By×Y
 |[],_,out=>(out,0)
 |p::l,n,out=>if 262144<n+Dj p then([],3)else Lu l (n+Dj p) (out++Du p)
def Nw(l:Ae Pr):By×Y:=if l.all (fun p=>Mw p.key)then Lu l 0 []else([],170)
def fX:∀(n m:Y),n<=m->dl n<=dl m:=by
 intro n
 induction n using RX with
 |ind n ih=>
  intro m h;unfold dl;by_cases d:m<10
  .rw[Ls d,Ls X];simp
  .rw[OK d];by_cases a:n<10
   .rw[Ls a];simp
   .rw[OK a];have:=ih (n/10) X (m/10) X;unfold dl at this;grind
def fY(n:Y):1<=dl n:=Na.2 (XR n)
def fW:∀(k n:Y),n<10 ^ k->1<=k->dl n<=k
 |0,n,_,h=>by omega
 |1,n,h,_=>by
  unfold dl;rw[Ls X];simp
 |k+2,n,h,_=>by
  by_cases hn:n<10
  .unfold dl;rw[Ls hn];simp
  .have:=fW (k+1) (n/10) Bg X;unfold dl at this ⊢;rw[OK hn];grind
end Pax
namespace Pth
abbrev Cn:=Ae (Bh)
def BO:Bh->Cn
 |[]=>[[]]
 |c::s=>if c=47 then[]::BO s else match BO s with
  |p::r=>(c::p)::r
  |[]=>[[c]]
def ZW(c:AH)(s:Bh):BO (c::s)=if c=47 then[]::BO s else match BO s with
 |p::r=>(c::p)::r
 |[]=>[[c]]:=rfl
def Vm:∀s,BO s≠[]
 |[]=>by simp[BO]
 |c::s=>by
  unfold BO;grind
def ZY:∀a b:Bh,(∀c∈a,c≠47)->BO (a++47::b)=a::BO b
 |[],b,_=>by rfl
 |c::a,b,h=>by
  have hc:=h c Bi;rw[Gi,ZW,Ag hc,ZY a b Bg]
def ZZ:∀a:Bh,(∀c∈a,c≠47)->BO a=[a]
 |[],_=>rfl
 |c::a,h=>by
  have hc:=h c Bi;rw[ZW,Ag hc,ZZ a Bg]
def wt:Cn->Y
 |[]=>0
 |x::l=>Ajb x+1+wt l
def Tu:∀s,wt (BO s)=Ajb s+1
 |[]=>rfl
 |c::s=>by
  have ih:=Tu s;unfold BO;split
  .simp[wt,ih];omega
  .split
   .rename_i p r e;rw[e]at ih;simp[wt]at ih ⊢;omega
   .rename_i e;exact AI e (Vm s)
def Wd:∀l:Cn,Ajb l<=wt l
 |[]=>by simp
 |x::l=>by have:=Wd l;simp[wt];omega
def bQ:∀a b:Cn,wt (a++b)=wt a+wt b
 |[],b=>by simp[wt]
 |x::a,b=>by simp[wt,bQ];omega
def bR(q:Bh->Ar):∀l:Cn,wt (l.filter q)<=wt l
 |[]=>by simp
 |x::l=>by
  have:=bR q l;rw[LV];split<;>simp[wt]<;>omega
def Iw:Cn->Bh
 |[]=>[]
 |[x]=>x
 |x::y::l=>x++47::Iw (y::l)
def YZ:∀l:Cn,Go.Lib.join l [47]=Iw l
 |[]=>rfl
 |[x]=>by simp[Go.Lib.join,Iw]
 |x::y::l=>by
  have ih:=YZ (y::l);simp only[Go.Lib.join,List.intercalate,Iw]at ih ⊢;simp_all
def jD:∀l:Cn,Ajb (Iw l)<=wt l
 |[]=>by simp[Iw]
 |[x]=>by simp[Iw,wt]
 |x::y::l=>by
  have:=jD (y::l);simp[Iw,wt]at this ⊢;omega
def OX(x:Bh):Ar:=decide (x≠[]/\x≠[46])
def kept(l:Cn):Cn:=l.filter OX
def jF(l:Cn)(x:Bh):kept (l++[x])=if OX x=Af then kept l++[x]else kept l:=by
 unfold kept;grind
def dd:Bh:=[46,46]
def fits(s:Bh):Prop:=∀c∈s,32<=c.toNat/\c.toNat<=126
instance(s:Bh):Decidable (fits s):=by unfold fits;infer_instance
def GK(s:Bh):Bh×Y:=
 if fits s/\dd∉BO s/\Iw (kept (BO s))≠[]/\Ajb (Iw (kept (BO s)))<=120 then(Iw (kept (BO s)),0)else([],140)
def Cw(s:Bh):Y:=if GK s=(s,0)then 0 else 140
end Pth
namespace Tar
open Fld Ust Pax Pth
abbrev By:=Bh
structure En where
 path:By
 data:By
 deriving DecidableEq
def Gn(n:Y):Y:=(n+511)/512*512
def Yq(n:Y):n<=Gn n:=by unfold Gn;omega
def SA(n:Y):Gn n<=n+511:=by unfold Gn;omega
def CL(path:By)(kind n:Y):Hd:=⟨path,(n:H),kind,420,0,[],[],[],0,0⟩
def FW(path:By)(kind:Y)(data:By):By:=CY (CL path kind (Ajb data))++data++Cu (Gn (Ajb data)-Ajb data)
def Em:By:=[112,97,116,104]
def Hk:By:=[112,97,120]
def JM(x:En):By:=if(BP x.path).2.2=Af then FW x.path 48 x.data else FW Hk 120 (Du ⟨Em,x.path⟩)++FW (x.path.take 100) 48 x.data
def JL(x:En):By×Y:=if Cw x.path≠0 then([],140)else if 262144<Ajb x.data then([],3)else(JM x,0)
def Qv{s:By}(h:Cw s=0):GK s=(s,0)/\s≠[]/\Ajb s<=120/\(0:AH)∉s:=by
 unfold Cw at h;split at h
 .rename_i e;refine⟨e,?_⟩;unfold GK at e;split at e
  .rename_i a;simp at e;rw[e]at a;refine⟨a.2.2.1,X,fun d=>?_⟩;have:=(a.1 0 d).1;grind
  .grind
 .omega
def aL{p:By}(h:Ajb p<=100):(BP p).2.2=Af:=by unfold BP;grind
def ya{p:By}(h:¬(BP p).2.2=Af):100<Ajb p:=by
 apply Nat.lt_of_not_le;intro q;exact h (aL q)
def YP{p:By}{k n:Y}(h0:(0:AH)∉p)(hk:IV k)(hn:n<=8589934591):May (CL p k n):=
 ⟨hk,h0,⟨BE _,by simp[CL]⟩,⟨BE _,by simp[CL]⟩,⟨BE _,by simp[CL]⟩,⟨by show(0)<=420;decide,by show(420)<=2097151;decide⟩,⟨Int.le_refl _,by show(0)<=2097151;decide⟩,⟨Int.le_refl _,by show(0)<=2097151;decide⟩,⟨by show(0:H)<=n;omega,by show(n:H)<=8589934591;omega⟩,⟨Int.le_refl _,by show(0)<=8589934591;decide⟩⟩
structure Good(p:By)(k n:Y):Prop where
 ne:p≠[]
 zero:(0:AH)∉p
 split:(BP p).2.2=Af
 kind:IV k
 size:n<=8589934591
def Good.enc{p:By}{k n:Y}(h:Good p k n):JJ (CL p k n)=(CY (CL p k n),0):=by
 unfold JJ
 have a:¬((BP (CL p k n).path).2.2=Aj∨(CL p k n).path=[]):=by
  rintro(q|q)
  .rw[show(CL p k n).path=p from Z,h.split]at q;grind
  .exact h.ne q
 rw[Ag a,Ai (YP h.zero h.kind h.size)]
def Good.len{p:By}{k n:Y}(h:Good p k n):Ajb (CY (CL p k n))=512:=uZ (YP h.zero h.kind h.size) h.split h.ne
def Good.dec{p:By}{k n:Y}(h:Good p k n):Hi (CY (CL p k n))=(CL p k n,0):=Ns (YP h.zero h.kind h.size) h.split h.ne
def YJ{x:En}(h:Cw x.path=0)(f:Ajb x.data<=262144)(a:(BP x.path).2.2=Af):Good x.path 48 (Ajb x.data):=by
 obtain⟨_,e,_,d⟩:=Qv h;exact⟨e,d,a,.inl Z,X⟩
def YK{n:Y}(h:n<=8589934591):Good Hk 120 n:=⟨by simp[Hk],Bc,aL Bc,.inr (.inr (.inl Z)),h⟩
def YI{x:En}(h:Cw x.path=0)(a:Ajb x.data<=262144):Good (x.path.take 100) 48 (Ajb x.data):=by
 obtain⟨_,e,_,d⟩:=Qv h;refine⟨fun q=>?_,Bg,aL Bg,.inl Z,X⟩;simp_all
def SC:∀r,r<200->dl (JH r+r)=JH r/\1<=JH r/\JH r<=3:=by decide+kernel
def fz{a b:By}{c:AH}(h:c∉a):CN (a++c::b) c=(a,b,Af):=by
 have d:∀x∈a,(x !=c)=Af:=Bg;unfold CN;simp_all
def an{p:Pr}(h:rest p<200):Ajb (Du p)=Dj p:=by
 have a:=(SC _ h).1;unfold Du;simp only[BA,Dd];have e:Ajb (Lib.decDigits (Dj p))=JH _:=a;rw[e];unfold Dj rest;omega
def zN{p:Pr}(h:rest p<200)(hk:(61:AH)∉p.key)(m:p.key≠[]):GM (Du p)=([p],0):=by
 have v:=SC _ h;have w:=an h;have i:Dj p<=9007199254740992:=by unfold Dj;omega
 have x:Ajb (Lib.decDigits (Dj p))=JH _:=v.1
 have f:(32)∉Lib.decDigits (Dj p):=fun q=>by
  have:=fM _ _ q;exact AI this Bc
 have t:Du p=Lib.decDigits (Dj p)++32::(p.key++61::(p.val++[10])):=by simp[Du]
 have r:=fz (b:=p.key++61::(p.val++[10])) f;rw[<-t]at r;have n:=sT _ i;have l:rest p=Ajb p.key+Ajb p.val+3:=rfl;have j:Dj p=JH _+rest p:=rfl
 have g:((Du p).drop (Ajb (Lib.decDigits (Dj p))+1)).take (Dj p-1-(Ajb (Lib.decDigits (Dj p))+1))=p.key++61::p.val:=by
  have e:Du p=(Lib.decDigits (Dj p)++[32])++((p.key++61::p.val)++[10]):=by simp[Du]
  rw[e,RN Bi,Hr Bg]
 have o:=fz (b:=p.val) hk
 have a:KD (Du p)=J (p,Dj p):=by
  unfold KD;rw[r];simp only;rw[n];rw[Ai Bg,g,o];rw[Ai ⟨Bi,m⟩]
 have d:Du p≠[]:=Bg
 have y:Fe (Ajb (Du p)+1) (Du p) []=([p],0):=by
  rw[Fe,Ag d,a];simp only;rw[Oq X];have:∃k,Ajb (Du p)=k+1:=⟨Ajb (Du p)-1,X⟩;obtain⟨k,hk⟩:=this;rw[hk,Fe,Ai Z];rfl
 unfold GM;simp_all;omega
def Pp{s:By}(h:Ajb s<=120):rest ⟨Em,s⟩<200:=by unfold rest Em;grind
def yW{s:By}(h:Ajb s<=120):Nw [⟨Em,s⟩]=(Du ⟨Em,s⟩,0):=by
 have a:=SC _ (Pp h);have e:=Pp h;have d:Dj ⟨Em,s⟩<=262144:=by unfold Dj;omega
 unfold Nw;rw[Ai (by rfl),Lu,Ag X,Lu];rfl
def yV{s:By}(h:Ajb s<=120):GM (Du ⟨Em,s⟩)=([⟨Em,s⟩],0):=zN (Pp h) (show(61:AH)∉Em by decide) (show Em≠[] by decide)
def aJ{p:By}{k:Y}{d:By}(h:Good p k (Ajb d)):Ajb (FW p k d)=512+Gn (Ajb d):=by
 have:=Yq (Ajb d);unfold FW;rw[BA,BA,h.len,SM];omega
end Tar
namespace Dsk
open Go.Proofs.YtkmlafmjaeeanaaGreatDoor
inductive Ch where
 |write (i:Y) (s:Bh)
 |cut (n:Y)
def EN(n:Y):Bh:=BJ n 0
def Ch.ap:Ch->Bh->Bh
 |.write i s,all=>
  (all++EN ((i+1)*512-Ajb all)).take (i*512)++s++(all++EN ((i+1)*512-Ajb all)).drop (i*512+Ajb s)
 |.cut n,all=>all.take (min (Ajb all) (n*512))
def Ch.ok(cap:Y):Ch->Prop
 |.write i s=>i<cap/\Ajb s=512
 |.cut n=>n<=cap
def PK(n:Y):Ajb (EN n)=n:=by simp[EN]
def Ul{cap:Y}{c:Ch}(h:c.ok cap){all:Bh}(a:Ajb all<=512*cap):Ajb (c.ap all)<=512*cap:=by
 cases c with
 |write i s=>
  obtain⟨e,d⟩:=h;simp only[Ch.ap,BA,BZ,CM,PK];omega
 |cut n=>simp only[Ch.ap,BZ];omega
def Xj{cap:Y}{c:Ch}(h:c.ok cap){all:Bh}(a:Ajb all%512=0):Ajb (c.ap all)%512=0:=by
 cases c with
 |write i s=>
  obtain⟨e,d⟩:=h;simp only[Ch.ap,BA,BZ,CM,PK];omega
 |cut n=>simp only[Ch.ap,BZ];omega
structure Dv where
 cap:Y
 kept:Bh
 now:Bh
 pend:Ae Ch
 at_:Y
 keep:Ae Ar
 dead:Ar
 calls:Y
structure Dv.Ok(D:Dv):Prop where
 cap:1<=D.cap/\D.cap<=4096
 kept:Ajb D.kept<=512*D.cap
 now:Ajb D.now<=512*D.cap
 keptM:Ajb D.kept%512=0
 nowM:Ajb D.now%512=0
 pend:∀c∈D.pend,c.ok D.cap
def DN:Ae Ch->Ae Ar->Bh->Bh
 |[],_,all=>all
 |c::cs,[],all=>all
 |c::cs,b::bs,all=>DN cs bs (if b then c.ap all else all)
def Dv.Agm(D:Dv)(c:Aw Ch):Dv:=match c with
 |some c=>{ D with pend:=D.pend++[c] }
 |none=>D
def Dv.done(D:Dv)(c:Aw Ch):Dv:=match c with
 |some c=>{ D with now:=c.ap D.now,calls:=D.calls+1 }
 |none=>{ D with kept:=D.now,pend:=[],calls:=D.calls+1 }
def Dv.Ago(D:Dv)(c:Aw Ch):Dv×Y:=
 let E:=D.Agm c
 if E.at_=0 then(E.done c,0)
 else if E.at_=1 then({ E with kept:=DN E.pend E.keep E.kept,now:=DN E.pend E.keep E.kept,pend:=[],at_:=0,keep:=[],dead:=Af },190)
 else(Dv.done { E with at_:=E.at_-1 } c,0)
def Yk{cap:Y}:∀(cs:Ae Ch) (bs:Ae Ar) (all:Bh),(∀c∈cs,c.ok cap)->Ajb all<=512*cap->Ajb all%512=0->Ajb (DN cs bs all)<=512*cap/\Ajb (DN cs bs all)%512=0
 |[],_,all,_,h1,h2=>⟨h1,h2⟩
 |c::cs,[],all,_,h1,h2=>⟨h1,h2⟩
 |c::cs,b::bs,all,h,h1,h2=>by
  simp[DN];refine Yk _ _ _ Bg ?_ ?_
  .split
   .exact Ul Bg h1
   .omega
  .split
   .exact Xj (h c Bi) h2
   .omega
def gx:∀(cs:Ae Ch) (c:Ch) (bs:Ae Ar) (all:Bh),DN (cs++[c]) bs all=if bs.getD (Ajb cs) Aj then c.ap (DN cs bs all)else DN cs bs all
 |[],c,[],all=>by simp[DN]
 |[],c,b::bs,all=>by simp[DN]
 |d::cs,c,[],all=>by simp[DN]
 |d::cs,c,b::bs,all=>by
  simp[Gi,DN,gx,Cz,List.getD_cons_succ]
def lM{D:Dv}(h:D.Ok){c:Aw Ch}(e:∀d,c=J d->d.ok D.cap):(D.Agm c).Ok:=by
 cases c with
 |none=>exact h
 |some c=>
  refine⟨h.cap,h.kept,h.now,h.keptM,h.nowM,fun d a=>?_⟩;simp[Dv.Agm,Dx,CF]at a;rcases a with a|rfl
  .exact h.pend d a
  .exact e _ Z
def gi{D:Dv}(h:D.Ok){c:Aw Ch}(a:∀d,c=J d->d.ok D.cap):(D.done c).Ok:=by
 cases c with
 |none=>exact⟨h.cap,h.now,h.now,h.nowM,h.nowM,fun d e=>by simp[Dv.done]at e⟩
 |some c=>exact⟨h.cap,h.kept,Ul (a c Z) h.now,h.keptM,Xj (a c Z) h.nowM,h.pend⟩
def lL(D:Dv)(c:Aw Ch):(D.Agm c).cap=D.cap:=by cases c<;>rfl
def XV{D:Dv}(h:D.Ok){c:Aw Ch}(i:∀d,c=J d->d.ok D.cap):(D.Ago c).1.Ok:=by
 have a:=lM h i;have e:∀d,c=J d->d.ok (D.Agm c).cap:=fun d j=>by rw[lL];grind
 unfold Dv.Ago;simp;split
 .exact gi a e
 .split
  .obtain⟨g,f⟩:=Yk (cap:=(D.Agm c).cap) (D.Agm c).pend (D.Agm c).keep (D.Agm c).kept a.pend a.kept a.keptM;exact⟨a.cap,g,g,f,f,Bi⟩
  .exact gi (D:={ D.Agm c with at_:=(D.Agm c).at_-1 }) ⟨a.cap,a.kept,a.now,a.keptM,a.nowM,a.pend⟩ e
end Dsk
namespace Bz
abbrev Bs:=Ae Ar
abbrev By:=Bh
def nb(n v:Y):Bs:=(BF n).map fun k=>v.testBit (n-1-k)
def nb_length(n v:Y):Ajb (nb n v)=n:=by simp[nb]
def Vb{n v k:Y}(h:k<n):(nb n v)[k]? =J (v.testBit (n-1-k)):=by simp[nb,h]
def xQ{n v k:Y}(h:k<n):(nb n v).take (k+1)=(nb n v).take k++[v.testBit (n-1-k)]:=by
 rw[LY,Vb h];rfl
def num:Bs->Y:=List.foldl (fun v b=>2*v+b.toNat) 0
def ZK(l:Bs)(b:Ar):num (l++[b])=2*num l+b.toNat:=by simp[num]
def aN{α:Type}{p:Ae α->Prop}(h0:p [])(h1:∀l a,p l->p (l++[a]))(l:Ae α):p l:=by
 have:∀r:Ae _,p r.reverse:=fun r=>by
  induction r with
  |nil=>grind
  |cons a r ih=>grind
 simpa using this l.reverse
def Pm(l:Bs):num l<2 ^ Ajb l:=by
 induction l using aN with
 |h0=>simp[num]
 |h1 l b ih=>
  rw[ZK,BA,Dd,Kt];have:=PN b;omega
def QQ(l:Bs):∀k,(num l).testBit k=l.reverse.getD k Aj:=by
 induction l using aN with
 |h0=>intro k;simp[num]
 |h1 l b ih=>
  intro k;rw[ZK,List.reverse_append];cases k with
  |zero=>cases b<;>simp<;>omega
  |succ k=>
   rw[Nat.testBit_succ,show(2*num l+b.toNat)/2=num l by have:=PN b;omega,ih];simp
def kH(l:Bs):nb (Ajb l) (num l)=l:=by
 apply GZ;intro k;rcases Df k (Ajb l)with h|h
 .rw[Vb h,QQ,Ck,TN X,show Ajb l-1-(Ajb l-1-k)=k by omega,BR h];rfl
 .rw[IN (by rw[nb_length];omega),IN h]
def ym{n v:Y}(h:v<2 ^ n):num (nb n v)=v:=by
 apply TY;intro k;rw[QQ,Ck];rcases Df k n with a|a
 .rw[TN (by rwa[nb_length]),nb_length,Vb X,show n-1-(n-1-k)=k by omega];rfl
 .rw[IN (by rwa[List.length_reverse,nb_length]),Qk (Ks h (Gb Bi a))];rfl
def Cp(s:By)(i:Y):Ar:=(s.getD (i/8) 0).toNat.testBit (7-i%8)
def bitsOf(s:By):Bs:=(BF (8*Ajb s)).map (Cp s)
def bitsOf_length(s:By):Ajb (bitsOf s)=8*Ajb s:=by simp[bitsOf]
def rp{s:By}{i:Y}(h:i<8*Ajb s):(bitsOf s)[i]? =J (Cp s i):=by simp[bitsOf,h]
def Ft(l:Bs)(j:Y):Y:=num ((BF 8).map fun k=>l.getD (8*j+k) Aj)
def Qs(l:Bs)(j:Y):Ft l j<256:=by
 have:=Pm ((BF 8).map fun k=>l.getD (8*j+k) Aj);simpa[Ft]using this
def Us(l:Bs)(j k:Y)(h:k<8):(Ft l j).testBit (7-k)=l.getD (8*j+k) Aj:=by
 unfold Ft;rw[QQ,Ck,TN Bg];grind
def pack(l:Bs):By:=(BF ((Ajb l+7)/8)).map fun j=>BU (Ft l j)
def pack_length(l:Bs):Ajb (pack l)=(Ajb l+7)/8:=by simp[pack]
def SQ{l:Bs}{j:Y}(h:j<(Ajb l+7)/8):(pack l)[j]? =J (BU (Ft l j)):=by simp[pack,h]
def dX{l:Bs}{i:Y}(h:i<8*((Ajb l+7)/8)):Cp (pack l) i=l.getD i Aj:=by
 unfold Cp;rw[Ck,SQ X];have:=Qs l (i/8);simp only[Option.getD_some,UInt8.toNat_ofNat'];rw[Jz X,Us l _ _ X,show 8*(i/8)+i%8=i by omega]
def ri{s r:By}{i:Y}(h:i<8*Ajb s):Cp (s++r) i=Cp s i:=by
 unfold Cp;grind
def Xp(l:Bs)(j:Y):Ft (l++[Aj]) j=Ft l j:=by
 unfold Ft;grind
def yP(l:Bs):pack (l++[Aj])=if Ajb l%8=0 then pack l++[0]else pack l:=by
 have e:∀j,BU (Ft _ j)=BU (Ft l j):=fun j=>by rw[Xp]
 unfold pack;rw[BA,Dd];split
 .rename_i h;rw[show(Ajb l+1+7)/8=(Ajb l+7)/8+1 by omega,Ga,DT,Kj fun j _=>e j];congr 1
  have:Ft l ((Ajb l+7)/8)=0:=by
   unfold Ft
   have:((BF 8).map fun k=>l.getD (8*((Ajb l+7)/8)+k) Aj)=BJ 8 Aj:=by
    apply GZ;intro k;rcases Df k 8 with q|q
    .rw[Eh,MY q,List.getElem?_replicate,Ai q,FP,Ck,IN X];rfl
    .grind
   rw[this];rfl
  simp_all
 .grind
def rG(l:Bs)(j:Y):Ft (l++[Af]) j=if j=Ajb l/8 then Ft l j|||(128>>>(Ajb l%8))else Ft l j:=by
 apply TY;intro i;rcases Df i 8 with a|a
 .have e:=Us (l++[Af]) j (7-i) X;have d:=Us l j (7-i) X;rw[show 7-(7-i)=i by omega]at e d
  have g:(l++[Af]).getD (8*j+(7-i)) Aj=(l.getD (8*j+(7-i)) Aj||decide (8*j+(7-i)=Ajb l)):=by
   rw[Ck,Ck,List.getElem?_append];split
   .grind
   .grind
  split
  .rename_i h
   have k:(128>>>(Ajb l%8)).testBit i=decide (8*(Ajb l/8)+(7-i)=Ajb l):=by
    rw[Nat.testBit_shiftRight,show(128)=2 ^ 7 by decide,Nat.testBit_two_pow];apply decide_eq_decide.2;omega
   grind
  .grind
 .have o:=Qs (l++[Af]) j;have m:=Qs l j
  have f:(256)<=2 ^ i:=by
   have:=Gb (n:=2) Bc a;omega
  rw[Qk X];split
  .rw[Nat.testBit_or,Qk X,Nat.testBit_shiftRight,show(128)=2 ^ 7 by decide,Nat.testBit_two_pow,AN X];rfl
  .rw[Qk X]
def rF(l:Bs)(j:Y):Ft l j|||(128>>>(Ajb l%8))<=255:=by
 have d:=Qs l j
 have a:128>>>(Ajb l%8)<2 ^ 8:=by
  rw[Nh];exact WS (Ox _ _) Bi
 have:=LZ d a;omega
def yQ(l:Bs):pack (l++[Af])=(pack (l++[Aj])).set (Ajb l/8) (BU (Ft l (Ajb l/8)|||(128>>>(Ajb l%8)))):=by
 apply GZ;intro j;have d:Ajb (pack (l++[Af]))=(Ajb l+8)/8:=by rw[pack_length,BA,Dd]
 have a:Ajb (pack (l++[Aj]))=(Ajb l+8)/8:=by rw[pack_length,BA,Dd]
 rcases Df j ((Ajb l+8)/8)with h|h
 .rw[SQ (by rwa[BA,Dd]),rG,WE,a];by_cases e:j=Ajb l/8
  .grind
  .rw[Ag e,Ag X,SQ (by rwa[BA,Dd]),Xp]
 .grind
def yN(l:Bs):(pack (l++[Aj]))[Ajb l/8]? =J (BU (Ft l (Ajb l/8))):=by
 rw[SQ Bg,Xp]
def DG(s:By)(at_:Y)(l:Bs):Prop:=at_+Ajb l<=8*Ajb s/\∀i,i<Ajb l->Cp s (at_+i)=l.getD i Aj
def DG.left{s:By}{a:Y}{l r:Bs}(h:DG s a (l++r)):DG s a l:=by
 have e:=h.1;rw[BA]at e;refine⟨X,fun i d=>?_⟩;rw[h.2 i Bg,Ck,Ck,FN d]
def DG.right{s:By}{a:Y}{l r:Bs}(h:DG s a (l++r)):DG s (a+Ajb l) r:=by
 have d:=h.1;rw[BA]at d;refine⟨X,fun i e=>?_⟩;have:=h.2 (Ajb l+i) Bg;grind
def DG.pack(l:Bs):DG (pack l) 0 l:=by
 refine⟨by rw[pack_length];omega,fun i a=>?_⟩;rw[Fb,dX X]
def DG.more{s:By}{a:Y}{l:Bs}(h:DG s a l)(r:By):DG (s++r) a l:=
 ⟨by rw[BA];have:=h.1;omega,fun i hi=>by rw[ri (by have:=h.1;omega)];exact h.2 i hi⟩
def rj(r s:By)(i:Y):Cp (r++s) (8*Ajb r+i)=Cp s i:=by
 unfold Cp;grind
def DG.behind{s:By}{a:Y}{l:Bs}(h:DG s a l)(r:By):DG (r++s) (8*Ajb r+a) l:=
 ⟨by rw[BA];have:=h.1;omega,fun i hi=>by rw[Kq,rj];exact h.2 i hi⟩
def BX(s:By)(a n:Y):Bs:=(BF n).map fun i=>Cp s (a+i)
def Sg(s:By)(a n:Y):Ajb (BX s a n)=n:=by simp[BX]
def rn(s:By)(a n:Y):BX s a (n+1)=BX s a n++[Cp s (a+n)]:=by simp[BX,Ga]
def DG.bits{s:By}{a:Y}{l:Bs}(h:DG s a l):BX s a (Ajb l)=l:=by
 apply GZ;intro i;rcases Df i (Ajb l)with q|q
 .simp[BX,Eh,MY q,FP];rw[h.2 i q,Ck,BR q];rfl
 .rw[IN (by rw[Sg];omega),IN q]
end Bz
namespace Bz
def FL(b:AH):Y->By->Y
 |m+1,x::r=>if x=b then FL b m r+1 else 0
 |_,_=>0
def DD:By->Y
 |[]=>0
 |b::r=>1+FL b 254 r
def mB(b:AH):∀m (r:By),FL b m r<=m/\FL b m r<=Ajb r
 |0,r=>by cases r<;>simp[FL]
 |m+1,[]=>by simp[FL]
 |m+1,x::r=>by
  have:=mB b m r;unfold FL;grind
def mD(b:AH):∀m (r:By),r.take (FL b m r)=BJ (FL b m r) b
 |0,r=>by rfl
 |m+1,[]=>by rfl
 |m+1,x::r=>by
  have:=mD b m r;unfold FL;grind
def mC(b:AH):∀m (r:By),FL b m r<m->(r.drop (FL b m r)).head?≠J b
 |0,r=>by simp
 |m+1,[]=>by simp
 |m+1,x::r=>by
  have:=mC b m r;unfold FL;grind
def aB(s:By):DD s<=255/\DD s<=Ajb s:=by
 cases s with
 |nil=>simp[DD]
 |cons b r=>
  have:=mB b 254 r;simp[DD];omega
def Tb{s:By}(h:s≠[]):1<=DD s:=by
 cases s with
 |nil=>grind
 |cons b r=>simp only[DD];omega
def mF(b:AH)(r:By):(b::r).take (DD (b::r))=BJ (DD (b::r)) b:=by
 simp[DD];rw[TX,TV,mD,Km]
def Abi(b:AH)(r:By)(h:DD (b::r)<255):((b::r).drop (DD (b::r))).head?≠J b:=by
 simp only[DD]at h ⊢;rw[TX,TJ];exact mC b 254 r X
def runT(n:Y)(b:AH):By:=if n<4 then BJ n b else BJ 4 b++[BU (n-4)]
def enc(s:By):By:=match s with
 |[]=>[]
 |b::r=>runT (DD (b::r)) b++enc ((b::r).drop (DD (b::r)))
termination_by (Ajb s)
decreasing_by
 have:=Tb (s:=b::r) Bi;grind
def Ya:enc []=[]:=by rw[enc]
def UI(b:AH)(r:By):enc (b::r)=runT (DD (b::r)) b++enc ((b::r).drop (DD (b::r))):=by rw[enc]
def mG(n:Y)(b:AH):Ajb (runT n b)<=2*n:=by
 unfold runT;grind
def enc_len:∀n (s:By),Ajb s<=n->Ajb (enc s)<=2*Ajb s
 |_,[],_=>by rw[Ya];simp
 |0,b::r,h=>by grind
 |n+1,b::r,h=>by
  have hp:=Tb (s:=b::r) Bi;have hl:=(aB (b::r)).2;have ih:=enc_len n ((b::r).drop (DD (b::r))) Bg;have:=mG (DD (b::r)) b;rw[UI,BA];grind
def enc_ne{s:By}(h:s≠[]):enc s≠[]:=by
 cases s with
 |nil=>grind
 |cons b r=>
  have a:=Tb (s:=b::r) Bi;rw[UI];unfold runT;split
  .simp;omega
  .simp
def HT(same:Y)(out:By)(x:AH):Y:=if 0<same/\out.getLast? =J x then same+1 else 1
def dec:Y->By->By->By×Y
 |same,out,[]=>if same=4 then([],30)else(out,0)
 |same,out,x::r=>
  if same=4 then(if 262144<Ajb out+x.toNat then([],3)else dec 0 (out++BJ x.toNat (out.getLastD 0)) r)
  else if Ajb out=262144 then([],3)else dec (HT same out x) (out++[x]) r
def Ends(same:Y)(out:By):Prop:=same<=4/\same<=Ajb out/\∃b o,out=o++BJ same b
def Ends.zero(out:By):Ends 0 out:=⟨X,X,0,out,Bi⟩
def Ends.next{same:Y}{out:By}(h:Ends same out)(e:same≠4)(x:AH):Ends (HT same out x) (out++[x]):=by
 obtain⟨g,f,b,o,rfl⟩:=h;unfold HT;split
 .rename_i q;obtain⟨d,a⟩:=q;refine⟨X,by simp only[BA,Cq,Dd];omega,b,o,?_⟩;obtain⟨k,rfl⟩:∃k,same=k+1:=⟨same-1,X⟩;rw[RT,<-Cx,List.getLast?_concat]at a;injection a with a;subst a;rw[RT (n:=k+1),Cx]
 .exact⟨X,Bx,x,_,Z⟩
def fQ(b:AH)(rest:By):∀(k same:Y) (out:By),same+k<=4->(0<same->out.getLast? =J b)->Ajb out+k<=262144->dec same out (BJ k b++rest)=dec (same+k) (out++BJ k b) rest
 |0,same,out,_,_,_=>by simp
 |k+1,same,out,h4,hl,hm=>by
  rw[Km,Gi,dec,Ag X,Ag X]
  have e:HT same out b=same+1:=by
   unfold HT;split
   .rfl
   .grind
  rw[e,fQ b _ k _ _ X Bi Bg,Cx,RU,show same+1+k=same+(k+1) by omega]
def fR(b:AH)(rest:By)(k same:Y)(out:By)(g:same<4)(h:k<=4)(hk:1<=k)(a:same=0∨out.getLast?≠J b)(hm:Ajb out+k<=262144):dec same out (BJ k b++rest)=dec k (out++BJ k b) rest:=by
 obtain⟨j,rfl⟩:∃j,k=j+1:=⟨k-1,X⟩;rw[Km,Gi,dec,Ag X,Ag X]
 have e:HT same out b=1:=by
  unfold HT;rw[Ag];rintro⟨f,d⟩;rcases a with z|z
  .omega
  .grind
 rw[e,fQ b _ j 1 _ X Bi Bg,Cx,RU,show 1+j=j+1 by omega]
def Ns:∀n (s out:By) (same:Y),Ajb s<=n->same<4->(same=0∨∀b,s.head? =J b->out.getLast?≠J b)->Ajb out+Ajb s<=262144->dec same out (enc s)=(out++s,0)
 |_,[],out,same,_,h4,_,_=>by
  rw[Ya,dec,Ag X,List.append_nil]
 |0,b::r,_,_,h,_,_,_=>by grind
 |n+1,b::r,out,same,h,h4,hn,hm=>by
  have hp:=Tb (s:=b::r) Bi;have hl:=aB (b::r);have ht:=mF b r;have hx:=Abi b r;have hsplit:=HJ (DD (b::r)) (b::r);have hdl:Ajb ((b::r).drop (DD (b::r)))=Ajb (b::r)-DD (b::r):=Bi;rw[UI];generalize DD _=k at hp hl ht hx hsplit hdl;rw[ht]at hsplit;have hn':same=0∨out.getLast?≠J b:=Bg;unfold runT;split
  .rename_i hk;rw[fR b _ k _ _ h4 X hp hn' X];rw[Ns n _ _ k X X Bg (by rw[BA,Cq];omega),Cx,hsplit]
  .rename_i hk;rw[Cx,fR b _ 4 _ _ h4 X X hn' X,RU,dec,Ai Z];have hv:(BU (k-4)).toNat=k-4:=Bx
   have hlast:(out++BJ 4 b).getLastD 0=b:=by
    rw[show BJ 4 b=BJ 3 b++[b]from Z,<-Cx,List.getLastD_concat]
   rw[hv,hlast,Ag (by rw[BA,Cq];omega),Ns n _ _ 0 X X X Bg];rw[Cx,Cx,<-Cx (BJ 4 b),List.replicate_append_replicate,show 4+(k-4)=k by omega,hsplit]
def Aam(s:By)(h:Ajb s<=262144):dec 0 [] (enc s)=(s,0):=by
 have:=Ns _ s [] 0 X Bi X Bg;grind
end Bz
section
attribute [local irreducible] OW KW QW EX GW NV
open Dsk
def eW(A:Aw AC)(c:Y)(xs:Bm)(B:Y)(w:Ad)(h:Sl w B A xs)(hA:A=Aa->xs=[])(h1:∀u∈xs,u.oneCell'=Af)(hl:Ajb xs<=140737488351232):
 Bn prog 74 [.slice A (Ajb xs) c] w fun v w'=>Bo w' w.heap.size 5 1 v (Ajb xs) xs/\Bf w w':=by
 refine Bw func74 Z ntmps74 (by rfl) Z ?_;rcases A with _|a
 .obtain rfl:=hA Z;refine(O 15∘Br) ?_;exact⟨Bo.nil _ _ _ _,Bf.refl _⟩
 .refine(O 14) ?_;refine Ku 0 Z Z underlying23 CE Z Z Z Z (by rfl) Bc ?_;rintro b j d i e;refine(O 1) ?_;refine HL Z Z underlying23 CE Z Bc Z Z (e) (Bo.Agl (l:=[]) i d Z Bc) (Src.Agn underlying23 (h.ext e) Bi h1 Bc) CA X ?_;rintro k w' f g _ _;refine(O 2∘Br) ?_;grind
def rU(A:Aw AC)(c:Y)(xs:Bm)(B:Y)(w:Ad)(h:Sl w B A xs)(hA:A=Aa->xs=[])(h1:∀u∈xs,u.oneCell'=Af)(hl:Ajb xs<=140737488351232):
 Bn prog 46 [.slice A (Ajb xs) c] w fun v w'=>Bo w' w.heap.size 4 1 v (Ajb xs) xs/\Bf w w':=by
 refine Bw func46 Z ntmps46 Be Z ?_;rcases A with _|a
 .obtain rfl:=hA Z;refine(O 15∘Br) ?_;exact⟨Bo.nil _ _ _ _,Bf.refl _⟩
 .refine(O 14) ?_;refine Ku 0 Z Z underlying36 PD Z Z Z Z (by first|rfl|(simp only[HF,HG,HB,Bool.and_eq_true];assumption)) Bc ?_;rintro b j f i g;refine(O 1) ?_;refine HL Z Z underlying36 PD Z Bc Z Z (g) (Bo.Agl (l:=[]) i f Z Bc) (Src.Agn underlying36 (h.ext g) Bi h1 Bc) CA X ?_;rintro k w' d e _ _;refine(O 2∘Br) ?_;rw[Fb]at d;exact⟨d,e⟩
def Chd(w w':Ad)(v v':Ah)(all:Bh):Prop:=
 Bo w' 0 5 1 v' (Ajb all) (BI all)/\Mo w w' v.ownBlock.toList/\(v'.ownBlock=v.ownBlock∨∃g,v'.ownBlock=J g/\w.heap.size<=g)
def sC(b n:Y)(v:Ah)(all:Bh)(w:Ad)(j:Bk w b 3 [U (n:H)])(a:Bo w 0 5 1 v (Ajb all) (BI all))(i:n<=1000000)(hl:Ajb all<=100000000):
 Bn prog 97 [v,.pointer (J ⟨b,0,Aa⟩)] w fun v' w'=>w=w'/\Chd w w' v v' ((Ch.cut n).ap all):=by
 obtain⟨A,c,rfl,h,g⟩:=a.slice;refine Bw func97 Z ntmps97 (by rfl) Z ?_;refine(O 12) ?_;refine qu Z Z underlying23 CE Z Z (a) X ?_;rintro v' d f;refine(O 2∘Br) ?_;refine⟨Z,?_,Mo.refl _ _,.inl f⟩;have e:(BI all).take (min (Ajb all) (n*512))=BI ((Ch.cut n).ap all):=by simp[BI,Ch.ap,TP]
 have k:Ajb ((Ch.cut n).ap all)=min (Ajb all) (n*512):=by simp only[Ch.ap,BZ];omega
 grind
def rH(n:Y):BI (EN n)=BJ n (.int .u8 0):=by simp[BI,EN]
def Afv(I bs i:Y)(s:Bh)(v:Ah)(all:Bh)(w:Ad)(r:Bk w I 3 [U (i:H)])(p:Bk w bs 9 [Bl s])(a:Bo w 0 5 1 v (Ajb all) (BI all))(hi:i<=1000000)(hs:Ajb s=512)(hl:Ajb all<=1000000000):
 Bn prog 37 [v,.pointer (J ⟨I,0,Aa⟩),.pointer (J ⟨bs,0,Aa⟩)] w fun v' w'=>Chd w w' v v' ((Ch.write i s).ap all):=by
 obtain⟨A,c,rfl,S,N⟩:=a.slice;refine Bw func37 Z ntmps37 Be Z ?_;refine(O 19)<|Lc (fun((j,f):Ah×Ad)=>(Bo f 0 5 1 j (Ajb (all++EN ((i+1)*512-Ajb all))) (BI (all++EN ((i+1)*512-Ajb all)))/\Mo w f (Value.slice A (Ajb all) c).ownBlock.toList/\(j.ownBlock=(Value.slice A (Ajb all) c).ownBlock∨∃g,j.ownBlock=J g/\w.heap.size<=g),[(0,j),(1,.pointer (J ⟨I,0,Aa⟩)),(2,.pointer (J ⟨bs,0,Aa⟩))],f)) ?_ ?_
 .skip
  refine Zi (fun h=>?_) fun h=>?_
  .refine(O 6) ?_;refine qn Z Z underlying23 underlying3 CE Z Z Z (a) X CA X ?_;rintro j f d C ab;refine(O 2∘Lm (j,f)) ?_;refine⟨?_,Mo.grown C (fun k e=>by rw[e];simp),?_⟩
   .rw[BA,PK,Xq,rH];omega
   .grind
  .refine(O 1∘Lm (_,w)) ?_;have e0:all++EN ((i+1)*512-Ajb all)=all:=by rw[show(i+1)*512-Ajb all=0 by omega];simp[EN]
   rw[e0];exact⟨a,Mo.refl _ _,.inl Z⟩
 .rintro⟨j,f⟩⟨d,B,K⟩;have q:=r.mo B (fun k=>a.ne r Bc _ (FC.1 k) Z);have o:=p.mo B (fun k=>a.ne p Bc _ (FC.1 k) Z);have hL:Ajb (all++EN ((i+1)*512-Ajb all))=max (Ajb all) ((i+1)*512):=by rw[BA,PK];omega
  generalize t:all++EN ((i+1)*512-Ajb all)=al at d hL;have D:Ajb (BI al)=Ajb al:=EQ al;obtain⟨g,G,rest,rfl,_,W,hc,P,l⟩:=d.blk X;refine(O 1) ?_;refine Kg 5 Be Be<|HW.val Z Z (EX.move Z)<|HW.val Z Z (Ci underlying3 Z Z (q.cell_of Z))<|HW.val Z Z (by first|exact Wl (b:=512) (m:=9223372036854775807) Z Z Z X|exact EX.mulZ (m:=9223372036854775807) Z Z Z Z X)<|HW.val Z Z (Wn underlying23 CE Z Z X)<|HW.val Z Z (Ci underlying9 Z Z (o.cell_of Z))<|HW.tail<|qq Z Z underlying23 underlying9 CE Z Z X (W) Bg ?_;rintro L V y;refine(O 6∘Br) ?_;have e:(Ch.write i s).ap all=al.take (i*512)++s++al.drop (i*512+Ajb s):=by simp only[Ch.ap,t]
  have E:Ajb ((Ch.write i s).ap all)=Ajb al:=by rw[e];simp only[BA,BZ,CM];omega
  refine⟨?_,?_,K⟩
  .rw[E];refine⟨by rw[EQ,E];simp,.inr ⟨g,G,rest,Z,BE _,?_,by rw[EQ,E,<-D];omega,P,l⟩⟩
   have e3:(BI al++rest).take (i*512)++BI s++(BI al++rest).drop (i*512+Ajb s)=BI ((Ch.write i s).ap all)++rest:=by
    rw[e,TU X,TH X];simp[BI,TP,List.map_drop]
   grind
  .have n:Mo f L [g]:=(Mo.Agk (Bf.drew f) _).trans y;refine((B.mono (fun k x=>FO g x)).trans (n.mono Bi)).fresh ?_;intro k x Q;rcases List.mem_cons.1 x with rfl|x
   .rcases K with e|⟨g',e,T⟩
    .rw[<-e];simp[Value.ownBlock]
    .simp[Value.ownBlock]at e;omega
   .omega
def HP(l:Ae Ar):Bm:=l.map fun b=>.bool b
def Ur(l:Ae Ar):Ajb (HP l)=Ajb l:=by simp[HP]
def rz(l:Ae Ar):∀u∈HP l,u.oneCell'=Af:=by
 intro u a;obtain⟨_,_,rfl⟩:=Cr.1 a;rfl
def KT(w:Ad):Ch->Ah->Prop
 |.write i s,v=>∃bi bs:Y,v=.func (.func 37) (Li []) (Li [.pointer (J ⟨bi,0,Aa⟩),.pointer (J ⟨bs,0,Aa⟩)])/\Bk w bi 3 [U (i:H)]/\Bk w bs 9 [Bl s]
 |.cut n,v=>∃b:Y,v=.func (.func 97) (Li []) (Li [.pointer (J ⟨b,0,Aa⟩)])/\Bk w b 3 [U (n:H)]
def KU(w:Ad):Ae Ch->Bm->Prop
 |[],[]=>True
 |c::cs,v::vs=>KT w c v/\KU w cs vs
 |_,_=>False
def KT.tm{w w':Ad}{B:Y}{p:Ay->Ar}(h:Tm w w' B p)(hi:p 3=Aj)(hs:p 9=Aj):∀{c:Ch} {v:Ah},KT w c v->KT w' c v
 |.write i s,v,⟨bi,bs,e,h1,h2⟩=>⟨bi,bs,e,h.bk h1 hi,h.bk h2 hs⟩
 |.cut n,v,⟨b,e,h1⟩=>⟨b,e,h.bk h1 hi⟩
def KT.one{w:Ad}:∀{c:Ch} {v:Ah},KT w c v->v.oneCell'=Af
 |.write i s,v,⟨bi,bs,e,h1,h2⟩=>by rw[e];rfl
 |.cut n,v,⟨b,e,h1⟩=>by rw[e];rfl
def KU.tm{w w':Ad}{B:Y}{p:Ay->Ar}(h:Tm w w' B p)(hi:p 3=Aj)(hs:p 9=Aj):∀{cs:Ae Ch} {vs:Bm},KU w cs vs->KU w' cs vs
 |[],[],_=>trivial
 |c::cs,v::vs,⟨h1,h2⟩=>⟨h1.tm h hi hs,KU.tm h hi hs h2⟩
 |[],_::_,h=>h.elim
 |_::_,[],h=>h.elim
def KU.len{w:Ad}:∀{cs:Ae Ch} {vs:Bm},KU w cs vs->Ajb vs=Ajb cs
 |[],[],_=>rfl
 |c::cs,v::vs,⟨_,h2⟩=>by simp[KU.len h2]
 |[],_::_,h=>h.elim
 |_::_,[],h=>h.elim
def KU.snoc{w:Ad}:∀{cs:Ae Ch} {vs:Bm} {c:Ch} {v:Ah},KU w cs vs->KT w c v->KU w (cs++[c]) (vs++[v])
 |[],[],_,_,_,h=>⟨h,AB⟩
 |c::cs,v::vs,_,_,⟨h1,h2⟩,h=>⟨h1,KU.snoc h2 h⟩
 |[],_::_,_,_,h,_=>h.elim
 |_::_,[],_,_,h,_=>h.elim
def KU.at_{w:Ad}:∀{cs:Ae Ch} {vs:Bm},KU w cs vs->∀(j:Y) (hj:j<Ajb cs),∃v,vs[j]? =J v/\KT w cs[j] v
 |[],[],_,j,hj=>by simp at hj
 |c::cs,v::vs,⟨h1,h2⟩,0,hj=>⟨v,Z,h1⟩
 |c::cs,v::vs,⟨h1,h2⟩,j+1,hj=>by
  obtain⟨u,h3,h4⟩:=KU.at_ h2 j (by simpa using hj);exact⟨u,by simpa using h3,by simpa using h4⟩
 |[],_::_,h,_,_=>h.elim
 |_::_,[],h,_,_=>h.elim
structure Dev(w:Ad)(B b:Y)(D:Dv)(vk vn vp vq:Ah)(vs:Bm):Prop where
 lo:B<=b
 cells:Bk w b 85 [U (D.cap:H),vk,vn,vp,U (D.at_:H),vq,.bool D.dead,U (D.calls:H)]
 kept:Bo w B 5 1 vk (Ajb D.kept) (BI D.kept)
 now:Bo w B 5 1 vn (Ajb D.now) (BI D.now)
 apart:∀k,vk.ownBlock=J k->vn.ownBlock≠J k
 pend:Bo w B 137 1 vp (Ajb D.pend) vs
 chs:KU w D.pend vs
 keep:Bo w B 4 1 vq (Ajb D.keep) (HP D.keep)
def Cm(w:Ad)(B b:Y)(D:Dv):Prop:=∃vk vn vp vq vs,Dev w B b D vk vn vp vq vs
def Cj(T:Ay):Ar:=T==85||T==137||T==5
def Cm.ext{w w':Ad}{B b:Y}{D:Dv}(h:Cm w B b D)(hx:Bf w w'):Cm w' B b D:=by
 obtain⟨vk,vn,vp,vq,vs,k,j,i,g,f,e,d,a⟩:=h;exact⟨vk,vn,vp,vq,vs,k,j.ext hx,i.ext hx,g.ext hx,f,e.ext hx,d.tm (Tm.Agk hx 0 (fun _=>Aj)) Z Z,a.ext hx⟩
def Cm.lt{w:Ad}{B b:Y}{D:Dv}(h:Cm w B b D):B<=b/\b<w.heap.size:=by
 obtain⟨vk,vn,vp,vq,vs,h⟩:=h;exact⟨h.lo,h.cells.lt⟩
section
variable{w:Ad}{B b:Y}{D:Dv}
def SK(h:Cm w B b D)(a:D.Ok):Bn prog 47 [.pointer (J ⟨b,0,Aa⟩)] w fun v w'=>v=.bool Aj/\w=w':=by
 obtain⟨vk,vn,vp,vq,vs,h⟩:=h;have d:=a.cap;refine Bw func47 Z ntmps47 Be Z ?_;refine(O 12∘Zv (Bp h.cells)∘O 4∘Cb 2∘Br) ?_;exact⟨Bi,Z⟩
def Qq(h:Cm w B b D)(d:D.Ok):Bn prog 35 [.pointer (J ⟨b,0,Aa⟩)] w fun v w'=>v=U ((if D.dead then 190 else 0:Y):H)/\w=w':=by
 have e:=h;obtain⟨vk,vn,vp,vq,vs,h⟩:=h;refine Bw func35 Z ntmps35 Be Z ?_;refine(O 9∘Zc (SK e d)) ?_;rintro _ _⟨rfl,rfl⟩;refine(O 8∘Zv (Bp h.cells)∘O 2) ?_;refine HD Z (fun a=>?_) (fun a=>?_)
 .refine(O 4∘Br) ?_;rw[a];exact⟨Z,Z⟩
 .refine(O 6∘Br) ?_;rw[a];exact⟨Z,Z⟩
end
def eL{w:Ad}{c:Ch}{v:Ah}(h:KT w c v){cap:Y}(d:c.ok cap)(g:cap<=4096){u:Ah}{all:Bh}(a:Bo w 0 5 1 u (Ajb all) (BI all))(hl:Ajb all<=100000000):
 ∃(f:FuncId) (cs:Bm),v=.func (.func f) (Li []) (Li cs)/\Bn prog f ([u]++cs) w fun v' w'=>Chd w w' u v' (c.ap all):=by
 cases c with
 |write i s=>
  obtain⟨m,l,rfl,e,k⟩:=h;exact⟨_,_,Z,Afv m l i s u all w e k a (by have:=d.1;omega) d.2 X⟩
 |cut n=>
  obtain⟨b,rfl,e⟩:=h;exact⟨_,_,Z,(sC b n u all w e a (by have:n<=cap:=d;omega) hl).mono fun _ _ j=>j.2⟩
section
variable{w w':Ad}{B b:Y}{D D':Dv}{vk vn vp vq vk' vn' vp' vq':Ah}{vs vs':Bm}
def Dev.after{d:Bm}(a:B<=b)(h0:Bk w b 85 d)(hm:Mo w w' [b])
 (i:Bk w' b 85 [U (D'.cap:H),vk',vn',vp',U (D'.at_:H),vq',.bool D'.dead,U (D'.calls:H)])
 (hk:Bo w B 5 1 vk' (Ajb D'.kept) (BI D'.kept)) (g:Bo w B 5 1 vn' (Ajb D'.now) (BI D'.now)) (j:∀k,vk'.ownBlock=J k->vn'.ownBlock≠J k)
 (f:Bo w B 137 1 vp' (Ajb D'.pend) vs') (h:KU w D'.pend vs') (e:Bo w B 4 1 vq' (Ajb D'.keep) (HP D'.keep)):Dev w' B b D' vk' vn' vp' vq' vs':=by
 have tm:=Tm.set h0 hm a;exact⟨a,i,tm.own hk Z,tm.own g Z,j,tm.own f Z,h.tm tm Z Z,tm.own e Z⟩
def Dev.tmD{l0:Bm}(hlo:B<=b)(h0:Bk w b 85 l0)(hm:Mo w w' [b]):Tm w w' B Cj:=(Tm.set h0 hm hlo).mono fun T hT=>by simp at hT;simp[Cj,hT]
def Dev.ext(h:Dev w B b D vk vn vp vq vs)(hx:Bf w w'):Dev w' B b D vk vn vp vq vs:=
 ⟨h.lo,h.cells.ext hx,h.kept.ext hx,h.now.ext hx,h.apart,h.pend.ext hx,h.chs.tm (Tm.Agk hx 0 (fun _=>Aj)) Z Z,h.keep.ext hx⟩
end
def Bo.Aht{w:Ad}{B T n c:Y}{xs:Bm}{A:Aw AC}(h:Bo w B T 1 (.slice A n c) n xs):A=Aa->xs=[]:=by
 rintro rfl;rcases h.2 with⟨e,rfl⟩|⟨g,a,rest,e,_⟩
 .exact Ih (by simpa using h.1)
 .simp at e
def UF{D:Dv}{c:Aw Ch}(h:(D.Agm c).at_≠1):D.Ago c=(Dv.done { D.Agm c with at_:=(D.Agm c).at_-1 } c,0):=by
 unfold Dv.Ago;simp only;split
 .rename_i a
  have:({ D.Agm c with at_:=(D.Agm c).at_-1 }:Dv)=D.Agm c:=by
   generalize D.Agm c=E at a;cases E;simp at a;simp[a]
  rw[this]
 .first|rfl|rw[Ag h]
def UE{D:Dv}{c:Aw Ch}(h:(D.Agm c).at_=1):D.Ago c=({ D.Agm c with kept:=DN (D.Agm c).pend (D.Agm c).keep (D.Agm c).kept,now:=DN (D.Agm c).pend (D.Agm c).keep (D.Agm c).kept,pend:=[],at_:=0,keep:=[],dead:=Af },190):=by
 unfold Dv.Ago;simp only;rw[Ag X,Ai h]
def tX{a:Ae Ch}{bs:Ae Ar}{all:Bh}{k:Y}(h:k<Ajb a):DN (a.take (k+1)) bs all=if bs.getD k Aj then(a[k]).ap (DN (a.take k) bs all)else DN (a.take k) bs all:=by
 have e:a.take (k+1)=a.take k++[a[k]]:=by rw[LY,BR h];rfl
 rw[e,gx,BZ,Hb X]
def Dev.at_{w:Ad}{B b:Y}{D:Dv}{vk vn vp vq:Ah}{vs:Bm}(h:Dev w B b D vk vn vp vq vs):Cm w B b D:=⟨_,_,_,_,_,h⟩
def Kp(w w':Ad)(b:Y)(v1 v2 v3:Ah):Prop:=∀g T l,g≠b->v1.ownBlock≠J g->v2.ownBlock≠J g->v3.ownBlock≠J g->Bk w g T l->Bk w' g T l
def Kp.refl(w:Ad)(b:Y)(v1 d a:Ah):Kp w w b v1 d a:=fun _ _ _ _ _ _ _ h=>h
def Kp.ext{w a w2:Ad}{b:Y}{v1 e d:Ah}(h:Kp w a b v1 e d)(hx:Bf a w2):Kp w w2 b v1 e d:=fun g T l m k j i f=>(h g T l m k j i f).ext hx
def Kp.mo{w f w2:Ad}{b:Y}{v1 d a:Ah}{S:Bj}(h:Kp w f b v1 d a)(hm:Mo f w2 S)(p:∀k∈S,k=b∨v1.ownBlock=J k∨d.ownBlock=J k∨a.ownBlock=J k∨w.heap.size<=k):Kp w w2 b v1 d a:=fun g T l o n m j i=>(h g T l o n m j i).mo hm (fun q=>by
 rcases p g q with e|e|e|e|e
 .exact o e
 .exact n e
 .exact m e
 .exact j e
 .exact AI i.lt X)
def Kp.b{w w1 w2:Ad}{b:Y}{v1 v2 v3:Ah}(h:Kp w w1 b v1 v2 v3)(hm:Mo w1 w2 [b]):Kp w w2 b v1 v2 v3:=h.mo hm Bi
def gh{w:Ad}{B b:Y}{D:Dv}{vk vn vp vq:Ah}{vs:Bm}(h:Dev w B b D vk vn vp vq vs)(hD:D.Ok)(vc:Ah)(c:Aw Ch)(c9:c=Aa->vc=.nilFunc)(a6:∀d,c=J d->KT w d vc/\d.ok D.cap)
 (S:D.calls<=1000000000) (c2:Ajb D.pend<=1000000000) (eg:D.at_<=9223372036854775807) (c6:Ajb D.keep<=140737488355328):
 Bn prog 36 [.pointer (J ⟨b,0,Aa⟩),vc] w fun v w'=>v=U (((D.Ago c).2:Y):H)/\Cm w' B b (D.Ago c).1/\Tm w w' B Cj/\Kp w w' b vk vn vp:=by
 have h0:=h.at_
 have hq:vc=.nilFunc/\c.isSome=Aj∨∃f fi ca,vc=.func f fi ca/\c.isSome=Af:=by
  cases c with
  |none=>exact .inl ⟨c9 Z,Z⟩
  |some d=>
   obtain⟨L,_⟩:=a6 d Z;cases d with
   |write i s=>obtain⟨bi,bs,e,_⟩:=L;exact .inr ⟨_,_,_,e,Z⟩
   |cut n=>obtain⟨bi,e,_⟩:=L;exact .inr ⟨_,_,_,e,Z⟩
 have hE:=lM hD (fun d m=>(a6 d m).2);have d7:=h0.lt;have d6:=h.chs.len;refine Bw func36 Z ntmps36 Be Z ?_;refine(O 8∘Zv (by exact cK underlying137 Z Z hq)∘O 1)<|Lc (fun((w1,bb,W):Ad×Ah×(Bm))=>(Dev w1 B b (D.Agm c) vk vn bb vq W/\Tm w w1 B Cj/\Kp w w1 b vk vn vp,[(0,.pointer (J ⟨b,0,Aa⟩)),(1,vc)],w1)) ?_ ?_
 .refine HD Z (fun hc=>?_) (fun hc=>?_)
  .obtain⟨ch,rfl⟩:=Option.isSome_iff_exists.1 hc;have hv:=(a6 ch Z).1;have c1:=hv.one;refine(O 5∘Zv (Bp h.cells)∘O 1) ?_;refine Ku 1 Z Z underlying83 bt Z Z Z Z (by first|rfl|(simp only[HF,HG,HB,Bool.and_eq_true];assumption)) Bc ?_;rintro bq N aj cb a0;have j:=h.ext a0;refine OW.append 0 Z Z underlying83 bt Z Bc Z Z ((j.pend.more (BE _))) (Src.Agn underlying83 cb.sl Bi (by simp[c1]) Bc) CA X (BE _) ?_;rintro v3 w3 a3 cr cz;refine(O 2) ?_;have t3:Tm N w3 B (fun j8=>j8==137):=Tm.grown j.pend cr;have b6:=t3.bk j.cells Z
   have bh:Bo w3 B 137 1 v3 (Ajb D.pend+1) (vs++[vc]):=a3.base (by
    intro k a;rcases cz with e|e
    .exact(j.pend.lt k (by rw[<-e];exact a)).1
    .rw[e]at a;injection a with a;have:=a0.size;omega)
   have dn:=a3.one;refine(Zt b6) ?_;rintro w4 df b2;refine(O 1∘Lm (w4,v3,(vs++[vc]))) ?_;refine⟨Dev.after (D':=D.Agm (J ch)) h.lo b6 b2 df (t3.own j.kept Z) (t3.own j.now Z) h.apart ?_ ((j.chs.tm t3 Z Z).snoc ((hv.tm (Tm.Agk a0 0 (fun _=>Aj)) Z Z).tm t3 Z Z)) (t3.own j.keep Z),?_,(((Kp.refl w b vk vn vp).ext a0).mo (Mo.grown cr (fun k e=>by rw[e];simp)) (fun k a=>.inr (.inr (.inr (.inl (FC.1 a)))))).b b2⟩
   .have:(D.Agm (J ch)).pend.length=Ajb D.pend+1:=by simp[Dv.Agm]
    rw[this];exact bh
   .exact((Tm.Agk a0 B Cj).trans (t3.mono fun T hT=>by simp at hT;simp[Cj,hT])).trans (Dev.tmD h.lo b6 b2)
  .obtain rfl:c=Aa:=by cases c;rfl;simp at hc
   refine(O 1∘Lm (w,vp,vs)) ?_;exact⟨h,Tm.refl _ _ _,Kp.refl _ _ _ _ _⟩
 .rintro⟨w1,bb,W⟩⟨L,cg,ce⟩;generalize y:D.Agm c=E at L hE;have ek:E.cap=D.cap:=by rw[<-y,lL]
  have d3:E.at_=D.at_:=by rw[<-y];cases c<;>rfl
  have dg:E.keep=D.keep:=by rw[<-y];cases c<;>rfl
  have eh:Ajb E.pend<=1000000001:=by
   rw[<-y];cases c with
   |none=>exact TZ c2
   |some c=>simp[Dv.Agm];omega
  have bj:=L.chs.len;refine(O 7∘Zv (Bp L.cells)∘O 2)<|Lc (fun(N:Ad)=>(Dev N B b { E with at_:=E.at_-1 } vk vn bb vq W/\Tm w N B Cj/\E.at_≠1/\Kp w N b vk vn vp,[(0,.pointer (J ⟨b,0,Aa⟩)),(1,vc)],N)) ?_ ?_
  .refine Zi (fun cv=>?_) fun cv=>?_
   .refine(O 6∘Zv (Bp L.cells)∘O 4∘Zt L.cells) ?_;rintro N cb b3;refine(O 7) ?_;have j:Dev N B b { E with at_:=E.at_-1 } vk vn bb vq W:=Dev.after L.lo L.cells b3 cb L.kept L.now L.apart L.pend L.chs L.keep;have ab:Tm w N B Cj:=cg.trans (Dev.tmD L.lo L.cells b3);have ao:=ce.b b3;refine(Zv (Bp j.cells)∘O 2)<|Zi (fun hz=>?_) fun hz=>?_
    .have cf:E.at_=1:=by have:E.at_-1=0:=hz;omega
     obtain⟨A,cp,rfl,ee,dv⟩:=j.pend.slice;obtain⟨Aq,cq,rfl,ed,ds⟩:=j.keep.slice;have d8:Ajb E.keep<=140737488355328:=by rw[dg];exact c6
     refine(O 6∘Zv (Bp j.cells)∘O 4)<|Lo (fun((k,al,all,wr):Y×Ah×(Bh)×Ad)=>(k<=Ajb E.pend/\all=DN (E.pend.take k) E.keep E.kept/\Ajb all<=512*E.cap/\Dev wr B b { E with at_:=0,kept:=all } al vn (.slice A (Ajb E.pend) cp) (.slice Aq (Ajb E.keep) cq) W/\Tm w wr B Cj/\Kp w wr b vk vn vp/\(∀k,al.ownBlock=J k->vk.ownBlock=J k∨w.heap.size<=k),[(0,.pointer (J ⟨b,0,Aa⟩)),(43,.slice A (Ajb E.pend) cp),(44,U ((Ajb E.pend:Y):H)),(45,U k)],wr,Ajb E.pend-k)) (0,vk,E.kept,N) ?_ ?_
     .refine⟨X,by simp[DN],hE.kept,?_,ab,ao,fun k a=>.inl a⟩;have:E.at_-1=0:=X;rw[<-this];exact j
     .rintro⟨k,al,all,wr⟩⟨a,V,cc,m,a1,bc,bf⟩;have a7:=hE.cap;refine(O 5)<|Zi (fun ai=>?_) fun ai=>?_
      .obtain⟨v,hv,ct⟩:=m.chs.at_ k ai;have d0:=ct.one;obtain⟨g,d5,rest,e,ec,hg,eb,d9,ea⟩:=m.pend.blk (by rw[bj];omega);simp only[Value.slice.injEq,true_and]at e;obtain⟨rfl,rfl⟩:=e;have cx:(W++rest)[k]? =J v:=by rw[FN (by rw[bj];exact ai)];exact hv
       have o:=tX (bs:=E.keep) (all:=E.kept) ai;rw[<-V]at o;refine(O 7∘Zv (Bp hg (hi:=cx))∘O 10∘Zv (Bp m.cells)∘O 3)<|Zd 58 (fun af=>?_) fun af=>?_
       .have b5:E.keep.getD k Aj=E.keep[k]:=by simp[List.getD,BR af]
        rw[b5]at o;obtain⟨gq,d4,bl,eq,d1,c8,_,_,_⟩:=m.keep.blk (by rw[Ur];exact WS (BE _) af);simp only[Value.slice.injEq,true_and]at eq;obtain⟨rfl,rfl⟩:=eq;have da:(HP E.keep++bl)[k]? =J (.bool E.keep[k]):=by rw[FN (by rw[Ur];exact af)];simp[HP,af]
        refine(O 4∘Zv (Bp m.cells)∘O 2∘Zv (Bp c8 (hi:=da))∘O 2) ?_;refine HD Z (fun hb=>?_) (fun hb=>?_)
        .rw[Ai hb]at o;obtain⟨f,cs,rfl,a2⟩:=eL ct (hE.pend _ (BM ai)) a7.2 (m.kept.more (BE _)) (by show Ajb all<=100000000;omega);refine(O 6∘Zv (Bp m.cells)∘DW a2) ?_;rintro v5 w5⟨r,t,G⟩;refine(O 2) ?_;have P:Tm wr w5 B (fun j8=>j8==5):=Tm.Agt m.kept t;have bn:=r.one;have bx:=m.now.mo t (fun k a b4=>m.apart k (FC.1 b4) a)
         have a9:∀k,v5.ownBlock=J k->vn.ownBlock≠J k:=by
          intro k a I;rcases G with e|⟨g',e,aj⟩
          .exact m.apart k (by rw[<-e];exact a) I
          .rw[e]at a;injection a with a;have:=(m.now.lt k I).2;omega
         have K:Bo w5 B 5 1 v5 (Ajb ((E.pend[k]).ap all)) (BI ((E.pend[k]).ap all)):=r.base (by
          intro k a;rcases G with e|⟨g',e,aj⟩
          .exact(m.kept.lt k (by rw[<-e];exact a)).1
          .rw[e]at a;injection a with a;have:=m.cells.lt;have:=m.lo;omega)
         refine(Zt (P.bk m.cells Z)) ?_;rintro w6 b9 a4;refine(O 6)<|Lb ((k+1),v5,((E.pend[k]).ap all),w6) ?_
         refine⟨X,o.symm,Ul (hE.pend _ (BM ai)) cc,?_,?_,(bc.mo t (fun k a=>by
          rcases bf k (FC.1 a)with e|e
          .exact .inr (.inl e)
          .exact .inr (.inr (.inr (.inr e))))).b a4,fun k a=>by
          rcases G with e|⟨g',e,aj⟩
          .exact bf k (by rw[<-e];exact a)
          .rw[e]at a;injection a with a;right;have q:=a1.size;have q2:=aj;omega⟩
         .exact Dev.after (D':={ E with at_:=0,kept:=(E.pend[k]).ap all }) m.lo (P.bk m.cells Z) a4 b9 K bx a9 (P.own m.pend Z) (m.chs.tm P Z Z) (P.own m.keep Z)
         .exact(a1.trans (P.mono fun T hT=>by simp at hT;simp[Cj,hT])).trans (Dev.tmD m.lo (P.bk m.cells Z) a4)
        .rw[Ag (by simp[hb])]at o;refine(O 6)<|Lb ((k+1),al,all,wr) ?_;exact⟨X,o.symm,cc,m,a1,bc,bf⟩
       .have b5:E.keep.getD k Aj=Aj:=by simp[List.getD,IN (Nat.le_of_not_lt af)]
        rw[b5]at o;refine(O 17)<|Lb ((k+1),al,all,wr) ?_;exact⟨X,by rw[o];rfl,cc,m,a1,bc,bf⟩
      .obtain rfl:k=Ajb E.pend:=X;rw[DV]at V;obtain⟨Ak,ck,rfl,ef,cl⟩:=m.kept.slice;have p:=eW Ak ck (BI all) _ wr cl m.kept.Aht Ut (by rw[EQ];omega);rw[EQ]at p;refine(O 10∘Zv (Bp m.cells)∘Zc p) ?_;rintro v7 w7⟨l,Q⟩;refine(O 3) ?_;have C:=m.ext Q;have bm:=l.one;refine(Zt C.cells) ?_;rintro w8 b8 b1;refine(O 2∘Zt b8) ?_;rintro w9 b7 b0;refine(O 2∘Zs b7) ?_;rintro cd a8 a5;refine(O 2∘Zt a8) ?_;rintro cw cu co;refine(O 5∘Br) ?_;have x:Mo w7 cw [b]:=((b1.trans b0).trans a5).trans co;have dk:all=DN (D.Agm c).pend (D.Agm c).keep (D.Agm c).kept:=by rw[y];exact V
       rw[UE (by rw[y];exact cf),y,<-V];refine⟨Z,⟨_,_,_,_,[],Dev.after (D':={ E with kept:=all,now:=all,pend:=[],at_:=0,keep:=[],dead:=Af }) m.lo C.cells x cu C.kept (l.base (fun k a=>by have:=(l.lt k a).1;have:=m.cells.lt;have:=m.lo;omega)) ?_ (Bo.nil _ _ _ _) AB (Bo.nil _ _ _ _)⟩,?_,(bc.ext Q).b x⟩
       .intro k a I;have q1:=(m.kept.lt k a).2;have q2:=(l.lt k I).1;omega
       .exact(a1.trans (Tm.Agk Q B Cj)).trans (Dev.tmD m.lo C.cells x)
    .refine(O 1∘Lm N) ?_;have cf:¬E.at_-1=0:=hz;exact⟨j,ab,X,ao⟩
   .refine(O 1∘Lm w1) ?_;have e0:E.at_=0:=X;refine⟨?_,cg,X,ce⟩;have:({ E with at_:=E.at_-1 }:Dv)=E:=by cases E;simp at e0;simp[e0]
    rw[this];exact L
  .rintro N⟨j,ab,cm,ao⟩;have a7:=hE.cap;have c4:=hE.now;rw[UF (by rw[y];exact cm),y];refine(O 4∘Zv (by exact cK underlying137 Z Z hq)∘O 1) ?_;refine HD Z (fun hc=>?_) (fun hc=>?_)
   .obtain⟨ch,rfl⟩:=Option.isSome_iff_exists.1 hc;have c0:KT N ch vc:=(a6 ch Z).1.tm ab Z Z;have c3:=(a6 ch Z).2;obtain⟨f,cs,rfl,a2⟩:=eL c0 c3 hD.cap.2 (j.now.more (BE _)) (by show Ajb E.now<=100000000;omega);refine(O 6∘Zv (Bp j.cells)∘DW a2) ?_;rintro v5 w5⟨r,t,G⟩;refine(O 2) ?_;have P:Tm N w5 B (fun j8=>j8==5):=Tm.Agt j.now t;have bn:=r.one;have c7:=j.kept.mo t (fun k a b4=>j.apart k a (FC.1 b4))
    have a9:∀k,vk.ownBlock=J k->v5.ownBlock≠J k:=by
     intro k I a;rcases G with e|⟨g',e,aj⟩
     .exact j.apart k I (by rw[<-e];exact a)
     .rw[e]at a;injection a with a;have:=(j.kept.lt k I).2;omega
    have K:Bo w5 B 5 1 v5 (Ajb (ch.ap E.now)) (BI (ch.ap E.now)):=r.base (by
     intro k a;rcases G with e|⟨g',e,aj⟩
     .exact(j.now.lt k (by rw[<-e];exact a)).1
     .rw[e]at a;injection a with a;have:=j.cells.lt;have:=j.lo;omega)
    refine(Zt (P.bk j.cells Z)) ?_;rintro w6 b9 a4;refine(O 6) ?_;have ba:({ E with at_:=E.at_-1 }:Dv).calls<=1000000000:=by show E.calls<=1000000000;rw[<-y];exact S
    refine(O 4∘Zt b9) ?_;rintro w7 db c5;refine(O 5∘Br) ?_;have x:Mo w5 w7 [b]:=a4.trans c5;refine⟨Z,⟨_,_,_,_,_,Dev.after (D':=Dv.done { E with at_:=E.at_-1 } (J ch)) j.lo (P.bk j.cells Z) x db c7 K a9 (P.own j.pend Z) (j.chs.tm P Z Z) (P.own j.keep Z)⟩,?_,(ao.mo t (fun k a=>.inr (.inr (.inl (FC.1 a))))).b x⟩;exact(ab.trans (P.mono fun T hT=>by simp at hT;simp[Cj,hT])).trans (Dev.tmD j.lo (P.bk j.cells Z) x)
   .obtain rfl:c=Aa:=by cases c;rfl;simp at hc
    obtain⟨An,cn,rfl,d2,cj⟩:=j.now.slice;have p:=eW An cn (BI E.now) _ N cj j.now.Aht Ut (by rw[EQ];omega);rw[EQ]at p;have ba:({ E with at_:=E.at_-1 }:Dv).calls<=1000000000:=by show E.calls<=1000000000;rw[<-y];exact S
    refine(O 6∘Zv (Bp j.cells)∘Zc p) ?_;rintro v7 w7⟨l,Q⟩;refine(O 2) ?_;have C:=j.ext Q;have bm:=l.one;refine(Zt C.cells) ?_;rintro w8 b8 b1;refine(O 2∘Zt b8) ?_;rintro w9 b7 b0;refine(O 10∘Zt b7) ?_;rintro cd a8 a5;refine(O 5∘Br) ?_;have x:Mo w7 cd [b]:=(b1.trans b0).trans a5;refine⟨Z,⟨_,_,_,_,[],Dev.after (D':=Dv.done { E with at_:=E.at_-1 } Aa) j.lo C.cells x a8 (l.base (fun k a=>by have:=(l.lt k a).1;have:=j.cells.lt;have:=j.lo;omega)) C.now ?_ (Bo.nil _ _ _ _) AB C.keep⟩,?_,(ao.ext Q).b x⟩
    .intro k a I;have q1:=(j.now.lt k I).2;have q2:=(l.lt k a).1;omega
    .exact(ab.trans (Tm.Agk Q B Cj)).trans (Dev.tmD j.lo C.cells x)
def ga{w:Ad}{B b:Y}{D:Dv}(h0:Cm w B b D)(l:D.Ok)(e:Ah)(c:Aw Ch)(j:c=Aa->e=.nilFunc)(i:∀d,c=J d->KT w d e/\d.ok D.cap)
 (a:D.calls<=1000000000) (f:Ajb D.pend<=1000000000) (k:D.at_<=9223372036854775807) (g:Ajb D.keep<=140737488355328):
 Bn prog 36 [.pointer (J ⟨b,0,Aa⟩),e] w fun v w'=>v=U (((D.Ago c).2:Y):H)/\Cm w' B b (D.Ago c).1/\Tm w w' B Cj:=by
 obtain⟨vk,vn,vp,vq,vs,h⟩:=h0;exact(gh h l e c j i a f k g).mono fun _ _ q=>⟨q.1,q.2.1,q.2.2.1⟩
def _root_.Go.Proofs.YtkmlafmjaeeanaaGreatDoor.Dsk.Dv.write(D:Dv)(i:H)(s:Bh):Dv×Y:=
 if D.dead then(D,190)else if i<0∨(D.cap:H)<=i then(D,191)else if Ajb s≠512 then(D,2)else D.Ago (J (.write i.toNat s))
def _root_.Go.Proofs.YtkmlafmjaeeanaaGreatDoor.Dsk.Dv.cut(D:Dv)(n:H):Dv×Y:=
 if D.dead then(D,190)else if n<0∨((Ajb D.now/512:Y):H)<n then(D,191)else D.Ago (J (.cut n.toNat))
def _root_.Go.Proofs.YtkmlafmjaeeanaaGreatDoor.Dsk.Dv.sync(D:Dv):Dv×Y:=if D.dead then(D,190)else D.Ago Aa
def _root_.Go.Proofs.YtkmlafmjaeeanaaGreatDoor.Dsk.Dv.Agp(D:Dv)(a:H)(k:Ae Ar):Dv×Y:=
 if D.dead then(D,190)else if a<0 then(D,2)else({ D with at_:=a.toNat,keep:=k },0)
def Xb.of{P:AD}{f:FuncId}{args:Bm}{w:Ad}{v:Ah}(h:Bn P f args w fun v' w'=>v'=v/\w=w'):Xb P f args w v:=
 h.mono fun _ _⟨h1,h2⟩=>⟨h1,0,by subst h2;rfl⟩
section
variable{w:Ad}{B b:Y}{D:Dv}
def Pa(h:Cm w B b D)(a:D.Ok):Bn prog 40 [.pointer (J ⟨b,0,Aa⟩)] w fun v w'=>v=U ((Ajb D.now/512:Y):H)/\w=w':=by
 have e:=h;obtain⟨k,j,i,g,f,h⟩:=h;have m:=a.now;have l:=a.cap;obtain⟨A,c,rfl,n,d⟩:=h.now.slice;refine Bw func40 Z ntmps40 (by rfl) Z ?_;refine(O 8∘Zc (SK e a)) ?_;rintro _ _⟨rfl,rfl⟩;refine(O 8∘Zv (Bp h.cells)∘O 4∘Br) ?_;simp
def Ht(h:Cm w B b D)(a:D.Ok):Bn prog 38 [.pointer (J ⟨b,0,Aa⟩)] w fun v w'=>v=U (D.cap:H)/\w=w':=by
 have d:=h;obtain⟨j,i,g,f,e,h⟩:=h;refine Bw func38 Z ntmps38 (by rfl) Z ?_;refine(O 8∘Zc (SK d a)) ?_;rintro _ _⟨rfl,rfl⟩;refine(O 8∘Zv (Bp h.cells)∘O 2∘Br) ?_;simp
def Qy(h:Cm w B b D)(a:D.Ok):Bn prog 19 [.pointer (J ⟨b,0,Aa⟩)] w fun v w'=>v=.bool D.dead/\w=w':=by
 have d:=h;obtain⟨j,i,g,f,e,h⟩:=h;refine Bw func19 Z ntmps19 (by rfl) Z ?_;refine(O 7∘Zc (SK d a)) ?_;rintro _ _⟨rfl,rfl⟩;refine(O 5∘Zv (Bp h.cells)∘O 3∘Br) ?_;simp
def up_d(h:Cm w B b D)(e:D.Ok):Bn prog 20 [.pointer (J ⟨b,0,Aa⟩)] w fun v w'=>v=U 0/\Cm w' B b { D with dead:=Aj }/\Tm w w' B Cj:=by
 have f:=h;obtain⟨m,l,k,j,i,h⟩:=h;refine Bw func20 Z ntmps20 Be Z ?_;refine(O 8∘Zc (SK f e)) ?_;rintro _ _⟨rfl,rfl⟩;refine(O 8∘Zt h.cells) ?_;rintro g d a;refine(O 5∘Br) ?_;exact⟨Z,⟨_,_,_,_,_,Dev.after (D':={ D with dead:=Aj }) h.lo h.cells a d h.kept h.now h.apart h.pend h.chs h.keep⟩,Dev.tmD h.lo h.cells a⟩
end
structure Small(D:Dv):Prop where
 calls:D.calls<=1000000000
 pend:Ajb D.pend<=1000000000
 at_:D.at_<=9223372036854775807
 keep:Ajb D.keep<=140737488355328
section
variable{w:Ad}{B b:Y}{D:Dv}
def Tl(h:Cm w B b D)(f:D.Ok)(a:Small D):Bn prog 14 [.pointer (J ⟨b,0,Aa⟩)] w fun v w'=>v=U ((D.sync.2:Y):H)/\Cm w' B b D.sync.1/\Tm w w' B Cj:=by
 refine Bw func14 Z ntmps14 (by rfl) Z ?_;refine(O 8∘Zc (Qq h f)) ?_;rintro _ _⟨rfl,rfl⟩;refine(O 7) ?_;rcases hd:D.dead with _|_
 .have e:D.sync=D.Ago Aa:=by unfold Dv.sync;rw[hd];rfl
  rw[Ag Bi];refine(Cb 7∘O 5∘Zc (ga h f .nilFunc Aa (fun _=>rfl) (fun d q=>by grind) a.calls a.pend a.at_ a.keep)) ?_;rintro _ w'⟨rfl,i,g⟩;refine(O 2∘Br) ?_;grind
 .have e:D.sync=(D,190):=by unfold Dv.sync;rw[hd];rfl
  rw[Ai Z];refine(HO 7∘O 6∘Br) ?_;rw[e];exact⟨Z,h,Tm.refl _ _ _⟩
def Afx{E C A vq:Ah}{vs:Bm}(o:Dev w B b D E C A vq vs)(W:D.Ok)(K:Small D)(i:H)(i0:-9223372036854775808<=i)(i1:i<=9223372036854775807)(s:Bh)(ab:Ajb s<=140737488355328):
 Bn prog 13 [.pointer (J ⟨b,0,Aa⟩),U i,Bl s] w fun v w'=>v=U (((D.write i s).2:Y):H)/\Cm w' B b (D.write i s).1/\Tm w w' B Cj/\Kp w w' b E C A:=by
 have h:=o.at_;refine Bw func13 Z ntmps13 Be Z ?_;refine(O 2) ?_;refine Ma Z Z Z Z ?_;rintro bi w1 V L f;refine Ma Z Z Z Z ?_;rintro bs y S p a;refine(O 6) ?_;have m:=L.ext a;have r:=h.ext (f.trans a);have G:Tm w y B Cj:=Tm.Agk (f.trans a) B Cj;refine(Zc (Qq r W)) ?_;rintro _ _⟨rfl,rfl⟩;refine(O 7) ?_;rcases hd:D.dead with _|_
 .rw[Ag Bi];refine(Cb 11∘O 4) ?_;have P:=o.ext (f.trans a);have k:=(Kp.refl w b E C A).ext (f.trans a);refine(O 1∘Zq (by exact fun _=>Bp (m.drewN _))∘O 2)<|Nn 15 (fun x=>?_) fun x=>?_
  .have e:D.write i s=(D,191):=by unfold Dv.write;rw[hd,Ag Bi,Ai (.inl x)]
   refine(O 7∘QW.nil) fun I=>(O 5∘Br) ?_;rw[e];exact⟨Z,r.ext (Bf.drewN _ _),G.trans (Tm.Agk (Bf.drewN _ _) _ _),k.ext (Bf.drewN _ _)⟩
  .skip
   refine(Zq (by exact fun _=>Bp (m.drewN _))∘O 3∘Zq (by exact fun _=>Bp (P.cells.drewN _))∘O 2∘QW.nil) fun I=>Zi (fun t=>?_) fun t=>?_
   .have e:D.write i s=(D,191):=by unfold Dv.write;rw[hd,Ag Bi,Ai (.inr t)]
    refine(O 4∘Br) ?_;rw[e];exact⟨Z,r.ext (Bf.drewN _ _),G.trans (Tm.Agk (Bf.drewN _ _) _ _),k.ext (Bf.drewN _ _)⟩
   .have Q:¬(i<0∨(D.cap:H)<=i):=X;have h3:=r.ext (Bf.drewN y I);have N:Tm w (y.drewN I) B Cj:=G.trans (Tm.Agk (Bf.drewN _ _) _ _);obtain⟨j,rfl⟩:=EY (show 0<=i by omega);refine(O 4∘Zv (Bp (p.drewN _))∘O 3)<|Zi (fun n=>?_) fun n=>?_
    .have e:D.write (j:H) s=(D,2):=by unfold Dv.write;rw[hd,Ag Bi,Ag Q,Ai n]
     refine(O 4∘Br) ?_;rw[e];exact⟨Z,h3,N,k.ext (Bf.drewN _ _)⟩
    .have e:D.write (j:H) s=D.Ago (J (.write j s)):=by unfold Dv.write;rw[hd,Ag Bi,Ag Q,Ag n];rfl
     refine(O 4∘Zv (by exact Gf Z Z)∘Zc (gh (P.ext (Bf.drewN y I)) W _ (J (.write j s)) (fun q=>by cases q) (fun d q=>by cases q;exact⟨⟨bi,bs,Z,m.drewN _,p.drewN _⟩,X,X⟩) K.calls K.pend K.at_ K.keep)) ?_;rintro _ w4⟨rfl,h4,t4,k4⟩;refine(O 2∘Br) ?_;rw[e];exact⟨Z,h4,N.trans t4,fun g T l x t n a4 hb=>k4 g T l x t n a4 ((k.ext (Bf.drewN _ _)) g T l x t n a4 hb)⟩
 .have e:D.write i s=(D,190):=by unfold Dv.write;rw[hd];rfl
  rw[Ai Z];refine(HO 11∘O 6∘Br) ?_;rw[e];exact⟨Z,r,G,(Kp.refl w b E C A).ext (f.trans a)⟩
def Wa(h:Cm w B b D)(j:D.Ok)(g:Small D)(i:H)(e:-9223372036854775808<=i)(d:i<=9223372036854775807)(s:Bh)(a:Ajb s<=140737488355328):
 Bn prog 13 [.pointer (J ⟨b,0,Aa⟩),U i,Bl s] w fun v w'=>v=U (((D.write i s).2:Y):H)/\Cm w' B b (D.write i s).1/\Tm w w' B Cj:=by
 obtain⟨o,n,m,l,k,f⟩:=h;exact(Afx f j g i e d s a).mono fun _ _ q=>⟨q.1,q.2.1,q.2.2.1⟩
def cut_d(h:Cm w B b D)(l:D.Ok)(k:Small D)(i:H)(N:-9223372036854775808<=i)(L:i<=9223372036854775807):
 Bn prog 70 [.pointer (J ⟨b,0,Aa⟩),U i] w fun v w'=>v=U (((D.cut i).2:Y):H)/\Cm w' B b (D.cut i).1/\Tm w w' B Cj:=by
 have p:=l.now;refine Bw func70 Z ntmps70 Be Z ?_;refine(O 2) ?_;refine Ma Z Z Z Z ?_;rintro I m r a f;refine(O 6) ?_;have g:=h.ext f;have n:Tm w m B Cj:=Tm.Agk f B Cj;refine(Zc (Qq g l)) ?_;rintro _ _⟨rfl,rfl⟩;refine(O 7) ?_;rcases hd:D.dead with _|_
 .rw[Ag Bi];refine(Cb 9∘O 5∘Zq (by exact fun _=>Bp (a.drewN _))∘O 2)<|Nn 13 (fun x=>?_) fun x=>?_
  .have e:D.cut i=(D,191):=by unfold Dv.cut;rw[hd,Ag Bi,Ai (.inl x)]
   refine(O 5∘QW.nil) fun o=>(O 5∘Br) ?_;rw[e];exact⟨Z,g.ext (Bf.drewN _ _),n.trans (Tm.Agk (Bf.drewN _ _) _ _)⟩
  .skip
   refine(Zq (by exact fun _=>Bp (a.drewN _))∘O 1) ?_;refine QW.call Z Z Z (fun _=>Xb.of (Pa (g.ext (Bf.drewN _ _)) l))<|(O 2∘QW.nil) fun o=>Zi (fun t=>?_) fun t=>?_
   .have e:D.cut i=(D,191):=by unfold Dv.cut;rw[hd,Ag Bi,Ai (.inr t)]
    refine(O 4∘Br) ?_;rw[e];exact⟨Z,g.ext (Bf.drewN _ _),n.trans (Tm.Agk (Bf.drewN _ _) _ _)⟩
   .have C:¬(i<0∨((Ajb D.now/512:Y):H)<i):=X;have G:=g.ext (Bf.drewN m o);have A:Tm w (m.drewN o) B Cj:=n.trans (Tm.Agk (Bf.drewN _ _) _ _);obtain⟨j,rfl⟩:=EY (show 0<=i by omega);have e:D.cut (j:H)=D.Ago (J (.cut j)):=by unfold Dv.cut;rw[hd,Ag Bi,Ag C];rfl
    refine(O 4∘Zv (by exact Gf Z Z)∘Zc (ga G l _ (J (.cut j)) (fun q=>by cases q) (fun d q=>by cases q;exact⟨⟨I,Z,a.drewN _⟩,(show j<=D.cap by omega)⟩) k.calls k.pend k.at_ k.keep)) ?_;rintro _ K⟨rfl,E,y⟩;refine(O 2∘Br) ?_;rw[e];exact⟨Z,E,A.trans y⟩
 .have e:D.cut i=(D,190):=by unfold Dv.cut;rw[hd];rfl
  rw[Ai Z];refine(HO 9∘O 6∘Br) ?_;grind
def zo(h:Cm w B b D)(P:D.Ok)(a:H)(i0:-9223372036854775808<=a)(i1:a<=9223372036854775807)(A:Aw AC)(c C:Y)(k:Ae Ar)(x:Sl w C A (HP k))(hA:A=Aa->HP k=[])(hk:Ajb k<=140737488351232):
 Bn prog 18 [.pointer (J ⟨b,0,Aa⟩),.agg [U a,.slice A (Ajb k) c].toArray] w fun v w'=>v=U (((D.Agp a k).2:Y):H)/\Cm w' B b (D.Agp a k).1/\Tm w w' B Cj:=by
 refine Bw func18 Z ntmps18 Be Z ?_;refine(O 2) ?_;refine Dz Z Z Z ?_;rintro S o I y l;refine(O 6) ?_;have r:=h.ext l;have t:Tm w o B Cj:=Tm.Agk l B Cj;refine(Zc (Qq r P)) ?_;rintro _ _⟨rfl,rfl⟩;refine(O 7) ?_;rcases hd:D.dead with _|_
 .rw[Ag Bi];refine(Cb 9∘O 9)<|Zi (fun G=>?_) fun G=>?_
  .have e:D.Agp a k=(D,2):=by unfold Dv.Agp;rw[hd,Ag Bi,Ai G]
   refine(O 4∘Br) ?_;rw[e];exact⟨Z,r,t⟩
  .obtain⟨j,rfl⟩:=EY (show 0<=a by omega);have e:D.Agp (j:H) k=({ D with at_:=j,keep:=k },0):=by unfold Dv.Agp;rw[hd,Ag Bi,Ag G];rfl
   have Q:=r.ext (Bf.drew o);have K:Tm w o.drew B Cj:=t.trans (Tm.Agk (Bf.drew _) _ _);obtain⟨vk,vn,vp,vq,W,p⟩:=id Q;have f:=rU A c (HP k) _ o.drew ((x.ext l).ext (Bf.drew o)) hA (rz k) (by rw[Ur];omega);rw[Ur]at f;refine(O 2∘Yr 10 (fun w'=>Bk w' S 38 [U (j:H),.slice A (Ajb k) c]) y.drew) fun n=>(Gv [0,1,2,3,4]∘Yc 5 f) ?_;rintro v7 V⟨g,i⟩;refine⟨n.ext i,fun n=>?_⟩;refine GW.val 6 Z Be Be Be Z Z n (fun w' N=>PP (pl:=[(0,1),(1,1)]) (ks:=[0,1]) (is:=[0,1]) (zs:=[U 0,.slice Aa 0 0]) underlying38 ti38 Be Z Z Z (by first|rfl|(simp only[HF,HG,HB,Ig,Bool.and_eq_true,Value.oneCell'];repeat (first|assumption|exact Bo.one Ce|constructor))) (by simp only[KN,Ko,Kn];rfl))<|(Gv [7,8]) ?_;have d:=p.ext i;refine(Ys 9 d.cells) ?_;rintro T E m;refine⟨n.mo m (by simp;exact(d.cells.ne n Bc).symm),fun n=>?_⟩;refine(Yd∘O 4∘Br) ?_;rw[e];refine⟨Z,⟨_,_,_,_,_,Dev.after (D':={ D with at_:=j,keep:=k }) p.lo d.cells m E d.kept d.now d.apart d.pend d.chs (g.base (fun q L=>by have q1:=(g.lt q L).1;have q2:=p.cells.lt;have q3:=p.lo;omega))⟩,?_⟩;exact(K.trans (Tm.Agk i B Cj)).trans (Dev.tmD p.lo d.cells m)
 .have e:D.Agp a k=(D,190):=by unfold Dv.Agp;rw[hd];rfl
  rw[Ai Z];refine(HO 9∘O 6∘Br) ?_;rw[e];exact⟨Z,r,t⟩
end
def _root_.Go.Proofs.YtkmlafmjaeeanaaGreatDoor.Dsk.fresh(cap:Y)(s:Bh):Dv:={ cap:=cap,kept:=s,now:=s,pend:=[],at_:=0,keep:=[],dead:=Aj,calls:=0 }
def gX{cap:Y}{s:Bh}(h:1<=cap/\cap<=4096)(h1:Ajb s%512=0)(h2:Ajb s/512<=cap):(fresh cap s).Ok:=
 ⟨h,by show Ajb s<=512*cap;omega,by show Ajb s<=512*cap;omega,h1,h1,fun c hc=>by simp[fresh]at hc⟩
def _root_.Go.Proofs.YtkmlafmjaeeanaaGreatDoor.Dsk.may(c:H)(s:Bh):Prop:=1<=c/\c<=4096/\Ajb s%512=0/\((Ajb s/512:Y):H)<=c
def Bo.ofBytes{w:Ad}{B g cap:Y}{s:Bh}{rs:Bm}(hb:Bk w g 5 (BI s++rs))(hB:B<=g)(hc:Ajb s<=cap)(hm:cap<=maxLen)(hl:Ajb s+Ajb rs=cap):Bo w B 5 1 (.slice (J ⟨g,0,Aa⟩) (Ajb s) cap) (Ajb s) (BI s):=
 ⟨by simp[BI],.inr ⟨g,cap,rs,Z,hB,hb,by rw[EQ];omega,hc,hm⟩⟩
def vW(c:H)(c0:-9223372036854775808<=c)(c1:c<=9223372036854775807)(s:Bh)(hs:Ajb s<=140737488355328)(w:Ad):
 Bn prog 64 [U c,Bl s] w fun v w'=>∃(p:Ah) (e:Y),v=.tuple #[p,U (e:H)]/\Bf w w'/\((¬may c s/\p=.pointer Aa/\e=2)∨(may c s/\∃b,p=.pointer (J ⟨b,0,Aa⟩)/\e=0/\Cm w' w.heap.size b (fresh c.toNat s))):=by
 refine Bw func64 Z ntmps64 Be Z ?_;refine(O 7)<|Lc (fun(_u:Unit)=>(True,[(0,U (c:H)),(1,Bl (s)),(24,.bool (decide (¬(1<=c/\c<=4096/\Ajb s%512=0/\((Ajb s/512:Y):H)<=c))))],w)) ?_ ?_
 .refine(O 4)<|Zd 8 (fun Q=>?_) fun Q=>?_
  .refine(O 17∘Cs 24 (.bool (decide (¬(1<=c/\c<=4096/\Ajb s%512=0/\((Ajb s/512:Y):H)<=c)))) (e:=by rw[AL];omega)∘Lm ()) ?_;trivial
  .refine(O 4)<|Zd 12 (fun P=>?_) fun P=>?_
   .refine(O 13∘Cs 24 (.bool (decide (¬(1<=c/\c<=4096/\Ajb s%512=0/\((Ajb s/512:Y):H)<=c)))) (e:=by rw[AL];omega)∘Lm ()) ?_;trivial
   .refine(O 6)<|Zd 18 (fun N=>?_) fun N=>?_
    .refine(O 7∘Cs 24 (.bool (decide (¬(1<=c/\c<=4096/\Ajb s%512=0/\((Ajb s/512:Y):H)<=c)))) (e:=by rw[AL];omega)∘Lm ()) ?_;trivial
    .refine(O 7∘Cs 24 (.bool (decide (¬(1<=c/\c<=4096/\Ajb s%512=0/\((Ajb s/512:Y):H)<=c)))) (e:=by exact Av Value.bool (decide_eq_decide.2 X))∘Lm ()) ?_;trivial
 .rintro _ _;refine Zi (fun m=>?_) fun m=>?_
  .refine(O 5∘BG) ?_;exact⟨_,2,Z,Bf.refl _,.inl ⟨m,Z,Z⟩⟩
  .have a:may c s:=Dk.1 m;obtain⟨m1,m2,m3,m4⟩:=id a;obtain⟨j,rfl⟩:=EY (show 0<=c by omega);refine(O 5) ?_;refine OW.bytesOf Z Z underlying9 underlying23 underlying5 Z X ?_;rintro cp W V h t l o g;refine(O 1) ?_;refine OW.bytesOf Z Z underlying9 underlying23 underlying5 Z X ?_;rintro L C B y r i n f;refine(O 1) ?_;refine Dz Z Z Z ?_;rintro b T G x d;refine(O 3∘BG) ?_;have K:=Bo.ofBytes h (Bv _) t l o;have A:=g.size;have S:=f.size;have I:Bo B w.heap.size 5 1 _ _ _:=Bo.ofBytes y A r i n;have l1:=h.lt;refine⟨_,0,Z,(g.trans f).trans d,.inr ⟨a,b,Z,Z,_,_,_,_,[],⟨X,x,(K.ext f).ext d,I.ext d,?_,Bo.nil _ _ _ _,AB,Bo.nil _ _ _ _⟩⟩⟩;intro k E q;simp[Value.ownBlock]at E q;omega
def new_s(c:H)(c0:-9223372036854775808<=c)(c1:c<=9223372036854775807)(w:Ad):
 Bn prog 29 [U c] w fun v w'=>∃(p:Ah) (e:Y),v=.tuple #[p,U (e:H)]/\Bf w w'/\((¬may c []/\p=.pointer Aa/\e=2)∨(may c []/\∃b,p=.pointer (J ⟨b,0,Aa⟩)/\e=0/\Cm w' w.heap.size b (fresh c.toNat []))):=by
 refine Bw func29 Z ntmps29 (by rfl) Z ?_;refine(O 8∘Zc (vW c c0 c1 [] Bi w)) ?_;rintro _ f⟨p,e,rfl,d,a⟩;refine(O 5∘BG) ?_;exact⟨p,e,Z,d,a⟩
section
variable{D:Dv}
def PI(h:D.Ok)(i:H)(s:Bh):(D.write i s).1.Ok:=by
 unfold Dv.write;split
 .exact h
 .split
  .exact h
  .split
   .exact h
   .rename_i f e;refine XV h fun d a=>?_;cases a;exact⟨X,X⟩
def sE(h:D.Ok)(i:H):(D.cut i).1.Ok:=by
 have e:=h.now;unfold Dv.cut;split
 .exact h
 .split
  .exact h
  .rename_i f;refine XV h fun d a=>?_;cases a;show i.toNat<=D.cap;omega
def aV(h:D.Ok):D.sync.1.Ok:=by
 unfold Dv.sync;split
 .omega
 .exact XV h fun d a=>by grind
end
end
section
attribute [local irreducible] OW KW QW EX GW NV
open Bz
def KS(T:Ay):Ar:=T==280||T==5
structure WrO(w:Ad)(B wb:Y)(l:Bs)(vo:Ah):Prop where
 lo:B<=wb
 cells:Bk w wb 280 [vo,U ((Ajb l:Y):H)]
 own:Bo w B 5 1 vo (Ajb (pack l)) (BI (pack l))
def FD(w:Ad)(B wb:Y)(l:Bs):Prop:=∃vo,WrO w B wb l vo
def FD.ext{w w':Ad}{B wb:Y}{l:Bs}(h:FD w B wb l)(hx:Bf w w'):FD w' B wb l:=by
 obtain⟨a,f,e,d⟩:=h;exact⟨a,f,e.ext hx,d.ext hx⟩
def FD.tm{w w':Ad}{B wb C:Y}{l:Bs}{p:Ay->Ar}(h:FD w B wb l)(t:Tm w w' C p)(p1:p 280=Aj)(d:p 5=Aj):FD w' B wb l:=by
 obtain⟨a,g,f,e⟩:=h;exact⟨a,g,t.bk f p1,t.own e d⟩
def Pk(w:Ad):Bn prog 133 [] w fun v w'=>∃wb,v=.pointer (J ⟨wb,0,Aa⟩)/\FD w' w.heap.size wb []/\Bf w w':=by
 refine Bw func133 Z ntmps133 Be Z ?_;refine(O 7) ?_;refine Dz Z Z Z ?_;rintro wb f a e d;refine(O 2∘Br) ?_;exact⟨wb,Z,⟨_,a,e,Bo.nil _ _ _ _⟩,d⟩
def Qt(s:Bh)(b:AH):BI (s++[b])=BI s++[.int .u8 (b.toNat:H)]:=by simp[BI]
def qY(s:Bh)(i x:Y)(hx:x<=255)(rest:Bm)(hi:i<Ajb s):(BI s++rest).set i (.int .u8 (x:H))=BI (s.set i (BU x))++rest:=by
 have a:i<Ajb (BI s):=by simpa[BI]using hi
 rw[TT _ _ a];have e:((BU x).toNat:H)=(x:H):=Bx;have d:BI (s.set i (BU x))=(BI s).set i (.int .u8 (x:H)):=by unfold BI;rw[List.map_set,e]
 grind
def GQ(B wb:Y)(l:Bs)(v n:Y)(hv:v<18446744073709551616)(hn:n<=64)(a5:v<2 ^ n)(hl:Ajb l<=1000000000)(w:Ad)(h:FD w B wb l):
 Bn prog 134 [.pointer (J ⟨wb,0,Aa⟩),.int .u64 (v:H),U (n:H)] w fun r w'=>r=U 0/\FD w' B wb (l++nb n v)/\Tm w w' B KS:=by
 refine Bw func134 Z ntmps134 Be Z ?_;refine(O 14)<|Lc (fun(_u:Unit)=>(True,[(0,.pointer (J ⟨wb,0,Aa⟩)),(1,.int .u64 (v:H)),(2,U n),(26,.bool Aj)],w)) ?_ ?_
 .refine(O 4∘IQ 12∘O 4∘IQ 16∘O 3)<|Zd 19 (fun bj=>?_) fun bj=>?_
  .have hz:v/2 ^ n=0:=Nat.div_eq_of_lt a5;refine(O 3∘Zv (by exact PT Z Z (by show _<=64;omega))∘O 4∘Cb 26∘Lm ()) ?_;trivial
  .refine(O 8∘Lm ()) ?_;trivial
 .rintro _ _;refine(O 10)<|Lo (fun((i,wr):H×Ad)=>((∃k:Y,i=(n:H)-1-k/\k<=n/\FD wr B wb (l++(nb n v).take k))/\Tm w wr B KS,[(0,.pointer (J ⟨wb,0,Aa⟩)),(1,.int .u64 (v:H)),(7,U (i:H))],wr,(i+1).toNat)) (((n:H)-1),w) ?_ ?_
  .exact⟨⟨0,X,BE _,Bg⟩,Tm.refl _ _ _⟩
  .rintro⟨i,wr⟩⟨⟨k,b1,b0,L⟩,a6⟩;refine(O 6)<|Zi (fun a0=>?_) fun a0=>?_
   .obtain⟨j,rfl⟩:=EY a0;have a8:k<n:=X;have hj:n-1-k=j:=X;have ab:=xQ (v:=v) a8;rw[hj]at ab;have bh:Ajb (l++(nb n v).take k)=Ajb l+k:=by rw[BA,BZ,nb_length];omega
    have ai:l++(nb n v).take (k+1)=(l++(nb n v).take k)++[v.testBit j]:=by rw[ab,Cx]
    generalize l++(nb n v).take k=bs at L bh ai;obtain⟨vo,S,d,y⟩:=L;have bx:=pack_length bs;have t:=yP bs;refine(O 5)<|Ld (fun((f,G):Ah×Ad)=>(Bk G wb 280 [f,U ((Ajb bs:Y):H)]/\Bo G B 5 1 f (Ajb (pack (bs++[Aj]))) (BI (pack (bs++[Aj])))/\Tm wr G B KS,[(0,.pointer (J ⟨wb,0,Aa⟩)),(1,.int .u64 (v:H)),(7,U j)],G)) ?_ ?_
    .refine(O 8)<|Zi (fun h8=>?_) fun h8=>?_
     .rw[Ai X]at t;have ao:=Av DZ t;rw[BA,Dd]at ao;refine(O 6∘Qp B (by have:=d.lt;omega) y) ?_;rintro _ v2 o e al bf;refine(O 2) ?_;have I:Tm wr o B (fun K=>K==5):=Tm.Agt y al;have A:=I.bk d Bc;refine(Zt A) ?_;rintro V a3 Q;refine(O 1∘Lm (v2,V)) ?_;have W:Tm o V B (fun K=>K==280):=Tm.set A Q S;refine⟨a3,?_,(I.mono fun T E=>by simp at E;simp[KS,E]).trans (W.mono fun T E=>by simp at E;simp[KS,E])⟩;rw[t,Qt,BA,Dd];exact W.own e Bc
     .rw[Ag X]at t;refine(O 1∘Lm (vo,wr)) ?_;rw[t];exact⟨d,y,Tm.refl _ _ _⟩
    .rintro⟨f,G⟩⟨C,x,t1⟩;have bq:v/2 ^ j<=v:=Ox _ _;have af:v.testBit j=decide (v/2 ^ j%2=1):=Nat.testBit_eq_decide_div_mod_eq;refine(O 2)<|Ld (fun(o:Ad)=>(Bk o wb 280 [f,U ((Ajb bs:Y):H)]/\Bo o B 5 1 f (Ajb (pack (bs++[v.testBit j]))) (BI (pack (bs++[v.testBit j])))/\Tm G o B KS,[(0,.pointer (J ⟨wb,0,Aa⟩)),(1,.int .u64 (v:H)),(7,U j)],o)) ?_ ?_
     .have bm:Ajb (pack (bs++[Aj]))=(Ajb bs+8)/8:=by rw[pack_length,BA,Dd]
      refine(O 4∘Zv (by exact PT Z Z (by show _<=64;omega))∘Zv (by exact MU (b:=1) (j:=1) (p:=2) (m:=18446744073709551615) Z Z Bc Bc Z X)∘O 2)<|Zi (fun D=>?_) fun D=>?_
      .have N:v.testBit j=Af:=by rw[af];exact AL D
       obtain⟨g,bl,rest,rfl,a1,hg,bb,a9,ba⟩:=x.blk (by rw[EQ];omega);have a4:=yN bs;have bi:=Qs bs (Ajb bs/8);have bn:128/2 ^ (Ajb bs%8)<=128:=Ox _ _;have aj:=rF bs (Ajb bs/8);rw[Nh]at aj
       have bc:(BI (pack (bs++[Aj]))++rest)[Ajb bs/8]? =J (.int .u8 ((Ft bs (Ajb bs/8):Y):H)):=by
        rw[FN (by rw[EQ];omega)];unfold BI;rw[Eh,a4,FP];rw[UInt8.toNat_ofNat',Jz X]
       have q:=yQ bs;rw[Nh]at q;have P:Ajb (pack (bs++[Af]))=Ajb (pack (bs++[Aj])):=by rw[q,HH]
       refine Kg 20 Be Be<|HW.val Z Z (EX.move Z)<|HW.val Z Z (DS Z)<|HW.val Z Z (Do (off:=0) underlying280 Z Z Rt Z Z)<|HW.val Z Z (Ci underlying23 Z Z (C.drew.cell_of Z))<|HW.val Z Z (EX.move Z)<|HW.val Z Z (DS Z)<|HW.val Z Z (Do (off:=1) underlying280 Z Z BV Z Z)<|HW.val Z Z (Ci underlying3 Z Z (C.drew.cell_of Z))<|HW.val Z Z (cP (b:=8) (m:=9223372036854775807) Z Z Z X)<|HW.val Z Z (by first|exact KV underlying23 CE Z Z X|exact KX underlying23 CE Z Z X)<|HW.val Z Z (Ci underlying5 Z Z (hg.drew.cell_of bc))<|HW.val Z Z (EX.move Z)<|HW.val Z Z (DS Z)<|HW.val Z Z (Do (off:=1) underlying280 Z Z BV Z Z)<|HW.val Z Z (Ci underlying3 Z Z (C.drew.cell_of Z))<|HW.val Z Z (by first|exact cQ (b:=8) Z Z X|exact cR Z Z Bc)<|HW.val Z Z (by first|exact LP (m:=18446744073709551615) underlying3 underlying180 Z Z X|exact MR (m:=18446744073709551616) underlying3 underlying180 Z Z Bc|exact EX.convZ underlying3 underlying180 Z)<|HW.val Z Z (PT (a:=128) Z Z (by show _<=8;omega))<|HW.val Z Z (Oh (m:=255) Z Z Z X)<|HW.val Z Z (by first|exact KV underlying23 CE Z Z X|exact KX underlying23 CE Z Z X)<|HW.tail<|(Zt hg.drew (hlt:=by grind)) ?_;rintro o a2 a7;refine(O 1∘Lm o) ?_;have I:Tm G.drew o B (fun K=>K==5):=Tm.set hg.drew a7 a1;rw[qY _ _ _ aj _ X,<-q]at a2;rw[N];refine⟨I.bk C.drew Bc,?_,(Tm.Agk (Bf.drew G) B KS).trans (I.mono fun T E=>by simp at E;simp[KS,E])⟩;rw[P];exact⟨by rw[EQ,P,IP],.inr ⟨g,bl,rest,Z,a1,a2,by rw[EQ,P];rw[EQ]at bb;omega,a9,ba⟩⟩
      .have N:v.testBit j=Aj:=by rw[af];exact AN D
       refine(O 1∘Lm G) ?_;rw[N];exact⟨C,x,Tm.refl _ _ _⟩
     .rintro o⟨A,e,I⟩;refine(O 8∘Zt A) ?_;rintro V a3 Q;refine(O 7)<|Lb (((j:H)-1),V) ?_;have W:Tm o V B (fun K=>K==280):=Tm.set A Q S;refine⟨⟨k+1,X,X,?_⟩,a6.trans (t1.trans (I.trans (W.mono fun T E=>by simp at E;simp[KS,E])))⟩;rw[ai];refine⟨f,S,?_,W.own e Bc⟩;simp_all
   .have hk:k=n:=X;subst hk;rw[Dq (by rw[nb_length];simp)]at L;refine(O 5∘Br) ?_;grind
end
namespace Bz
def Pf(l:By):Prop:=l≠[]/\l.Pairwise fun a b=>a.toNat<b.toNat
def used(s:By):By:=((BF 256).filter fun b=>decide (BU b∈s)).map BU
def toNat_ofNat{b:Y}(h:b<256):(BU b).toNat=b:=by
 simp_all
def mem_used(s:By)(b:AH):b∈used s↔b∈s:=by
 unfold used;rw[Cr];constructor
 .grind
 .intro h;refine⟨_,Kk.2 ⟨DU.2 b.toNat_lt,?_⟩,Bi⟩;simp_all
def used_may{s:By}(h:s≠[]):Pf (used s):=by
 refine⟨fun e=>?_,?_⟩
 .obtain⟨b,a⟩:=List.exists_mem_of_ne_nil s h;have:=(mem_used s b).2 a;grind
 .refine LX.2 ?_;refine HE.imp_of_mem ?_ (HE.filter _ WL);simp;omega
def Afk(s:By):Ajb (used s)<=256:=by
 unfold used;grind
def EF{α:Type}[Inhabited α](l:Ae α)(k:Y):Ae α:=l.getD k default::l.eraseIdx k
def Pg{α:Type}[Inhabited α]{l:Ae α}{k:Y}(h:k<Ajb l):Ajb (EF l k)=Ajb l:=by
 unfold EF;grind
def SI{α:Type}[Inhabited α]{l:Ae α}{k:Y}(h:k<Ajb l)(a:α):a∈EF l k↔a∈l:=by
 unfold EF;rw[List.mem_cons,List.mem_eraseIdx_iff_getElem];constructor
 .grind
 .intro q;obtain⟨i,d,rfl⟩:=Hq.1 q;grind
def front:By->By->Aw (Bj)
 |_,[]=>J []
 |l,b::s=>if b∈l then(front (EF l (l.idxOf b)) s).map (l.idxOf b::·)else Aa
def GI:By->Bj->Aw By
 |_,[]=>J []
 |l,k::ps=>if k<Ajb l then(GI (EF l k) ps).map (l.getD k 0::·)else Aa
def gY:∀(s l:By),(∀b∈s,b∈l)->∃ps,front l s=J ps/\Ajb ps=Ajb s/\GI l ps=J s/\∀p∈ps,p<Ajb l
 |[],l,_=>⟨[],Z,Z,Z,Bi⟩
 |b::s,l,h=>by
  have hb:=h b Bi;have hlt:=Qb hb;obtain⟨ps,e1,e2,e3,e4⟩:=gY s (EF l (l.idxOf b)) (fun c hc=>(SI hlt c).2 Bg);refine⟨l.idxOf b::ps,?_,Bg,?_,?_⟩
  .rw[front,Ai hb,e1];rfl
  .rw[GI,Ai hlt,e3];grind
  .intro p hp;rcases List.mem_cons.1 hp with rfl|hp
   .omega
   .have:=e4 p hp;rwa[Pg hlt]at this
def dR:∀(ps:Bj) (l s:By),GI l ps=J s->Ajb s=Ajb ps
 |[],l,s,h=>by simp[GI]at h;grind
 |k::ps,l,s,h=>by
  rw[GI]at h;split at h
  .rw[Ni]at h;obtain⟨t,h1,rfl⟩:=h;simp[dR _ _ _ h1]
  .grind
def DY(k:Y):Bj:=if h:0<k then(k-1)%2::DY ((k-1)/2)else[]
termination_by k
decreasing_by omega
def OL:DY 0=[]:=by rw[DY];rfl
def UD{k:Y}(h:0<k):DY k=(k-1)%2::DY ((k-1)/2):=by rw[DY,AQ h]
def XT:∀n k,k<=n->Ajb (DY k)<=k
 |0,k,h=>by
  obtain rfl:k=0:=X;rw[OL];simp
 |n+1,k,h=>by
  rcases Jy k with z|z
  .subst z;rw[OL];simp
  .rw[UD z,Cz];have:=XT n ((k-1)/2) X;omega
def Fq(n:Y):Y->Bj->Bj
 |r,[]=>DY r++[n+1]
 |r,0::l=>Fq n (r+1) l
 |r,(x+1)::l=>DY r++(x+2)::Fq n 0 l
def Fp(n most:Y):Bj->Y->Y->Bj->Aw (Bj)
 |_,_,_,[]=>Aa
 |out,run,w,s::l=>
  if n+1<s then Aa
  else if s<2 then(if most<w∨most<Ajb out+run+(s+1)*w then Aa else Fp n most out (run+(s+1)*w) (w*2) l)
  else if s=n+1 then(if l=[]then J (out++BJ run 0)else Aa)
  else if Ajb (out++BJ run 0)=most then Aa
  else Fp n most (out++BJ run 0++[s-1]) 0 1 l
def bS(n most:Y)(f:1<=n)(out rest:Bj):∀k,∀j,j<=k->∀run w,1<=w->Ajb out+run+j*w<=most->∃w',1<=w'/\Fp n most out run w (DY j++rest)=Fp n most out (run+j*w) w' rest
 |0,j,hj,run,w,hw,_=>by
  obtain rfl:j=0:=X;exact⟨w,hw,by rw[OL,Nat.zero_mul];rfl⟩
 |k+1,j,hj,run,w,hw,hm=>by
  rcases Jy j with z|z
  .subst z;exact⟨w,hw,by rw[OL,Nat.zero_mul];rfl⟩
  .have hd:(j-1)%2<2:=X;have hj2:j=((j-1)%2+1)+2*((j-1)/2):=X;generalize hde:(j-1)%2=d at hd hj2;generalize hqe:(j-1)/2=q at hj2
   have e:j*w=(d+1)*w+q*(w*2):=by
    rw[hj2,RV,Qi 2 q,WT,Qi 2 w]
   have a:w<=(d+1)*w:=Bg;rw[UD z,hde,hqe,Gi,Fp,Ag X,Ai hd,Ag X];obtain⟨w',g,h⟩:=bS n most f out rest k q X (run+(d+1)*w) (w*2) X X;exact⟨_,g,Bg⟩
def bT(n most:Y)(hn:1<=n):∀(l out:Bj) (r:Y),(∀p∈l,p<n)->Ajb out+r+Ajb l<=most->Fp n most out 0 1 (Fq n r l)=J (out++BJ r 0++l)
 |[],out,r,_,hm=>by
  obtain⟨w',_,h⟩:=bS n most hn out [n+1] r r X 0 1 X X;rw[Fq,h,Fp,Ag X,Ag X,Ai Z,Ai Z,IP,Fb,List.append_nil]
 |0::l,out,r,hl,hm=>by
  rw[Fq,bT n _ hn l _ _ Bg Bg,RT,<-Cx,Cx];rfl
 |(x+1)::l,out,r,hl,hm=>by
  have hx:=hl (x+1) Bi;obtain⟨w',_,h⟩:=bS n most hn out ((x+2)::Fq n 0 l) r r X 0 1 X X;rw[Fq,h,Fp,Ag X,Ag X,Ag X,Ag Bg,bT n _ hn l _ 0 Bg Bg];simp
def Agd{n most:Y}(a:1<=n){l:Bj}(hl:∀p∈l,p<n)(hm:Ajb l<=most):Fp n most [] 0 1 (Fq n 0 l)=J l:=by
 rw[bT n _ a l _ 0 hl Bg];simp
def Wf(n:Y)(a:1<=n):∀(l:Bj) (r:Y),(∀p∈l,p<n)->∃k,Fq n r l=k++[n+1]/\(∀x∈k,x<=n)/\Ajb k<=r+Ajb l
 |[],r,_=>by
  refine⟨_,Z,fun x hx=>?_,by simpa using XT r r X⟩
  have:∀m k,k<=m->∀x∈DY k,x<=1:=fun m=>by
   induction m with
   |zero=>
    intro k h x hx;obtain rfl:k=0:=X;rw[OL]at hx;cases hx
   |succ m ih=>
    intro k h x hx;rcases Jy k with z|z
    .grind
    .rw[UD z]at hx;grind
  have:=this r r X x hx;omega
 |0::l,r,hl=>by
  obtain⟨k,f,e,j⟩:=Wf n a l (r+1) Bg;exact⟨k,Ce,e,Bg⟩
 |(x+1)::l,r,hl=>by
  obtain⟨k,f,e,j⟩:=Wf n a l 0 Bg;obtain⟨g,d,t,q⟩:=Wf n a [] r Bi
  have i:=by
   rw[Fq]at d;exact List.append_inj_left' d Z
  refine⟨g++(x+2)::k,by rw[Fq,f,i];simp,fun y o=>?_,Bg⟩;grind
end Bz
namespace Bz
abbrev Tr:=Y×Y
def GA(a b:Tr):Ar:=decide (a.1<b.1)||(decide (a.1=b.1) && decide (a.2<b.2))
def ES:Ae Tr->Tr
 |[]=>(0,0)
 |a::l=>l.foldl (fun m x=>if GA x m then x else m) a
def fillL{α:Type}[Inhabited α](l:Ae α)(k:Y):Ae α:=(l.set k (l.getLastD default)).dropLast
def Yg{α:Type}:∀(l:Ae α) (k:Y) (h:k<Ajb l),l.Perm (l[k]::l.eraseIdx k)
 |a::l,0,_=>Bi
 |a::l,k+1,h=>by
  have ih:=Yg l k Bg;rw[List.eraseIdx_cons_succ,List.getElem_cons_succ];exact(ih.cons a).trans (Oo.swap _ _ _)
def ud{α:Type}[Inhabited α](l:Ae α)(k:Y)(h:k<Ajb l):l.Perm (l[k]::fillL l k):=by
 rcases TK l with e|⟨a,x,e⟩
 .grind
 .rw[List.concat_eq_append]at e;subst e;have f:(a++[x]).getLastD default=x:=Bi;unfold fillL;rw[f];rw[BA,Dd]at h;rcases Df k (Ajb a)with q|q
  .rw[TT _ _ q,List.dropLast_concat,WF q]
   have i:=by
    exact Yg a k q
   have g:=by
    have d:k<Ajb (a.set k x):=by rwa[HH]
    have:=Yg _ k d;rwa[List.getElem_set_self,List.eraseIdx_set_eq]at this
   refine(List.perm_append_singleton x a).trans ?_;refine(i.cons x).trans ?_;refine(Oo.swap _ _ _).trans ?_;exact(g.symm).cons _
  .obtain rfl:k=Ajb a:=X;simp
def fillL_length{α:Type}[Inhabited α](l:Ae α)(k:Y):Ajb (fillL l k)=Ajb l-1:=by
 unfold fillL;simp
def Zu:∀(l:Ae Tr),l≠[]->ES l∈l/\∀x∈l,GA x (ES l)=Aj
 |[],h=>absurd Z h
 |a::l,_=>by
  have key:∀(l:Ae Tr) (m:Tr),(l.foldl (fun m x=>if GA x m then x else m) m=m∨l.foldl (fun m x=>if GA x m then x else m) m∈l)/\GA m (l.foldl (fun m x=>if GA x m then x else m) m)=Aj/\∀x∈l,GA x (l.foldl (fun m x=>if GA x m then x else m) m)=Aj:=fun l=>by
   induction l with
   |nil=>intro m;exact⟨Bi,by simp[GA],Bi⟩
   |cons y l ih=>
    intro m;rw[Kh]
    have g:∀{p q r:Tr},GA q p=Af∨q=p->GA q r=Aj->GA p r=Aj:=fun {p q r} f o=>by
     rcases f with f|rfl
     .simp only[GA,RB,Bool.and_eq_true,decide_eq_true_eq,Bool.or_eq_false_iff,Rz,decide_eq_false_iff_not]at f o ⊢;omega
     .omega
    split
    .grind
    .rename_i h;obtain⟨C,k,B⟩:=ih m;refine⟨?_,k,fun x d=>?_⟩
     .grind
     .rcases List.mem_cons.1 d with rfl|d
      .have n:GA m x=Af∨m=x:=by
        simp[GA,Bool.and_eq_true]at h ⊢;obtain⟨A,w⟩:=m;obtain⟨v,t⟩:=x;simp at h ⊢;omega
       grind
      .grind
  obtain⟨e,j,i⟩:=key l a;refine⟨?_,fun x d=>?_⟩
  .rcases e with e|e
   .show l.foldl _ a∈_;grind
   .exact FO _ e
  .rcases List.mem_cons.1 d with rfl|d
   .exact j
   .exact i x d
def Dn(l:Ae Tr):Tr×Ae Tr:=(ES l,fillL l (l.idxOf (ES l)))
def ae{l:Ae Tr}(h:l≠[]):l.Perm ((Dn l).1::(Dn l).2)/\∀x∈l,(Dn l).1.1<=x.1:=by
 obtain⟨f,e⟩:=Zu l h;have d:=Qb f;refine⟨?_,fun x a=>?_⟩
 .have:=ud l _ d;rwa[List.getElem_idxOf]at this
 .have:=e x a;simp only[GA,Bool.or_eq_false_iff,Rz,decide_eq_false_iff_not]at this;show(ES l).1<=x.1;omega
def grow:Y->Ae Tr->Bj->Y->Bj
 |0,_,over,_=>over
 |f+1,trees,over,next=>
  if Ajb trees<=1 then over
  else grow f ((Dn (Dn trees).2).2++[((Dn trees).1.1+(Dn (Dn trees).2).1.1,next)]) ((over.set (Dn trees).1.2 next).set (Dn (Dn trees).2).1.2 next) (next+1)
def Fv(over:Bj):Y->Y->Y
 |0,_=>0
 |f+1,x=>if over.getD x 0=0 then 0 else Fv over f (over.getD x 0)+1
def grown(w:Bj):Bj:=
 let over:=grow (Ajb w) (w.zipIdx) (BJ (2*Ajb w) 0) (Ajb w)
 (BF (Ajb w)).map (Fv over (2*Ajb w))
def CV(l:Bj):Y:=l.foldr (·+·) 0
def Ge(a:Y)(l:Bj):CV (a::l)=a+CV l:=rfl
def Tk(a b:Bj):CV (a++b)=CV a+CV b:=by
 induction a with
 |nil=>simp[CV]
 |cons x a ih=>rw[Gi,Ge,Ge,ih,Kq]
def VL{a b:Bj}(h:a.Perm b):CV a=CV b:=by
 induction h with
 |nil=>rfl
 |cons x _ ih=>rw[Ge,Ge,ih]
 |swap x y l=>simp[Ge];omega
 |trans _ _ h1 h2=>omega
def VK{l:Bj}{m:Y}(h:∀x∈l,x<=m):CV l<=Ajb l*m:=by
 induction l with
 |nil=>simp[CV]
 |cons x l ih=>
  have e:=h x Bi;have d:=ih (fun y a=>h y Bg);rw[Ge,Cz,Qj];omega
def ny{l:Bj}{x:Y}(h:x∈l):x<=CV l:=by
 induction l with
 |nil=>grind
 |cons y l ih=>
  rw[Ge];grind
def Fg:Y->Y
 |0=>0
 |1=>1
 |n+2=>Fg n+Fg (n+1)
def tZ:∀n,Fg n<=Fg (n+1)
 |0=>by decide
 |1=>by decide
 |n+2=>by
  have e2:Fg (n+2+1)=Fg _+Fg (n+2):=rfl;omega
def tY{a b:Y}(h:a<=b):Fg a<=Fg b:=by
 induction h with
 |refl=>simp
 |step _ ih=>exact BC ih (tZ _)
structure Gw(n:Y)(trees:Ae Tr)(over:Bj)(next:Y)(ht:Y->Y)(M W:Y):Prop where
 len:Ajb over=2*n
 sum:next+Ajb trees=2*n
 low:n<=next
 lt:∀t∈trees,t.2<next
 nod:(trees.map (·.2)).Nodup
 zero:∀t∈trees,over.getD t.2 0=0
 up:∀y,next<=y->over.getD y 0=0
 dn:∀y,over.getD y 0≠0->y<over.getD y 0/\over.getD y 0<next
 fib2:∀t∈trees,Fg (ht t.2+2)<=t.1/\Fg (ht t.2+1)<=M/\M<=t.1
 tot:CV (trees.map (·.1))=W
def jb{l:Bj}{i j v:Y}(h:i<Ajb l):(l.set i v).getD j 0=if i=j then v else l.getD j 0:=by
 grind
def Gw.step{n:Y}{d:Ae Tr}{f:Bj}{next:Y}{ht:Y->Y}{M W:Y}(h:Gw n d f next ht M W)(h2:2<=Ajb d){a b:Tr}{l1 l2:Ae Tr}(ea:Dn d=(a,l1))(eb:Dn l1=(b,l2)):
 d.Perm (a::b::l2)/\a.2≠b.2/\a.2<next/\b.2<next/\next<2*n/\
 Gw n (l2++[(a.1+b.1,next)]) ((f.set a.2 next).set b.2 next) (next+1) (fun x=>if x=next then 1+max (ht a.2) (ht b.2)else ht x) b.1 W:=by
 have p:d≠[]:=Bg;obtain⟨B,C⟩:=ae p;rw[ea]at B C;have V:Ajb l1+1=Ajb d:=B.length_eq▸Z;have k:l1≠[]:=Bg;obtain⟨p2,m2⟩:=ae k;have m:d.Perm (a::b::l2):=Bg;have G:a∈d:=Bg;have o:b∈d:=Bg;have i:∀x∈l2,x∈d:=Bg;have ab:a.1<=b.1:=C b o;have v:∀x∈l2,b.1<=x.1:=Bg;have l:((a::b::l2).map (·.2)).Nodup:=(m.map (·.2)).nodup_iff.1 h.nod;simp only[Co,TR,List.mem_cons,not_or]at l;obtain⟨⟨K,n2⟩,n3,I⟩:=l;have N:=h.lt a G;have L:=h.lt b o;have T:Ajb d=Ajb l2+2:=m.length_eq▸Z;have hs:=h.sum;have E:=h.len;have D:=h.low
 have go:∀y,((f.set a.2 next).set b.2 next).getD y 0=if b.2=y then next else if a.2=y then next else f.getD y 0:=fun y=>by
  grind
 have r:∀x∈l2,x.2≠a.2/\x.2≠b.2:=Bg;refine⟨m,K,N,L,X,?_⟩;refine⟨Bg,Bg,X,?_,?_,?_,?_,?_,?_,?_⟩
 .intro t g;rcases Dx.1 g with q|q
  .have:=h.lt t (i t q);omega
  .grind
 .rw[DT,LW,WJ];refine⟨I,Bi,fun x S y j=>?_⟩;obtain⟨z,Q,rfl⟩:=Cr.1 S;rw[CF.1 j];have:=h.lt z (i z Q);omega
 .intro t g;rw[go];rcases Dx.1 g with q|q
  .have:=r t q;rw[Ag (fun e=>this.2 e.symm),Ag (fun e=>this.1 e.symm)];exact h.zero t (i t q)
  .rw[CF.1 q];show(if b.2=next then next else if a.2=next then next else f.getD next 0)=0;rw[Ag X,Ag X];exact h.up next (Bv _)
 .intro y j;rw[go,Ag X,Ag X];exact h.up y X
 .intro y j;rw[go]at j ⊢;split
  .omega
  .split
   .omega
   .rename_i A w;rw[Ag A,Ag w]at j;have:=h.dn y j;omega
 .intro t g;rcases Dx.1 g with q|q
  .have l3:=h.lt t (i t q);have A:=h.fib2 t (i t q);have w:=v t q;have q3:=(h.fib2 b o).2.2;grind
  .rw[CF.1 q];simp only[if_true];obtain⟨a1,a2,a3⟩:=h.fib2 a G;obtain⟨b1,b2,b3⟩:=h.fib2 b o
   have P:∀x y:Y,Fg (x+2)<=a.1->Fg (x+1)<=M->Fg (y+2)<=b.1->Fg (y+1)<=M->Fg (1+max x y+2)<=a.1+b.1/\Fg (1+max x y+1)<=b.1:=fun x y c1 c2 c3 c4=>by
    rcases Ua x y with q|q
    .rw[Nat.max_eq_right q,show 1+y+2=(y+1)+2 by omega,show 1+y+1=y+2 by omega];refine⟨?_,c3⟩;show Fg (y+1)+Fg (y+2)<=_;omega
    .rw[Nat.max_eq_left q,show 1+x+2=(x+1)+2 by omega,show 1+x+1=x+2 by omega];refine⟨?_,X⟩;show Fg (x+1)+Fg (x+2)<=_;omega
   grind
 .have e:=VL (m.map (·.1));rw[h.tot]at e;rw[DT,LW,Tk,e];simp only[Co,Ge,CV,List.foldr];omega
structure Dp(over:Bj)(d:Y->Y):Prop where
 zero:∀x,over.getD x 0=0->d x=0
 succ:∀x,over.getD x 0≠0->d x=d (over.getD x 0)+1
def jj:∀(f n:Y) (trees:Ae Tr) (over:Bj) (next:Y) (ht:Y->Y) (M W:Y),Gw n trees over next ht M W->Ajb trees<=f+1->1<=Ajb trees->
 Ajb (grow f trees over next)=2*n/\(∀y,over.getD y 0≠0->(grow f trees over next).getD y 0=over.getD y 0)/\(∀y,(grow f trees over next).getD y 0≠0->y<(grow f trees over next).getD y 0/\(grow f trees over next).getD y 0<2*n)/\
 ∀d,Dp (grow f trees over next) d->∃hr,Fg (hr+2)<=W/\(∀t∈trees,d t.2+ht t.2<=hr)/\∀D,hr<=D->CV (trees.map fun t=>2 ^ (D-d t.2))=2 ^ D:=by
 intro f
 induction f with
 |zero=>
  intro n trees over next ht M W h S h1;have base:Ajb trees=1:=X
  match trees,base with
  |[t],_=>
   have I:=h.sum;refine⟨h.len,fun y _=>rfl,fun y i=>?_,fun d g=>?_⟩
   .have:=h.dn y i;exact⟨this.1,by show over.getD y 0<2*n;omega⟩
   .have m:=g.zero _ (h.zero t Bi);have o:=h.tot;simp only[Co,Ep,CV,List.foldr]at o;refine⟨ht t.2,by have:=(h.fib2 t Bi).1;omega,fun x p=>?_,fun D _=>?_⟩
    .rw[CF.1 p,m];omega
    .simp[CV,m]
 |succ f ih=>
  intro n trees over next ht M W h S h1;unfold grow;split
  .rename_i N;have base:Ajb trees=1:=X
   match trees,base with
   |[t],_=>
    have I:=h.sum;refine⟨h.len,fun y _=>rfl,fun y i=>?_,fun d g=>?_⟩
    .have:=h.dn y i;omega
    .have m:=g.zero _ (h.zero t Bi);have o:=h.tot;simp[CV]at o;refine⟨ht t.2,by have:=(h.fib2 t Bi).1;omega,fun x p=>?_,fun D _=>?_⟩
     .rw[CF.1 p,m];omega
     .simp[CV,m]
  .rename_i P;obtain⟨a,l1,ea⟩:∃a l1,Dn trees=(a,l1):=⟨_,_,Z⟩;obtain⟨b,l2,eb⟩:∃b l2,Dn l1=(b,l2):=⟨_,_,Z⟩;obtain⟨k,l,la,lb,L,Q⟩:=h.step X ea eb;simp only[ea,eb];have hl:Ajb trees=Ajb l2+2:=k.length_eq▸Z;obtain⟨g1,r,g3,g4⟩:=ih n _ _ _ _ _ _ Q (by rw[BA,Dd];omega) (by rw[BA,Dd];omega);have A:=h.len
   have go:∀y,((over.set a.2 _).set b.2 _).getD y 0=if b.2=y then next else if a.2=y then next else over.getD y 0:=fun y=>by
    rw[jb (by simp;omega),jb X]
   have K:next≠0:=X;have V:a∈trees:=k.symm.subset Bi;have T:b∈trees:=k.symm.subset Bi;refine⟨g1,fun y i=>?_,g3,fun d g=>?_⟩
   .have e:((over.set a.2 next).set b.2 next).getD y 0=over.getD y 0:=by
     rw[go,Ag (fun e=>by subst e;exact i (h.zero b T)),Ag (fun e=>by subst e;exact i (h.zero a V))]
    rw[r y X,e]
   .obtain⟨hr,f1,B,f3⟩:=g4 d g;have w:=r a.2 (by rwa[go,Ag (fun e=>l e.symm),Ai Z]);have v:=r b.2 (by rwa[go,Ai Z]);rw[go,Ag (fun e=>l e.symm),Ai Z]at w;rw[go,Ai Z]at v;have E:=g.succ a.2 X;have C:=g.succ b.2 X;rw[w]at E;rw[v]at C;have fn:=B (a.1+b.1,next) Bi;simp only[if_true]at fn;refine⟨hr,f1,fun t j=>?_,fun D hD=>?_⟩
    .rcases List.mem_cons.1 (k.subset j)with rfl|q
     .omega
     .rcases List.mem_cons.1 q with rfl|q
      .omega
      .have l3:=h.lt t j;have:=B t (Dx.2 (.inl q));rwa[Ag X]at this
    .have e:=f3 D hD;rw[DT,LW,Tk]at e;rw[VL (k.map _)];simp only[Co,Ge,E,C]
     have G:2 ^ (D-d next)=2 ^ (D-(d next+1))+2 ^ (D-(d next+1)):=by
      rw[show D-d next=(D-(d next+1))+1 by omega,Kt];omega
     have e1:CV [2 ^ (D-d next)]=2 ^ (D-d next):=by simp[CV]
     rw[e1,G]at e;omega
def QA(over:Bj)(f x:Y):Fv over (f+1) x=if over.getD x 0=0 then 0 else Fv over f (over.getD x 0)+1:=rfl
def fV{over:Bj}{n:Y}(h:∀y,over.getD y 0≠0->y<over.getD y 0/\over.getD y 0<n):∀f x,n<=f+x->Fv over f x=Fv over (f+1) x
 |0,x,hx=>by
  rw[QA];split
  .rfl
  .grind
 |f+1,x,hx=>by
  rw[QA,QA];split
  .rfl
  .rename_i z;have:=h x z;rw[fV h f _ X]
def xC{w:Bj}{t:Tr}(h:t∈w.zipIdx):t.2<Ajb w/\w.getD t.2 0=t.1:=by
 grind
def nv{w:Bj}(h1:∀x∈w,1<=x)(f:1<=Ajb w):Gw (Ajb w) w.zipIdx (BJ (2*Ajb w) 0) (Ajb w) (fun _=>0) 1 (CV w):=by
 have z:∀y,(BJ (2*Ajb w) 0).getD y 0=0:=Bg;refine⟨Bi,by simp;omega,X,Bg,?_,fun t _=>z _,fun y _=>z y,Bg,fun t a=>?_,?_⟩
 .have e:w.zipIdx.map (·.2)=Ha 0 (Ajb w):=Bi;grind
 .have:=xC a
  have d:t.1∈w:=by
   rw[<-this.2,Ck,BR X];simp
  have:=h1 _ d;exact⟨this,Bv _,this⟩
 .simp
structure Lens(l:Bj)(n:Y):Prop where
 len:Ajb l=n
 pos:∀x∈l,1<=x
 kraft:(∀x∈l,x<=20)->CV (l.map fun x=>2 ^ (20-x))=2 ^ 20
def YM{w:Bj}(h1:∀x∈w,1<=x)(T:2<=Ajb w):Lens (grown w) (Ajb w)/\∃hr,Fg (hr+2)<=CV w/\∀x∈grown w,x<=hr:=by
 have g:=nv h1 X;obtain⟨I,G,v,r⟩:=jj (Ajb w) (Ajb w) _ _ _ _ _ _ g (by rw[TO];omega) (by rw[TO];omega);obtain⟨k8,hO⟩:∃k8,k8=grow (Ajb w) w.zipIdx (BJ (2*Ajb w) 0) (Ajb w):=Bi;rw[<-hO]at I G v r;have p:grown w=(BF (Ajb w)).map (Fv k8 (2*Ajb w)):=hO▸Z
 have E:Dp k8 (Fv k8 (2*Ajb w)):=by
  obtain⟨f,hf⟩:∃f,2*Ajb w=f+1:=⟨2*Ajb w-1,X⟩;have d:=fV v;refine⟨fun x a=>?_,fun x a=>?_⟩
  .rw[hf,QA,Ai a]
  .have e:=d (2*Ajb w) x X;rw[e,QA,Ag a]
 obtain⟨hr,L,K,y⟩:=r _ E
 have N:∀D,(w.zipIdx.map fun t=>2 ^ (D-Fv k8 _ _))=(grown w).map fun x=>2 ^ (D-x):=fun D=>by
  rw[p,EO]
  have e:w.zipIdx.map (·.2)=BF (Ajb w):=by
   rw[RS];simp
  rw[<-e,EO];rfl
 have k:∀x∈grown w,x<=hr:=fun x a=>by
  rw[p]at a;obtain⟨i,n,rfl⟩:=Cr.1 a;have m:=DU.1 n;have:=K (w[i],i) Bg;omega
 refine⟨⟨Bg,fun x a=>?_,fun o=>?_⟩,_,L,k⟩
 .rw[p]at a;obtain⟨i,n,rfl⟩:=Cr.1 a;have m:=DU.1 n;rcases Jy (Fv k8 (2*Ajb w) i)with z|z
  .exfalso;have e:=y hr (Bv _);have C:(w[i],i)∈w.zipIdx:=Bg
   obtain⟨j,Q,A⟩:∃j,j<Ajb w/\j≠i:=by
    rcases Jy i with q|q
    .exact⟨1,X,X⟩
    .exact⟨0,X,X⟩
   have h:=List.perm_cons_erase C;have B:(w[j],j)∈w.zipIdx.erase (w[i],i):=Bg;rw[VL (h.map _),Co,Ge]at e;change 2 ^ (hr-Fv k8 _ i)+_=2 ^ hr at e;rw[z,Nat.sub_zero]at e;have S:=ny (Cr.2 Bg:2 ^ (hr-Fv k8 (2*Ajb w) j)∈(w.zipIdx.erase (w[i],i)).map fun t=>2 ^ (hr-Fv k8 (2*Ajb w) t.2));grind
  .omega
 .have e:=y (hr+20) X;rw[N]at e
  have P:∀l:Ae _,(∀x∈l,x<=20)->CV (l.map fun x=>2 ^ (hr+20-x))=2 ^ hr*CV (l.map fun x=>2 ^ (20-x)):=fun l=>by
   induction l with
   |nil=>intro _;rfl
   |cons x l ih=>
    intro a;have q:=a x Bi;rw[Co,Co,Ge,Ge,ih Bg,Nat.mul_add,show hr+20-x=hr+(20-x) by omega,Ue]
  rw[P _ o,Ue]at e;exact Nat.eq_of_mul_eq_mul_left Bg e
def LC:Y->Bj->Bj
 |0,w=>grown w
 |f+1,w=>if(grown w).all (fun x=>decide (x<=17))then grown w else LC f (w.map fun x=>x/2+1)
def Zw:∀(f:Y) (w:Bj),(∀x∈w,1<=x/\x<=2 ^ f+1)->2<=Ajb w->Ajb w<=258->Lens (LC f w) (Ajb w)/\∀x∈LC f w,x<=17
 |0,w,h,h2,h3=>by
  obtain⟨h4,hr,h5,h6⟩:=YM Bg h2;refine⟨h4,fun x hx=>?_⟩;have h7:=h6 x hx;have h8:=VK (l:=w) (m:=2) Bg;rcases Df hr 18 with q|q
  .omega
  .have:=tY (show 20<=hr+2 by omega);have e:Fg 20=6765:=by decide
   omega
 |f+1,w,h,h2,h3=>by
  unfold LC;split
  .rename_i q;refine⟨(YM Bg h2).1,fun x hx=>?_⟩;grind
  .have:=Zw f (w.map fun x=>x/2+1) Bg Bg Bg;grind
end Bz
namespace Bz
def Cy(l:Bj)(n:Y):Y:=l.count n
def fst(l:Bj):Y->Y
 |0=>0
 |n+1=>2*(fst l n+Cy l n)
def FT(l:Bj):Y->Y
 |0=>0
 |n+1=>FT l n+Cy l n
def Mq(l:Bj)(n:Y):Bj:=(BF (Ajb l)).filter fun i=>decide (l.getD i 0=n)
def longest(l:Bj):Y:=l.foldl max 0
def Dt(l:Bj)(m:Y):Bj:=(BF m).flatMap fun n=>Mq l (n+1)
def MC(l:Bj)(i:Y):Y:=(l.take i).count (l.getD i 0)
def KC(l:Bj)(i:Y):Y:=fst l (l.getD i 0)+MC l i
def gV(l:Bj):∀m,m<=l.foldl max m/\(∀x∈l,x<=l.foldl max m)/\(l.foldl max m=m∨l.foldl max m∈l):=by
 induction l with
 |nil=>simp
 |cons y l ih=>
  intro m;obtain⟨f,e,d⟩:=ih (max m y);rw[Kh];refine⟨X,fun x a=>?_,?_⟩
  .rcases List.mem_cons.1 a with rfl|a
   .omega
   .grind
  .grind
def UV{l:Bj}{x:Y}(h:x∈l):x<=longest l:=(gV l 0).2.1 x h
def vY{l:Bj}{m:Y}(h:∀x∈l,x<=m):longest l<=m:=by
 rcases(gV l 0).2.2 with q|q
 .unfold longest;omega
 .exact h _ q
def UR(l:Bj)(n:Y):Ajb (Mq l n)=Cy l n:=by
 unfold Mq Cy
 induction l using aN with
 |h0=>rfl
 |h1 l a ih=>
  rw[BA,Dd,Ga,Lf,BA,List.count_append,List.count_singleton]
  have e:(BF (Ajb l)).filter (fun i=>decide ((l++[a]).getD i 0=n))=(BF (Ajb l)).filter fun i=>decide (l.getD i 0=n):=by
   apply List.filter_congr;intro i d;have:=DU.1 d;rw[Ck,Ck,FN this]
  grind
def ZP(l:Bj):∀m,Ajb (Dt l m)+Cy l 0=FT l (m+1)
 |0=>by rfl
 |m+1=>by
  have ih:=ZP l m;unfold Dt at ih ⊢;rw[Ga,IL,List.flatMap_singleton,BA,UR];show _=FT l _+Cy l _;omega
def jp{l:Bj}{i:Y}(h:i<Ajb l):(Mq l (l.getD i 0))[MC l i]? =J i:=by
 have e:Mq l (l.getD i 0)=((BF i).filter fun j=>decide (l.getD j 0=l.getD i 0))++i::((Ha (i+1) (Ajb l-(i+1))).filter fun j=>decide (l.getD j 0=l.getD i 0)):=by
  unfold Mq
  have d:BF (Ajb l)=BF i++i::Ha (i+1) (Ajb l-(i+1)):=by
   rw[RS,RS,show Ajb l=i+((Ajb l-(i+1))+1) by omega,<-List.range'_append_1,Fb,WM];congr 3;omega
  rw[d,Lf,LV,Ai Bi]
 have f:Ajb ((BF i).filter fun j=>decide (l.getD j 0=l.getD i 0))=MC l i:=by
  have:=UR (l.take i) (l.getD i 0);unfold Mq at this;rw[BZ,Hb X]at this;unfold MC;rw[<-show Cy _ _=(l.take i).count _ from Z,<-this];congr 1;apply List.filter_congr;intro j a;have:=DU.1 a;rw[Ck (l:=l.take i),List.getElem?_take,Ai this,<-Ck]
 grind
def ak{l:Bj}{i:Y}(h:i<Ajb l):MC l i<Cy l (l.getD i 0):=by
 have:=(Ki.1 (jp h)).1;rwa[UR]at this
def ZO{l:Bj}(h0:Cy l 0=0){i m:Y}(h:i<Ajb l)(h1:1<=l.getD i 0)(f:l.getD i 0<=m):(Dt l m)[FT l (l.getD i 0)+MC l i]? =J i:=by
 obtain⟨n,hn⟩:∃n,l.getD i 0=n+1:=⟨l.getD i 0-1,X⟩;have d:=jp h;have a:=ak h;rw[hn]at d f a ⊢
 have e:Dt l m=Dt l n++(Mq l (n+1)++(Ha (n+1) (m-(n+1))).flatMap fun n=>Mq l (n+1)):=by
  unfold Dt
  have g:BF m=BF n++n::Ha (n+1) (m-(n+1)):=by
   rw[RS,RS,show m=n+((m-(n+1))+1) by omega,<-List.range'_append_1,Fb,WM];congr 3;omega
  rw[g,IL,FZ]
 have j:=ZP l n;grind
def sy(l:Bj)(n:Y):∀m,n<=20->m=n->(∀x∈l,1<=x)->(fst l n+Cy l n)*2 ^ (20-n)=CV ((l.filter fun x=>decide (x<=n)).map fun x=>2 ^ (20-x)):=by
 induction n with
 |zero=>
  intro m _ _ h;have e:l.filter (fun x=>decide (x<=0))=[]:=List.filter_eq_nil_iff.2 Bg;have d:Cy l 0=0:=List.count_eq_zero.2 Bg;rw[e,d];simp[fst,CV]
 |succ n a=>
  intro m f _ h;have a:=a n X Z h
  have split:∀k:Bj,CV ((k.filter fun x=>decide (x<=n+1)).map fun x=>2 ^ (20-x))=CV ((k.filter fun x=>decide (x<=n)).map fun x=>2 ^ (20-x))+k.count (n+1)*2 ^ (20-(n+1)):=fun k=>by
   induction k with
   |nil=>simp
   |cons x k ih2=>
    rw[LV,LV,List.count_cons];rcases Uc x (n+1)with q|q|q
    .rw[Ai Bx,Ai Bx,Ag Bx,Co,Co,Ge,Ge,ih2];grind
    .subst q;rw[Ai Bi,Ag Bi,Ai Bi,Co,Ge,ih2,Qj];omega
    .grind
  rw[split,<-a];have e:2 ^ (20-n)=2*2 ^ (20-(n+1)):=by rw[show 20-n=(20-(n+1))+1 by omega,Kt];omega
  show(2*(fst l n+Cy l n)+Cy l _)*2 ^ (20-(n+1))=_;unfold Cy;grind
structure LOk(l:Bj):Prop where
 pos:∀x∈l,1<=x/\x<=20
 kraft:CV (l.map fun x=>2 ^ (20-x))<=2 ^ 20
def LOk.Ahb{l:Bj}(h:LOk l):Cy l 0=0:=List.count_eq_zero.2 fun q=>by have:=(h.pos 0 q).1;omega
def LOk.top{l:Bj}(h:LOk l){n:Y}(d:n<=20):fst l n+Cy l n<=2 ^ n:=by
 have m:=sy l n n d Z fun x a=>(h.pos x a).1
 have g:∀k:Ae _,CV ((k.filter fun x=>decide (x<=n)).map fun x=>2 ^ (20-x))<=CV (k.map fun x=>2 ^ (20-x)):=fun k=>by
  induction k with
  |nil=>simp
  |cons x k ih=>
   rw[LV];split
   .rw[Co,Co,Ge,Ge];omega
   .rw[Co,Ge];grind
 have j:=g l;have i:=h.kraft;have e:2 ^ 20=2 ^ n*2 ^ (20-n):=by rw[<-Ue];congr 1;omega
 have f:(fst l n+Cy l n)*2 ^ (20-n)<=2 ^ n*2 ^ (20-n):=X;exact Nat.le_of_mul_le_mul_right f Bg
def LOk.Ahu{l:Bj}(h:LOk l){i:Y}(hi:i<Ajb l):KC l i<2 ^ l.getD i 0:=by
 have a:=h.pos (l.getD i 0) Bg;have e:=h.top a.2;have d:=ak hi;unfold KC;omega
def Mn(l:Bj)(n c:Y):Prop:=0<Cy l n/\fst l n<=c/\c-fst l n<Cy l n
instance(l:Bj)(n c:Y):Decidable (Mn l n c):=by unfold Mn;infer_instance
def Qr(l:Bj)(c n:Y):Prop:=∃m,m<=longest l/\n<m/\0<Cy l m/\c*2 ^ (m-n)<fst l m+Cy l m
noncomputable def Pn(l:Bj)(s:By)(p:Y):Y->Y->Y->Aw (Y×Y)
 |0,_,_=>Aa
 |f+1,n,c=>open Classical in
  if 8*Ajb s<=p+n then Aa
  else if Mn l (n+1) (2*c+(Cp s (p+n)).toNat)then J ((Dt l (longest l)).getD (FT l (n+1)+(2*c+(Cp s (p+n)).toNat-fst l (n+1))) 0,p+n+1)
  else if Qr l (2*c+(Cp s (p+n)).toNat) (n+1)then Pn l s p f (n+1) (2*c+(Cp s (p+n)).toNat)
  else Aa
noncomputable def ND(l:Bj)(s:By)(p:Y):Aw (Y×Y):=Pn l s p 21 0 0
def gZ(l:Bj)(n:Y):∀d,(fst l n+Cy l n)*2 ^ (d+1)<=fst l (n+d+1)
 |0=>by
  show(fst l n+Cy l n)*2 ^ 1<=2*(fst l n+Cy l n);omega
 |d+1=>by
  have ih:=gZ l n d;show _<=2*(fst l (n+d+1)+Cy l (n+d+1));rw[Kt,<-WT];omega
def Ach(L c n:Y)(a:n<L):c>>>(L-(n+1))=2*(c>>>(L-n))+(c.testBit (L-1-n)).toNat:=by
 rw[Nh,Nh,show L-n=(L-(n+1))+1 by omega,Kt,<-WR,Nat.testBit_eq_decide_div_mod_eq,show L-1-n=L-(n+1) by omega];generalize c/2 ^ (L-(n+1))=q;rcases Nat.mod_two_eq_zero_or_one q with h|h
 .rw[h];simp;omega
 .rw[h];simp;omega
def kR{l:Bj}{L c i:Y}(d:L∈l)(g:fst l L<=c)(e:c-fst l L<Cy l L)(a:(Dt l (longest l))[FT l L+(c-fst l L)]? =J i){s:By}{p:Y}(h:DG s p (nb L c)):
 ∀(f n:Y),n<L->L<=f+n->Pn l s p f n (c>>>(L-n))=J (i,p+L)
 |0,n,h1,h2=>by omega
 |f+1,n,h1,h2=>by
  have hle:=h.1;rw[nb_length]at hle;have hb:=h.2 n (by rw[nb_length];omega);rw[Ck,Vb h1]at hb;have hb':Cp s _=c.testBit _:=hb;have hsh:=Ach L c n h1;unfold Pn;rw[Ag X,hb',<-hsh];rcases Df (n+1) L with q|q
  .have hnh:¬Mn l (n+1) (c>>>(L-(n+1))):=by
    rintro⟨_,r,o⟩;have k:=gZ l (n+1) (L-(n+1)-1);rw[show n+1+(L-(n+1)-1)+1=L by omega,show L-(n+1)-1+1=L-(n+1) by omega]at k;have m:c>>>(L-(n+1))<fst l (n+1)+Cy l (n+1):=X;rw[Nh,Nat.div_lt_iff_lt_mul Bg]at m;omega
   have j:Qr l (c>>>(L-(n+1))) (n+1):=by
    refine⟨L,UV d,q,X,?_⟩;rw[Nh];have:=Nat.div_mul_le_self c (2 ^ (L-(n+1)));omega
   rw[Ag hnh,Ai j];exact kR d g e a h f _ q X
  .obtain rfl:n+1=L:=X;rw[Fa,Nat.shiftRight_zero,Ai ⟨X,g,e⟩,Ck,a];rfl
def xV{l:Bj}(h:LOk l){i:Y}(hi:i<Ajb l){s:By}{p:Y}(g:DG s p (nb (l.getD i 0) (KC l i))):ND l s p=J (i,p+l.getD i 0):=by
 have a:l.getD i 0∈l:=by rw[Ck,BR hi];simp
 have k:=h.pos _ a;have j:=ak hi;have f:=ZO h.Ahb hi k.1 (UV a);have e:KC l i-fst l (l.getD i 0)=MC l i:=by unfold KC;omega
 have:=kR a (i:=i) (by unfold KC;omega) X Bg g 21 0 X X;have d:=h.Ahu hi;rwa[Nat.sub_zero,Nh,Nat.div_eq_of_lt d]at this
noncomputable def Gl(l:Bj)(s:By)(fin:Y):Y->Y->Aw (Bj×Y)
 |0,p=>J ([],p)
 |k+1,p=>match ND l s p with
  |none=>Aa
  |some (x,q)=>if x=fin then J ([x],q)else(Gl l s fin k q).map fun r=>(x::r.1,r.2)
def Lp(l:Bj)(x:Y):Bs:=nb (l.getD x 0) (KC l x)
def Xg{l:Bj}(h:LOk l){s:By}{a:Y}:∀(xs:Bj) (k p:Y),(∀x∈xs,x<Ajb l)->(∀y ys,xs=ys++[y]->∀x∈ys,x≠a)->Ajb xs<=k->(Ajb xs=k∨xs.getLast? =J a)->DG s p (xs.flatMap (Lp l))->Gl l s a k p=J (xs,p+Ajb (xs.flatMap (Lp l)))
 |[],k,p,_,_,_,h3,_=>by
  rcases h3 with h3|h3
  .obtain rfl:k=0:=by simpa using h3.symm
   rfl
  .grind
 |x::xs,0,p,_,_,h2,_,_=>by grind
 |x::xs,k+1,p,h0,h1,h2,h3,hs=>by
  have j:=h0 x Bi;have e:=xV h j hs.left;have f:=hs.right;have g:Ajb (Lp l x)=l.getD x 0:=nb_length _ _;rw[g]at f;unfold Gl;rw[e];simp only;rcases TK xs with z|⟨ys,y,z⟩
  .subst z;split
   .grind
   .rename_i q;rcases h3 with h3|h3
    .obtain rfl:k=0:=by simpa using h3.symm
     simp[Gl,g]
    .grind
  .have m:=h1 y (x::ys) Bg x Bi
   have d:Ajb xs=k∨xs.getLast? =J a:=by
    rcases h3 with h3|h3
    .grind
    .grind
   rw[Xg h xs k (p+l.getD x 0) Bg (fun u i o v n=>h1 u (x::i) Bg v Bg) Bg d f];simp_all;omega
def Hu(now x:Y):Bs:=(BJ (x-now) [Af,Aj]).flatten++(BJ (now-x) [Af,Af]).flatten++[Aj]
def HR:Y->Bj->Bs
 |_,[]=>[]
 |now,x::l=>Hu now x++HR x l
def dShow(l:Bj):Bs:=nb 5 (l.headD 0)++HR (l.headD 0) l
def Fu(s:By):Y->Y->Y->Y->Bj->Aw (Bj×Y)
 |_,p,0,_,acc=>J (acc,p)
 |0,_,_+1,_,_=>Aa
 |f+1,p,k+1,now,acc=>
  if now<1∨20<now then Aa
  else if 8*Ajb s<=p then Aa
  else if Cp s p=Aj then Fu s f (p+1) k now (acc++[now])
  else if 8*Ajb s<=p+1 then Aa
  else Fu s f (p+2) (k+1) (if Cp s (p+1)then now-1 else now+1) acc
def NP{s:By}{p:Y}{b:Ar}{l:Bs}(h:DG s p (b::l)):p<8*Ajb s/\Cp s p=b/\DG s (p+1) l:=by
 have a:=h.1;rw[Cz]at a;exact⟨X,by simpa using h.2 0 Bi,by have:=DG.right (l:=[b]) h;omega⟩
def fK{s:By}{x:Y}(hx:x<=20){rest:Bs}{k:Y}{acc:Bj}:∀(d f p now:Y),now+d=x->1<=now->DG s p ((BJ d [Af,Aj]).flatten++rest)->2*d<=f->Fu s f p (k+1) now acc=Fu s (f-d) (p+2*d) (k+1) x acc
 |0,f,p,now,h1,_,_,_=>by grind
 |d+1,f,p,now,h1,h2,hs,hf=>by
  obtain⟨f,rfl⟩:∃g,f=g+1:=⟨f-1,X⟩;obtain⟨a1,a2,a3⟩:=NP hs;obtain⟨b1,b2,b3⟩:=NP a3;rw[Fu,Ag X,Ag X,Ag Bg,Ag X,b2];rw[Ag Bi,fK hx d f _ _ X X b3 X];grind
def fI{s:By}{x:Y}(hx:1<=x){rest:Bs}{k:Y}{acc:Bj}:∀(d f p now:Y),x+d=now->now<=20->DG s p ((BJ d [Af,Af]).flatten++rest)->2*d<=f->Fu s f p (k+1) now acc=Fu s (f-d) (p+2*d) (k+1) x acc
 |0,f,p,now,h1,_,_,_=>by grind
 |d+1,f,p,now,h1,h2,hs,hf=>by
  obtain⟨f,rfl⟩:∃g,f=g+1:=⟨f-1,X⟩;obtain⟨a1,a2,a3⟩:=NP hs;obtain⟨b1,b2,b3⟩:=NP a3;rw[Fu,Ag X,Ag X,Ag Bg,Ag X,b2];rw[Ai Z,fI hx d f _ _ X X b3 X];grind
def Yy(b c:Ar):∀d,Ajb ((BJ d [b,c]).flatten)=2*d
 |0=>rfl
 |d+1=>by simp;omega
def fH{s:By}:∀(l:Bj) (f p now:Y) (acc:Bj),(∀x∈l,1<=x/\x<=20)->1<=now/\now<=20->DG s p (HR now l)->Ajb (HR now l)<=f->Fu s f p (Ajb l) now acc=J (acc++l,p+Ajb (HR now l))
 |[],f,p,now,acc,_,_,_,_=>by
  have e:Fu s f p 0 now acc=J (acc,p):=by cases f<;>rfl
  rw[EZ,e];simp[HR]
 |x::l,f,p,now,acc,hl,hn,hs,hf=>by
  have d:=hl x Bi;unfold HR Hu at hs hf ⊢;simp only[BA,Yy,Dd]at hf;rw[Cx,Cx]at hs;have a:=hs.right;rw[Yy]at a;have h:=a.right;rw[Yy]at h;rw[Cz]
  have e:Fu s f p (Ajb l+1) now acc=Fu s (f-(x-now)-(now-x)) (p+2*(x-now)+2*(now-x)) (Ajb l+1) x acc:=by
   rcases Ua now x with q|q
   .have z:now-x=0:=X;rw[z,Nat.mul_zero,Jv,Nat.sub_zero];exact fK d.2 _ f p _ X hn.1 hs X
   .have z:x-now=0:=X;rw[z,Nat.mul_zero,Jv,Nat.sub_zero];rw[z]at a;exact fI d.1 _ f p _ X hn.2 a X
  obtain⟨m,k,j⟩:=NP h;obtain⟨g,i⟩:∃g,f-(x-now)-(now-x)=g+1:=⟨f-(x-now)-(now-x)-1,X⟩;rw[e,i,Fu,Ag X,Ag X,Ai k,fH l g _ x _ Bg d j X];simp;omega
end Bz
namespace Bz
structure Pl where
 tabs:Ae (Bj)
 picks:Bj
structure Pl.Ok(p:Pl)(n:Y):Prop where
 tabs:2<=Ajb p.tabs/\Ajb p.tabs<=6
 picks:1<=Ajb p.picks/\Ajb p.picks<=32767
 len:∀t∈p.tabs,Ajb t=n
 low:3<=n/\n<=258
 ok:∀t∈p.tabs,LOk t
 lt:∀k∈p.picks,k<Ajb p.tabs
def grpN(m:Y):Y:=(m+49)/50
def EA(l:Bj)(k:Y):Bj:=(l.drop (50*k)).take 50
def Gs(m:Y):Y:=if m<200 then 2 else if m<600 then 3 else if m<1200 then 4 else if m<2400 then 5 else 6
def Ip(t g:Bj):Y:=CV (g.map fun s=>t.getD s 0)
def KK(w:Bj):Bj:=LC 31 (w.map fun x=>max x 1)
def FF(w:Bj)(i j:Y):Prop:=max (w.getD j 0) 1<max (w.getD i 0) 1∨(max (w.getD j 0) 1=max (w.getD i 0) 1/\i<j)
instance(w:Bj)(i j:Y):Decidable (FF w i j):=by unfold FF;infer_instance
def Pv(w:Bj)(j:Y):Y:=Ajb ((BF (Ajb w)).filter fun i=>decide (FF w i j))
def Gp(w:Bj):Bj:=(BF (Ajb w)).map fun i=>if Pv w i<2 ^ (Ea (Ajb w)+1)-Ajb w then Ea (Ajb w)else Ea (Ajb w)+1
def dG(w:Bj)(i:Y):¬FF w i i:=by unfold FF;omega
def dH{w:Bj}{i j k:Y}(h:FF w i j)(a:FF w j k):FF w i k:=by unfold FF at*;omega
def qJ(w:Bj){i j:Y}(h:i≠j):FF w i j∨FF w j i:=by unfold FF;omega
structure IsOw(w:Bj)(o:Bj):Prop where
 perm:o.Perm (BF (Ajb w))
 sorted:o.Pairwise (FF w)
def IsOw.ex(w:Bj):∃o,IsOw w o:=by
 refine⟨(BF _).mergeSort fun i j=>decide (i=j∨FF w i j),TQ _ _,?_⟩
 have g:=dr (le:=fun i j=>decide (i=j∨FF w i j)) (fun a b c f d=>by
  simp at f d ⊢;rcases f with rfl|f
  .omega
  .rcases d with rfl|d
   .grind
   .exact .inr (dH f d)) (fun a b=>by
  simp;rcases NZ (a=b)with e|e
  .omega
  .rcases qJ w e with q|q
   .grind
   .grind) (BF (Ajb w))
 have h:((BF (Ajb w)).mergeSort fun i j=>decide (i=j∨FF w i j)).Nodup:=(TQ _ _).nodup_iff.2 Qc;refine HE.imp₂ ?_ g h;grind
def IsOw.rank{w o:Bj}(h:IsOw w o){p:Y}(l:p<Ajb o):Pv w o[p]=p:=by
 unfold Pv;rw[<-(h.perm.filter _).length_eq];have e:o=o.take p++o[p]::o.drop (p+1):=by rw[<-DE,HJ]
 have f:=h.sorted
 have g:∀x∈o.drop (p+1),FF w o[p] x:=fun x a=>by
  rw[e]at f;exact(Ij.1 Bg).1 x a
 have k:(o.take p).filter (fun i=>decide (FF w i o[p]))=o.take p:=WC.2 Bg
 have j:(o.drop _).filter (fun i=>decide _)=[]:=List.filter_eq_nil_iff.2 fun x a=>by
  have:=g x a;simp;exact fun q=>dG w _ (dH q this)
 have d:∀q,q=p->Ajb (o.filter _)=p:=fun q _=>by
  have:o.filter (fun i=>decide (FF w i o[p]))=(o.take p++o[p]::o.drop (p+1)).filter fun i=>decide (FF w i o[p]):=Bi;rw[this,Lf,LV,Ag (by simpa using dG w _),k,j,List.append_nil,BZ];omega
 grind
def gP{w:Bj}(K:2<=Ajb w)(I:Ajb w<=258):LOk (Gp w):=by
 have a:Ajb w≠0:=X;have E:=Nat.log2_self_le a;have D:Ajb w<2 ^ (Ea _+1):=Nat.lt_log2_self;have C:Ea _<9:=(Ub a).2 X;generalize l:Ea _=k at*;have r:Gp w=(BF (Ajb w)).map fun i=>if Pv w i<2 ^ (k+1)-Ajb w then k else k+1:=by unfold Gp;rw[l]
 refine⟨fun x G=>?_,?_⟩
 .grind
 .obtain⟨o,d⟩:=IsOw.ex w;rw[r,EO,<-VL (d.perm.map _)];have g:Ajb o=Ajb w:=by rw[d.perm.length_eq,Hp]
  have e:o.map ((fun x=>2 ^ (20-x))∘fun i=>if Pv w i<2 ^ (k+1)-Ajb w then k else k+1)=(BF (Ajb w)).map fun p=>if p<2 ^ (k+1)-Ajb w then 2 ^ (20-k)else 2 ^ (20-(k+1)):=by
   apply GZ;intro p;rcases Df p (Ajb w)with q|q
   .rw[Eh,BR X,Eh,MY q,FP,FP];show J (2 ^ (20-if Pv w _<_ then k else k+1))=_;rw[d.rank];grind
   .grind
  rw[e]
  have part:∀(A B m n:Y),m<=n->CV ((BF n).map fun p=>if p<m then A else B)=m*A+(n-m)*B:=fun A B m n=>by
   induction n with
   |zero=>
    intro h;obtain rfl:m=0:=X;simp[CV]
   |succ n ih=>
    intro h;rw[Ga,DT,Tk,LW];rcases Df n m with q|q
    .obtain rfl:m=n+1:=X;have f:(BF n).map (fun p=>if p<n+1 then A else B)=(BF n).map fun p=>if p<n then A else B:=Kj Bg
     have y:CV ((BF n).map fun p=>if p<n then A else B)=n*A:=by
      have:(BF n).map (fun p=>if p<n then A else B)=BJ n A:=by
       apply GZ;intro p;rcases Df p n with z|z
       .grind
       .grind
      rw[this];clear this f q ih h
      induction n with
      |zero=>simp[CV]
      |succ n ih=>rw[Km,Ge,ih,Qj];omega
     rw[f,y,Ai X];simp only[CV,List.foldr,Fa,Nat.zero_mul,Qj];omega
    .rw[ih q,Ag X];simp only[CV,List.foldr];rw[show n+1-m=(n-m)+1 by omega,Qj];omega
  have j:2 ^ (k+1)-Ajb w<=Ajb w:=X;rw[part _ _ _ _ j];have v:2 ^ (20-k)=2*2 ^ (20-(k+1)):=by rw[show 20-k=(20-(k+1))+1 by omega,Kt];omega
  have t:2 ^ 20=2 ^ (k+1)*2 ^ (20-(k+1)):=by rw[<-Ue];congr 1;omega
  rw[v,t];generalize 2 ^ (20-(k+1))=B;rw[<-WT,<-RV];grind
def jN{w:Bj}(h:2<=Ajb w)(g:Ajb w<=258)(f:∀x∈w,x<=2147483648):LOk (KK w)/\Ajb (KK w)=Ajb w:=by
 obtain⟨a,e⟩:=Zw 31 (w.map fun x=>max x 1) Bg Bg Bg;refine⟨⟨fun x d=>⟨a.pos x d,by have:=e x d;omega⟩,?_⟩,a.len.trans Bi⟩;rw[show KK w=LC 31 _ from Z,a.kraft Bg];simp
def Yz(w:Bj):Ajb (Gp w)=Ajb w:=by simp[Gp]
def UP{m:Y}(h:1<=m):1<=grpN m:=by unfold grpN;omega
def jX(m:Y):2<=Gs m/\Gs m<=6:=by
 unfold Gs;grind
def Hm:Bj->Bj->Bs
 |_,[]=>[]
 |l,p::ps=>BJ (l.idxOf p) Af++Aj::Hm (EF l (l.idxOf p)) ps
def planBits(p:Pl):Bs:=nb 3 (Ajb p.tabs)++(nb 15 (Ajb p.picks)++(Hm (BF (Ajb p.tabs)) p.picks++p.tabs.flatMap dShow))
def Jk(s:By)(most p:Y):Y->Y->Aw (Y×Y)
 |0,_=>Aa
 |f+1,n=>if 8*Ajb s<=p+n then Aa else if Cp s (p+n)=Aj then J (n,p+n+1)else if n=most then Aa else Jk s most p f (n+1)
def KP(s:By)(most:Y):Y->Bj->Y->Bj->Aw (Bj×Y)
 |0,_,p,acc=>J (acc,p)
 |k+1,l,p,acc=>match Jk s most p (most+1) 0 with
  |none=>Aa
  |some (j,q)=>KP s most k (EF l j) q (acc++[l.getD j 0])
def JI(s:By)(p n:Y):Aw (Bj×Y):=if 8*Ajb s<p+5 then Aa else Fu s (8*Ajb s-(p+5)) (p+5) n (num (BX s p 5)) []
noncomputable def KQ(s:By)(n:Y):Y->Y->Ae (Bj)->Aw (Ae (Bj)×Y)
 |0,p,acc=>J (acc,p)
 |k+1,p,acc=>match JI s p n with
  |none=>Aa
  |some (t,q)=>open Classical in if LOk t then KQ s n k q (acc++[t])else Aa
noncomputable def MK(s:By)(p n:Y):Aw (Pl×Y):=
 if 8*Ajb s<p+3 then Aa
 else if num (BX s p 3)<2∨6<num (BX s p 3)then Aa
 else if 8*Ajb s<p+3+15 then Aa
 else if num (BX s (p+3) 15)=0 then Aa
 else match KP s (num (BX s p 3)-1) (num (BX s (p+3) 15)) (BF (num (BX s p 3))) (p+18) []with
  |none=>Aa
  |some (picks,q)=>(KQ s n (num (BX s p 3)) q []).map fun r=>(⟨r.1,picks⟩,r.2)
def Py{s:By}{p n v:Y}(h:DG s p (nb n v))(hv:v<2 ^ n):p+n<=8*Ajb s/\num (BX s p n)=v:=by
 have d:=h.1;have a:=h.bits;rw[nb_length]at d a;exact⟨d,by rw[a,ym hv]⟩
def oB{s:By}{most p:Y}:∀(k n f:Y),DG s (p+n) (BJ k Af++[Aj])->n+k<=most->k<f->Jk s most p f n=J (n+k,p+(n+k)+1)
 |0,n,f,hs,_,hf=>by
  obtain⟨g,rfl⟩:∃g,f=g+1:=⟨f-1,X⟩;obtain⟨a1,a2,_⟩:=NP (l:=[]) (b:=Aj) (by simpa using hs);rw[Jk,Ag X,Ai a2];rfl
 |k+1,n,f,hs,hm,hf=>by
  obtain⟨g,rfl⟩:∃g,f=g+1:=⟨f-1,X⟩;obtain⟨a1,a2,a3⟩:=NP hs;rw[Jk,Ag X,Ag Bg,Ag X,oB k (n+1) g a3 X X];grind
def nJ{s:By}{most:Y}:∀(ps l:Bj) (p:Y) (acc:Bj),Ajb l=most+1->(∀x∈ps,x∈l)->DG s p (Hm l ps)->KP s most (Ajb ps) l p acc=J (acc++ps,p+Ajb (Hm l ps))
 |[],l,p,acc,_,_,_=>by simp[KP,Hm]
 |x::ps,l,p,acc,hl,hx,hs=>by
  have hm:=hx x Bi;have hlt:=Qb hm;have e0:Hm l (x::ps)=(BJ (l.idxOf x) Af++[Aj])++Hm (EF l (l.idxOf x)) ps:=by rw[Hm,Cx];rfl
  rw[e0]at hs ⊢;have g:=hs.left;have e:=hs.right;rw[BA,Cq,Dd]at e;have a:=oB (most:=most) _ 0 (most+1) X X X;rw[Fb]at a;rw[Cz,KP,a];simp only
  have d:l.getD (l.idxOf x) 0=x:=by
   rw[Ck,BR hlt];simp
  rw[d,nJ _ _ _ _ (by rw[Pg hlt];omega) (fun y f=>(SI hlt y).2 Bg) X];grind
def sL{s:By}{p:Y}{t:Bj}(h:LOk t)(g:t≠[])(a:DG s p (dShow t)):JI s p (Ajb t)=J (t,p+Ajb (dShow t)):=by
 unfold dShow at a ⊢
 have i:∃x r,t=x::r:=by
  cases t with
  |nil=>grind
  |cons x r=>simp
 obtain⟨x,r,rfl⟩:=i;simp only[List.headD_cons]at a ⊢;have f:=h.pos x Bi;obtain⟨j,e⟩:=Py a.left X;have d:=a.right;rw[nb_length]at d;unfold JI;rw[Ag X,e];have:=fH _ (8*Ajb s-(p+5)) _ x [] h.pos f d (by have:=d.1;omega);simp only[EP,BA,nb_length];grind
def nK{s:By}{n:Y}:∀(ts:Ae (Bj)) (p:Y) (acc:Ae (Bj)),(∀t∈ts,Ajb t=n/\LOk t)->1<=n->DG s p (ts.flatMap dShow)->KQ s n (Ajb ts) p acc=J (acc++ts,p+Ajb (ts.flatMap dShow))
 |[],p,acc,_,_,_=>by simp[KQ]
 |t::ts,p,acc,h,hn,hs=>by
  have ht:=h t Bi;have e:=sL ht.2 Bg hs.left;rw[ht.1]at e;rw[Cz,KQ,e];simp only;rw[Ai ht.2,nK _ _ _ Bg hn hs.right];grind
def Aea{s:By}{p n:Y}{pl:Pl}(h:pl.Ok n)(d:DG s p (planBits pl)):MK s p n=J (pl,p+Ajb (planBits pl)):=by
 unfold planBits at d ⊢;have m:=h.tabs;have o:=h.picks;obtain⟨r,l⟩:=Py d.left X;have f:=d.right;rw[nb_length]at f;obtain⟨q,k⟩:=Py f.left X;have e:=f.right;rw[nb_length]at e;have g:=e.right;have j:=nJ (most:=Ajb pl.tabs-1) _ _ (p+18) [] Bg (fun x a=>DU.2 (h.lt x a)) (show p+18=p+3+15 by omega▸e.left);have i:=nK _ _ [] (fun t a=>⟨h.len t a,h.ok t a⟩) (by have:=h.low;omega) g;unfold MK;rw[Ag X,l,Ag X,Ag X,k,Ag X,j];simp only[EP];rw[show p+18+Ajb (Hm _ _)=p+3+15+Ajb (Hm (BF (Ajb pl.tabs)) pl.picks) by omega,i];simp only[EP,FP,BA,nb_length];grind
def Ev(p:Pl)(l:Bj):Bs:=(l.zipIdx).flatMap fun x=>Lp (p.tabs.getD (p.picks.getD (x.2/50) 0) []) x.1
noncomputable def Is(tabs:Ae (Bj))(s:By)(fin:Y):Bj->Y->Bj->Aw (Bj×Y)
 |[],_,_=>Aa
 |k::ks,p,acc=>match Gl (tabs.getD k []) s fin 50 p with
  |none=>Aa
  |some (xs,q)=>if xs.getLast? =J fin then J (acc++xs,q)else Is tabs s fin ks q (acc++xs)
def MB(tabs:Ae (Bj)):Bj->Bj->Bs
 |[],_=>[]
 |k::ks,l=>(l.take 50).flatMap (Lp (tabs.getD k []))++MB tabs ks (l.drop 50)
def lP(a:Ae (Bj)):∀(ks l:Bj) (off:Y) (all:Bj),grpN (Ajb l)<=Ajb ks->all.drop off=ks->(l.zipIdx (50*off)).flatMap (fun x=>Lp (a.getD (all.getD (x.2/50) 0) []) x.1)=MB a ks l
 |[],l,off,all,h,_=>by
  have:Ajb l=0:=by unfold grpN at h;simp at h;omega
  rw[Ih this];rfl
 |k::ks,l,off,all,h,hd=>by
  have f:all.getD off 0=k:=by
   have:(all.drop off)[0]? =J k:=hd▸Z;rw[TM,Jv]at this;rw[Ck,this];rfl
  have d:all.drop (off+1)=ks:=by rw[<-Gj,hd];rfl
  have e:l=l.take 50++l.drop 50:=Bi
  conv=>lhs;rw[e]
  rw[List.zipIdx_append,IL];congr 1
  .have:∀(m:Ae _) (j:Y),j+Ajb m<=50->(m.zipIdx (50*off+j)).flatMap (fun x=>Lp (a.getD (all.getD (x.2/50) 0) []) x.1)=m.flatMap _:=fun m=>by
    induction m with
    |nil=>simp
    |cons x m ih=>
     intro j g;rw[Cz]at g;rw[WO,FZ,FZ];rw[show(50*off+j)/50=off by omega,f,show 50*off+j+1=50*off+(j+1) by omega,ih _ X]
   have:=this (l.take 50) 0 (by rw[BZ];omega);omega
  .rcases Df 50 (Ajb l)with q|q
   .have i:Ajb (l.take 50)=50:=by rw[BZ];omega
    rw[i,show 50*off+50=50*(off+1) by omega];refine lP _ _ _ _ _ ?_ d;unfold grpN at h ⊢;grind
   .rw[Le q]
    have:∀ks,MB a ks []=[]:=fun ks=>by
     induction ks with
     |nil=>rfl
     |cons k ks ih=>assumption
    rw[this];rfl
def jc{a:Ae (Bj)}{s:By}{d n:Y}(m:∀k,k<Ajb a->LOk (a.getD k [])/\Ajb (a.getD k [])=n):∀(ks l:Bj) (p:Y) (acc:Bj),(∀k∈ks,k<Ajb a)->(∀x∈l,x<n)->(∃r,l=r++[d]/\∀x∈r,x≠d)->grpN (Ajb l)<=Ajb ks->DG s p (MB a ks l)->Is a s d ks p acc=J (acc++l,p+Ajb (MB a ks l))
 |[],l,p,acc,_,_,⟨r,h,_⟩,hg,_=>by
  unfold grpN at hg;grind
 |k::ks,l,p,acc,hk,hl,⟨r,hr,hr2⟩,hg,hs=>by
  have hkk:=m k (hk k Bi);unfold MB at hs ⊢;have hmem:∀x∈l.take 50,x<Ajb (a.getD k []):=Bg
  have hin:∀y ys,l.take 50=ys++[y]->∀x∈ys,x≠d:=fun y ys t x w=>by
   have f:ys++[y]<+:r++[d]:=by rw[<-t,<-hr];grind
   have A:ys<+:r:=by
    have i:Ajb (ys++[y])<=Ajb (r++[d]):=Bg;simp only[BA,Dd]at i;have j:ys<+:r++[d]:=(List.prefix_append ys [y]).trans f;exact List.prefix_of_prefix_length_le j Bi X
   grind
  rcases Df 50 (Ajb l)with q|q
  .have o:Ajb (l.take 50)=50:=by rw[BZ];omega
   have e:=Xg hkk.1 _ 50 p hmem hin X X hs.left
   have g:(l.take 50).getLast?≠J d:=by
    intro z
    have f:l.take 50<+:r:=by
     have j:l.take 50<+:r++[d]:=by rw[<-hr];grind
     refine List.prefix_of_prefix_length_le j Bi ?_;rw[hr]at q;simp at q;omega
    grind
   have v:∃r',l.drop 50=r'++[d]/\∀x∈r',x≠d:=by
    refine⟨r.drop 50,?_,Bg⟩;rw[hr]at q ⊢;simp at q;rw[TH X]
   rw[Is,e];simp only;rw[Ag g,jc m ks (l.drop 50) _ (acc++l.take 50) Bg Bg v (by unfold grpN at hg ⊢;grind) hs.right,Cx,HJ,BA];grind
  .have C:=Dq q;have e:=Xg hkk.1 _ 50 p hmem hin Bg Bg hs.left
   have B:MB a ks (l.drop 50)=[]:=by
    rw[Le q]
    have:∀ks,MB a ks []=[]:=fun ks=>by
     induction ks with
     |nil=>rfl
     |cons k ks ih=>assumption
    exact this _
   rw[Is,e];grind
def uN{p:Pl}{n:Y}(h:p.Ok n){s:By}{at_ a:Y}{l:Bj}(hl:∀x∈l,x<n)(i:∃r,l=r++[a]/\∀x∈r,x≠a)(g:grpN (Ajb l)<=Ajb p.picks)(d:DG s at_ (Ev p l)):Is p.tabs s a p.picks at_ []=J (l,at_+Ajb (Ev p l)):=by
 have e:=lP p.tabs _ l 0 _ g (by rfl);have o:Ev p l=MB _ _ l:=e;rw[o]at d ⊢
 have j:∀k,k<Ajb p.tabs->LOk _/\Ajb (p.tabs.getD k _)=n:=fun k m=>by
  have f:p.tabs.getD k []∈p.tabs:=by rw[Ck,BR m];simp
  exact⟨h.ok _ f,h.len _ f⟩
 have:=jc j _ l _ [] h.lt hl i g d;grind
def Dj(p:Pl)(l:Bj):Y:=Ajb (planBits p)+Ajb (Ev p l)
end Bz
section
attribute [local irreducible] OW KW QW EX GW NV
open Bz
def MQ(B wb:Y)(l:Bs)(w:Ad)(h:FD w B wb l):Bn prog 137 [.pointer (J ⟨wb,0,Aa⟩)] w fun v w'=>v=U ((Ajb l:Y):H)/\w=w':=by
 obtain⟨a,f,e,d⟩:=h;refine Bw func137 Z ntmps137 (by rfl) Z ?_;refine(O 20∘Br) ?_;simp
def NW(B wb:Y)(l:Bs)(w:Ad)(h:FD w B wb l):Bn prog 136 [.pointer (J ⟨wb,0,Aa⟩)] w fun v w'=>v=Bl (pack l)/\w=w':=by
 obtain⟨e,g,f,d⟩:=h;obtain⟨A,c,rfl,_,a⟩:=d.slice;refine Bw func136 Z ntmps136 (by rfl) Z ?_;refine(O 18∘Zv (Eb a)∘O 2∘Br) ?_;simp
structure RdAt(w:Ad)(B rb:Y)(s:Bh)(p:Y):Prop where
 ex:∃sb,B<=rb/\Bk w rb 294 [.func (.func 194) #[] #[.pointer (J ⟨sb,0,Aa⟩)],U (p:H),U ((8*Ajb s:Y):H)]/\Bk w sb 9 [Bl s]
def Ja(T:Ay):Ar:=T==294
def RdAt.ext{w w':Ad}{B a:Y}{s:Bh}{p:Y}(h:RdAt w B a s p)(hx:Bf w w'):RdAt w' B a s p:=by
 obtain⟨d,g,f,e⟩:=h.ex;exact⟨d,g,f.ext hx,e.ext hx⟩
def rm(s:Bh)(i:Y):((s.getD (i/8) 0).toNat/2 ^ (7-i%8))%2=(Cp s i).toNat:=by
 unfold Cp;grind
def dY(d:Y)(s:Bh)(i:Y)(hi:i<8*Ajb s)(f:Ajb s<=140737488355328)(w:Ad)(h:Bk w d 9 [Bl s]):
 Bn prog 194 [U (i:H),.pointer (J ⟨d,0,Aa⟩)] w fun v w'=>v=.int .u64 (((Cp s i).toNat:Y):H)/\w=w':=by
 have a:i/8<Ajb s:=X;have k:=(s[i/8]).toNat_lt;have e:s.getD (i/8) 0=s[i/8]:=by rw[Ck,BR a];rfl
 have g:(s[i/8]).toNat/2 ^ (7-i%8)<=(s[i/8]).toNat:=Ox _ _;refine Bw func194 Z ntmps194 (by rfl) Z ?_;refine(O 15∘Zv (by exact PT Z Z (by show _<=64;omega))∘Zv (by exact MU (b:=1) (j:=1) (p:=2) (m:=18446744073709551615) Z Z Bc Bc Z X)∘O 2∘Br) ?_;refine⟨Av (Value.int .u64) (Av Nd ?_),Z⟩;rw[<-rm,e]
def xT(s:Bh)(at_:H)(a0:-9223372036854775808<=at_)(a1:at_<=9223372036854775807)(n:Ajb s<=140737488355328)(w:Ad):
 Bn prog 157 [Bl s,U at_] w fun v w'=>Bf w w'/\((v=.pointer Aa/\(at_<0∨((8*Ajb s:Y):H)<at_))∨(0<=at_/\at_<=((8*Ajb s:Y):H)/\∃rb,v=.pointer (J ⟨rb,0,Aa⟩)/\RdAt w' w.heap.size rb s at_.toNat)):=by
 refine Bw func157 Z ntmps157 Be Z ?_;refine(O 2) ?_;refine Ma Z Z Z Z ?_;rintro i m h f d;refine(O 8)<|Zd 7 (fun k=>?_) fun k=>?_
 .refine(O 12∘Br) ?_;grind
 .refine(O 7)<|Zi (fun j=>?_) fun j=>?_
  .refine(O 4∘Br) ?_;grind
  .obtain⟨p,rfl⟩:=EY (show 0<=at_ by omega);refine(O 3∘Zv (by exact Gf Z Z)∘O 5) ?_;refine Dz Z Z Z ?_;rintro rb l g e a;refine(O 2∘Br) ?_;refine⟨d.trans a,.inr ⟨X,X,rb,Z,⟨i,by have:=d.size;omega,e,f.ext a⟩⟩⟩
def SS(B a:Y)(s:Bh)(p:Y)(w:Ad)(h:RdAt w B a s p):Bn prog 198 [.pointer (J ⟨a,0,Aa⟩)] w fun v w'=>v=U (p:H)/\w=w':=by
 obtain⟨d,g,f,e⟩:=h.ex;refine Bw func198 Z ntmps198 (by rfl) Z ?_;refine(O 20∘Br) ?_;simp
def lp(v:Y)(b:Ar):(v*2)|||b.toNat=2*v+b.toNat:=by
 have h:b.toNat<2 ^ 1:=by cases b<;>decide
 have:=Nat.two_pow_add_eq_or_of_lt h v;grind
def IB(s:Bh)(p n:Y):Y×Y×Y:=if 8*Ajb s<p+n then(0,10,p)else(num (BX s p n),0,p+n)
def MM(B k:Y)(s:Bh)(p n:Y)(W:n<=64)(V:p<=8*Ajb s)(N:Ajb s<=140737488355328)(w:Ad)(h:RdAt w B k s p):
 Bn prog 158 [.pointer (J ⟨k,0,Aa⟩),U (n:H)] w fun v w'=>v=.tuple #[.int .u64 (((IB s p n).1:Y):H),U (((IB s p n).2.1:Y):H)]/\RdAt w' B k s (IB s p n).2.2/\Tm w w' B Ja:=by
 obtain⟨E,K,g,I⟩:=h.ex;refine Bw func158 Z ntmps158 Be Z ?_;refine(O 15) ?_;refine OW.val Z Z (by first|exact cC underlying292 Z Z|exact EX.eqlF0 underlying292 Z Z)<|(O 10∘IQ 19∘O 4∘Cb 22∘O 9∘Zq (by exact fun _=>Bp (g.drewN _))∘O 3∘Zq (by exact fun _=>Bp (g.drewN _))∘O 2∘QW.nil) fun l=>Zi (fun t=>?_) fun t=>?_
 .have e:IB s p n=(0,10,p):=Ai X;refine(O 5∘BG) ?_;rw[e];exact⟨Z,h.ext (Bf.drewN w l),Tm.Agk (Bf.drewN w l) _ _⟩
 .have e:IB s p n=(num (BX s p n),0,p+n):=Ag X;have j:=Bf.drewN w l;generalize w.drewN l=w0 at j;refine(O 12)<|Lo (fun((i,v,wr):Y×Y×Ad)=>(i<=n/\v=num (BX s p i)/\Bf w wr,[(0,.pointer (J ⟨k,0,Aa⟩)),(1,U n),(6,.int .u64 v),(34,U n),(35,U i)],wr,n-i)) (0,0,w0) ?_ ?_
  .exact⟨BE _,Z,j⟩
  .rintro⟨i,v,wr⟩⟨hi,r,a⟩;refine(O 5)<|Zi (fun y=>?_) fun y=>?_
   .have f:=(g.ext a).drew;have C:=(I.ext a).drew;have q:=Pm (BX s p i);rw[Sg,<-r]at q;have Q:2 ^ i<=2 ^ 63:=Gb Bc X;have S:(2:Y) ^ 63=9223372036854775808:=by decide
    have P:=PN (Cp s (p+i));have o:num (BX s p (i+1))=2*v+(Cp s (p+i)).toNat:=by rw[rn,ZK,r]
    refine(O 8∘Yr 15 (fun w'=>Bf wr w') (Bf.drew wr)) fun G=>(Gv [0]∘Yw 1 (he:=fun _ _=>by first|exact Ho (s:=1) (p:=2) (m:=18446744073709551615) Z Z Bc Bc Z X|exact IH (s:=1) (p:=2) (m:=18446744073709551616) Z Z Bc Bc Z Bc)∘Gv [2,3,4]∘Yw 5 (he:=by exact fun _ d=>Bp ((g.ext a).ext d))∘Gv [6,7,8]∘Yw 9 (he:=by exact fun _ d=>Bp ((g.ext a).ext d))∘Gv [10,11]) ?_;refine GY 12 Z Be Z Z Z Z Z (dY E s (p+i) X N wr.drew C) ?_;rintro _ _⟨rfl,rfl⟩;refine⟨G,fun G=>?_⟩;refine(Yw 13 (he:=by exact fun _ _=>Oh (m:=18446744073709551615) Z Z Z X)∘Gv [14]∘Yd∘O 5∘Cs 6 (.int .u64 ((num (BX s p (i+1)):Y):H)) (e:=by exact Av (Value.int .u64) (Av Nd ((lp v _).trans o.symm))))<|Lb ((i+1),(num (BX s p (i+1))),wr.drew) ?_;exact⟨X,Z,a.trans (Bf.drew wr)⟩
   .obtain rfl:i=n:=X;have f:=g.ext a;refine(O 11∘Zt f) ?_;rintro L A x;refine(O 7∘BG) ?_;rw[e,r];have D:Tm wr L B Ja:=(Tm.set f x K).mono fun T hT=>by assumption
    exact⟨Z,⟨E,K,A,D.bk (I.ext a) Bc⟩,(Tm.Agk a _ _).trans D⟩
def Afd(B l:Y)(s:Bh)(p most:Y)(hm:most<=1000000)(hp:p<=8*Ajb s)(hs:Ajb s<=140737488355328)(w:Ad)(h:RdAt w B l s p):
 Bn prog 200 [.pointer (J ⟨l,0,Aa⟩),U (most:H)] w fun v w'=>((∃k q,Jk s most p (most+1) 0=J (k,q)/\k<=most/\q<=8*Ajb s/\v=.tuple #[U (k:H),U ((0:Y):H)]/\RdAt w' B l s q)∨(Jk s most p (most+1) 0=Aa/\∃e:Y,1<=e/\e<=400/\v=.tuple #[U ((0:Y):H),U (e:H)]/\RdAt w' B l s p))/\Tm w w' B Ja:=by
 obtain⟨P,V,L,K⟩:=h.ex;refine Bw func200 Z ntmps200 Be Z ?_;refine(O 15) ?_;refine OW.val Z Z (by first|exact cC underlying292 Z Z|exact EX.eqlF0 underlying292 Z Z)<|(O 10)<|Zi (fun m=>?_) fun m=>?_
 .omega
 .refine(O 7)<|Lo (fun((n,wr):Y×Ad)=>(n<=most/\Jk s most p (most+1-n) n=Jk s most p (most+1) 0/\Bf w wr,[(0,.pointer (J ⟨l,0,Aa⟩)),(1,U most),(6,U n)],wr,most+1-n)) (0,w) ?_ ?_
  .exact⟨BE _,Z,Bf.refl _⟩
  .rintro⟨n,wr⟩⟨hn,i,y⟩;obtain⟨f,hf⟩:∃f,most+1-n=f+1:=⟨most-n,X⟩;have D:f=most+1-(n+1):=X;rw[hf,Jk]at i;have t:=L.ext y;have af:=K.ext y;refine(O 6∘Zq (by exact fun _=>Bp (t.drewN _))∘O 5∘Zq (by exact fun _=>Bp (t.drewN _))∘O 1∘QW.nil) fun Q=>?_;have g:=y.trans (Bf.drewN wr Q);generalize wr.drewN Q=w1 at g;refine Zi (fun C=>?_) fun C=>?_
   .have x:=L.ext g;have I:=K.ext g;rw[Ag X]at i;refine(O 5∘Yr 12 (fun w'=>Bf w1 w') (Bf.drew w1)) fun S=>(Gv [0,1,2]∘Yw 3 (he:=by exact fun _ j=>Bp (x.ext j))∘Gv [4,5,6]∘Yw 7 (he:=by exact fun _ j=>Bp (x.ext j))∘Gv [8,9]) ?_;refine GY 10 Z Be Z Z Z Z Z (dY P s (p+n) X hs w1.drew I.drew) ?_;rintro _ _⟨rfl,rfl⟩;refine⟨S,fun S=>?_⟩;refine(Gv [11]∘Yd) ?_;have d:=g.trans (Bf.drew w1);generalize w1.drew=w2 at d;have r:=L.ext d;have G:=K.ext d;have o:(Cp s (p+n)).toNat=0↔Cp s (p+n)=Aj:=by cases Cp s (p+n)<;>simp
    refine Zi (fun E=>?_) fun E=>?_
    .rw[Ai (o.1 E)]at i;refine(O 11∘Zt r) ?_;rintro W ab A;refine(O 7∘BG) ?_;have N:Tm w2 W B Ja:=(Tm.set r A V).mono fun T hT=>by assumption
     refine⟨.inl ⟨n,p+n+1,i.symm,hn,X,Z,⟨P,V,?_,N.bk G Bc⟩⟩,(Tm.Agk d _ _).trans N⟩;grind
    .rw[Ag (fun z=>E (o.2 z))]at i;refine(O 7)<|Zi (fun a=>?_) fun a=>?_
     .rw[Ai a]at i;refine(O 5∘BG) ?_;exact⟨.inr ⟨i.symm,3,Bc,Bc,Z,h.ext d⟩,Tm.Agk d _ _⟩
     .rw[Ag a,D]at i;refine(O 7)<|Lb ((n+1),w2) ?_;grind
   .rw[Ai X]at i;refine(O 6∘BG) ?_;exact⟨.inr ⟨i.symm,10,Bc,Bc,Z,h.ext g⟩,Tm.Agk g _ _⟩
def Pj(s:Bh)(p:Y)(hp:p<=8*Ajb s)(hs:Ajb s<=140737488355328)(w:Ad):
 Bn prog 157 [Bl s,U (p:H)] w fun v w'=>∃rb,v=.pointer (J ⟨rb,0,Aa⟩)/\RdAt w' w.heap.size rb s p/\Bf w w':=
 (xT s (p:H) X X hs w).mono fun v w'⟨h1,h2⟩=>by
  grind
def RdAt.tm{w w':Ad}{B a C:Y}{s:Bh}{q:Y}{p:Ay->Ar}(h:RdAt w B a s q)(t:Tm w w' C p)(p1:p 294=Aj)(e:p 9=Aj):RdAt w' B a s q:=by
 obtain⟨d,i,g,f⟩:=h.ex;exact⟨d,i,t.bk g p1,t.bk f e⟩
def xO(b:Ar):nb 1 b.toNat=[b]:=by cases b<;>rfl
def SU{s:Bh}{p:Y}(h:p<8*Ajb s):IB s p 1=((Cp s p).toNat,0,p+1):=by
 unfold IB;rw[Ag X];have:num (BX s p 1)=(Cp s p).toNat:=by simp[BX,num]
 grind
def vZ(l:Bs)(h:Ajb l%8≠0):(Ft l (Ajb l/8)*2 ^ (Ajb l%8))%256=0:=by
 have a:Ft l (Ajb l/8)%2 ^ (8-Ajb l%8)=0:=by
  apply TY;intro i;rw[Nat.testBit_mod_two_pow,Nat.zero_testBit];rcases Df i (8-Ajb l%8)with q|q
  .have:=Us l (Ajb l/8) (7-i) X;grind
  .grind
 obtain⟨q,d⟩:=Nat.dvd_of_mod_eq_zero a;rw[d,Qi (2 ^ _) q,WT,<-Ue,show 8-Ajb l%8+Ajb l%8=8 by omega];simp
abbrev Ec(l:Bs):Bm:=[Bl (pack l),U ((Ajb l:Y):H)]
def ry(l:Bs)(hl:Ajb l<=1000000000)(w:Ad):Bn prog 182 [.agg (Ec l).toArray] w fun v w'=>v=.bool Af/\Bf w w':=by
 have t:=pack_length l;refine Bw func182 Z ntmps182 Be Z ?_;refine(O 2) ?_;refine Dz Z Z Z ?_;rintro x n q a g;refine(O 9∘IQ 6∘O 15)<|Zi (fun h=>?_) fun h=>?_
 .exact AI h X
 .refine(O 2) ?_;rcases Nat.decEq (Ajb l%8) 0 with h8|h8
  .have o:0<Ajb (pack l):=X;have f:Ajb (pack l)-1=Ajb l/8:=X;have k:Ajb (pack l)-1<Ajb (pack l):=X
   have r:(pack l)[Ajb (pack l)-1].toNat=Ft l (Ajb l/8):=by
    have e:=SQ (l:=l) (j:=Ajb (pack l)-1) X;rw[BR k]at e;injection e with e;rw[e,f,UInt8.toNat_ofNat',Jz (Qs _ _)]
   have d:=vZ l h8;rw[<-r]at d;refine Wy Be Be<|(O 1∘Zq (by exact fun _=>Bp (a.drewN _))∘O 1) ?_;refine QW.val Z Z (fun _=>by first|exact Ob (b:=0) Z Z|exact Oc Z Z)<|(O 1∘Zqf 25∘O 1∘Zq (by exact fun _=>Bp (a.drewN _))∘O 1∘Zq (by exact fun _=>Bp (a.drewN _))∘O 2) ?_;refine QW.val Z Z (fun _=>EW underlying9 Z Z (BR X))<|(O 1∘Zq (by exact fun _=>Bp (a.drewN _))∘O 2∘Zq (by exact fun _=>IH (s:=Ajb l%8) (p:=2 ^ (Ajb l%8)) (m:=256) Z Z Z (by show _<=8;omega) Z Bc)∘O 3∘QW.nil) fun i=>(HO 2 (e:=d)∘Br) ?_;exact⟨Z,g.trans (Bf.drewN n i)⟩
  .refine(O 2∘Zq (by exact fun _=>Bp (a.drewN _))∘O 3∘Zqa 25 (e:=h8)∘O 15∘QW.nil) fun i=>(Br) ?_;exact⟨Z,g.trans (Bf.drewN n i)⟩
abbrev Je(l:Ae Bs):Bm:=l.flatMap Ec
def Ny(a:Ae Bs)(a4:∀l∈a,Ajb l<=100000000)(hn:Ajb a<=1000000)(bf:Ajb a.flatten<=100000000)(A:Aw AC)(c C:Y)(w:Ad)(hs:Sl w C A (Je a)):
 Bn prog 135 [.slice A (Ajb a) c] w fun v w'=>v=.tuple #[.agg (Ec a.flatten).toArray,U 0]/\Bf w w':=by
 refine Bw func135 Z ntmps135 Be Z ?_;refine(O 2∘Zn) ?_;rintro B y S ba I;refine(O 4∘Zc (Pk y)) ?_;rintro _ w1⟨p,rfl,L,G⟩;refine(O 10) ?_;have x1:=I.trans G;have ab:=I.size;refine Lo (fun((i,wr):Y×Ad)=>(i<=Ajb a/\FD wr y.heap.size p (a.take i).flatten/\(∃W V,Bk wr B 226 [W,V])/\Bf w wr,[(2,.pointer (J ⟨B,0,Aa⟩)),(4,.pointer (J ⟨p,0,Aa⟩)),(11,.slice A (Ajb a) c),(12,U ((Ajb a:Y):H)),(13,U i)],wr,Ajb a-i)) (0,w1) ?_ ?_
 .exact⟨BE _,L,⟨_,_,ba.ext G⟩,x1⟩
 .rintro⟨i,wr⟩⟨hi,f,⟨W,V,Q⟩,hx⟩;refine(O 5)<|Zi (fun d=>?_) fun d=>?_
  .obtain⟨b,o,rfl,_,g⟩:=(hs.ext hx).flat (c:=2) (fun _=>rfl) Bc d;have a5:=a4 a[i] (BM d);have t:(a.take (i+1)).flatten=(a.take i).flatten++a[i]:=by rw[<-CS d,List.flatten_append,List.flatten_singleton]
   have n:(a.take i).flatten.length+Ajb a[i]<=100000000:=by
    have e:Ajb a.flatten=((a.take (i+1))++a.drop (i+1)).flatten.length:=by rw[HJ]
    rw[List.flatten_append,BA,t,BA]at e;omega
   generalize a[i]=l at g a5 t n;generalize(a.take i).flatten=pre at f t n;have bj:=pack_length l;refine(O 6∘Zv (Dr (Ec l) g)∘Zn) ?_;rintro bb w2 bh a9 E;refine(Zs a9 (hlt:=Bv _)) ?_;rintro w3 h a3;refine(O 4) ?_;replace h:Bk w3 bb 226 (Ec l):=h;have y3:Bf wr w3:=Bu E a3 E.size (fun k hk=>by simp at hk;omega);have x3:=hx.trans y3;refine(Zv (BW h)∘Zc (ry l X w3)) ?_;rintro _ w4⟨rfl,r⟩;refine(O 2) ?_;have y4:=y3.trans r;have a8:=h.ext r;refine(O 6∘Zc (Pj (pack l) 0 (BE _) X w4)) ?_;rintro _ w5⟨rb,rfl,P,q⟩;refine(O 5) ?_;have x4:=x3.trans r;have x5:=x4.trans q;have y5:=y4.trans q;have bm:=a8.ext q;refine(O 4)<|Lo (fun((j,m):Y×Ad)=>(j<=Ajb l/\FD m y.heap.size p (pre++l.take j)/\RdAt m w4.heap.size rb (pack l) j/\(∃W V,Bk m B 226 [W,V])/\Bf w m,[(2,.pointer (J ⟨B,0,Aa⟩)),(4,.pointer (J ⟨p,0,Aa⟩)),(7,.pointer (J ⟨rb,0,Aa⟩)),(11,.slice (J ⟨b,o,Aa⟩) (Ajb a) c),(12,U ((Ajb a:Y):H)),(13,U i),(25,U ((Ajb l:Y):H)),(26,U j)],m,Ajb l-j)) (0,w5) ?_ ?_
   .exact⟨BE _,by rw[Qd,List.append_nil];exact f.ext y5,P,⟨W,V,Q.ext y5⟩,x5⟩
   .rintro⟨j,m⟩⟨hj,N,af,⟨b0,b1,al⟩,D⟩;refine(O 5)<|Zi (fun x=>?_) fun x=>?_
    .have a6:j<8*Ajb (pack l):=X;have e1:=SU a6
     have T:Cp (pack l) j=l[j]:=by
      rw[dX X,Ck,BR x];rfl
     have c1:=MM w4.heap.size rb (pack l) j 1 Bc X X m af;rw[e1,T]at c1;have bn:=PN l[j];have aj:Ajb (pre++l.take j)<=1000000000:=by rw[BA,BZ];omega
     have bi:pre++l.take (j+1)=(pre++l.take j)++nb 1 (l[j]).toNat:=by rw[xO,Cx,CS x]
     refine(O 6∘Zc c1) ?_;rintro _ w6⟨rfl,ai,t6⟩;refine(O 9) ?_;have K:=N.tm t6 Bc Bc;have ao:=t6.bk al Bc;have x6:Bf w w6:=Tm.below D t6 D.size (by have:=x4.size;omega);refine(Zc (GQ y.heap.size p (pre++l.take j) (l[j]).toNat 1 X Bc X aj w6 K)) ?_;rintro _ w7⟨rfl,bc,t7⟩;refine(O 6) ?_;have x7:Bf w w7:=Tm.below x6 t7 x6.size ab;refine Lb ((j+1),w7) ?_;exact⟨X,Bg,ai.tm t7 Bc Bc,⟨b0,b1,t7.bk ao Bc⟩,x7⟩
    .obtain rfl:j=Ajb l:=X;rw[DV]at N;refine(O 6)<|Lb ((i+1),m) ?_;grind
  .obtain rfl:i=Ajb a:=X;rw[DV]at f;refine(O 4∘Zc (NW y.heap.size p _ wr f)) ?_;rintro _ _⟨rfl,rfl⟩;refine(O 1∘Zc (MQ y.heap.size p _ wr f)) ?_;rintro _ _⟨rfl,rfl⟩;refine(O 1∘Zs Q (hlt:=Bv 2)) ?_;rintro w8 a7 a2;refine(O 2∘DA a7) ?_;have bl:w.heap.size<=B:=S;exact⟨Z,Bu hx a2 hx.size (fun k hk=>by simp at hk;omega)⟩
def Pw{s:Bh}{i:Y}(hi:i<Ajb s):s.drop i=s[i]::s.drop (i+1):=DE hi
def Abf{s:Bh}{b:AH}{m k:Y}(hk:k<Ajb s)(a:s[k]=b):FL b (m+1) (s.drop k)=FL b m (s.drop (k+1))+1:=by
 rw[Pw hk,FL,Ai a]
def Abg{s:Bh}{b:AH}{m k:Y}(hk:k<Ajb s)(a:s[k]≠b):FL b m (s.drop k)=0:=by
 rw[Pw hk];cases m with
 |zero=>rfl
 |succ m=>rw[FL,Ag a]
def Abe{s:Bh}{b:AH}{m k:Y}(hk:Ajb s<=k):FL b m (s.drop k)=0:=by
 rw[Le hk];cases m<;>rfl
def Abh(b:AH)(r:Bh):FL b 0 r=0:=by rfl
def mI(s:Bh)(i:Y)(hi:i<Ajb s)(o:Ajb s<=140737488355328)(w:Ad):
 Bn prog 225 [Bl s,U (i:H)] w fun v w'=>v=U ((DD (s.drop i):Y):H)/\Bf w w':=by
 have f:1+FL s[i] (255-1) (s.drop (i+1))=DD (s.drop i):=by rw[Pw hi,DD]
 refine Bw func225 Z ntmps225 Be Z ?_;refine(O 10)<|Lo (fun((n,wr):Y×Ad)=>(1<=n/\n<=255/\i+n<=Ajb s/\n+FL (s[i]'hi) (255-n) (s.drop (i+n))=DD (s.drop i)/\Bf w wr,[(0,Bl (s)),(1,U i),(5,U n)],wr,255-n)) (1,w) ?_ ?_
 .exact⟨Bv _,Bi,X,f,Bf.refl _⟩
 .rintro⟨n,wr⟩⟨r,q,p,d,a⟩;refine(O 6)<|Nn 8 (fun m=>?_) fun m=>?_
  .refine(O 8)<|Nn 16 (fun l=>?_) fun l=>?_
   .have j:i+n<Ajb s:=X;refine(O 4) ?_;refine QW.val Z Z (fun _=>EW underlying9 Z Z (BR X))<|(O 2∘Zq (by exact fun _=>EW underlying9 Z Z (BR (hi)))∘O 2∘QW.nil) fun h=>Zi (fun g=>?_) fun g=>?_
    .have k:s[i+n]=s[i]:=Ll.1 g;rw[show 255-n=(254-n)+1 by omega,Abf j k]at d;refine(O 8) ?_;refine Lb ((n+1),_) ?_;exact⟨X,X,X,Bg,a.trans (Bf.drewN _ _)⟩
    .rw[Abg j (fun e=>g (Av UInt8.toNat e))]at d;refine(O 6∘Br) ?_;exact⟨Av (Value.int .i64) (Av Nd X),a.trans (Bf.drewN _ _)⟩
   .rw[Abe X]at d;refine(O 10∘QW.nil) fun h=>(O 7∘Br) ?_;exact⟨Av (Value.int .i64) (Av Nd X),a.trans (Bf.drewN _ _)⟩
  .obtain rfl:n=255:=X;rw[Fa,Abh]at d;refine(O 18∘QW.nil) fun h=>(O 7∘Br) ?_;exact⟨Av (Value.int .i64) (Av Nd X),a.trans (Bf.drewN _ _)⟩
def eF(a b:Bh):BI a++BI b=BI (a++b):=by simp[BI]
def UH{s:Bh}{i:Y}(hi:i<Ajb s):enc (s.drop i)=Bz.runT (DD (s.drop i)) s[i]++enc (s.drop (i+DD (s.drop i))):=by
 rw[Pw hi,UI,<-Pw hi,Gj]
def Abp{s:Bh}{i n:Y}(hi:i<Ajb s)(a:n<=DD (s.drop i)):(s.drop i).take (i+n-i)=BJ n s[i]:=by
 have h:=mF s[i] (s.drop (i+1));rw[<-Pw hi]at h;rw[Kr,show(s.drop i).take n=((s.drop i).take (DD (s.drop i))).take n by grind,h,List.take_replicate,Hb a]
def mE{s:Bh}{i:Y}(hi:i<Ajb s):1<=DD (s.drop i)/\DD (s.drop i)<=255/\i+DD (s.drop i)<=Ajb s:=by
 have d:=Tb (s:=s.drop i) (by simp_all);have a:=aB (s.drop i);grind
def Aan(s:Bh)(hs:Ajb s<=1000000000)(w:Ad):
 Bn prog 172 [Bl s] w fun v w'=>v=Bl (enc s)/\Bf w w':=by
 refine Bw func172 Z ntmps172 (by rfl) Z ?_;refine(O 12) ?_;refine WX (len:=0) Z Z underlying23 CE Z Z Z X X CA ?_;rintro K G j p;refine(O 8)<|Lo (fun((i,o,m,wr):Y×(Bh)×Ah×Ad)=>(i<=Ajb s/\Ajb o<=2*i/\o++enc (s.drop i)=enc s/\Bo wr w.heap.size 5 1 m (Ajb o) (BI o)/\Bf w wr,[(0,Bl (s)),(3,m),(4,U i)],wr,Ajb s-i)) (0,([]),K,G) ?_ ?_
 .exact⟨BE _,BE _,Z,j,p⟩
 .rintro⟨i,o,m,wr⟩⟨hi,T,D,g,S⟩;refine(O 8)<|Zi (fun d=>?_) fun d=>?_
  .obtain⟨P,N,L⟩:=mE d;have W:=UH d;have k:=fun n C=>Abp (n:=n) d C;refine(O 6∘Zc (mI s i d X wr)) ?_;rintro _ w2⟨rfl,l⟩;refine(O 4) ?_;generalize C:DD (s.drop i)=n at P N L W k;have x:=S.trans l;have f:=g.ext l;refine Ld (fun((u,e):Ah×Ad)=>(Bo e w.heap.size 5 1 u (Ajb (o++Bz.runT n s[i])) (BI (o++Bz.runT n s[i]))/\Bf w e,[(0,Bl (s)),(3,u),(4,U i),(5,U n)],e)) ?_ ?_
   .refine(O 4)<|Zi (fun r=>?_) fun r=>?_
    .have t:Bz.runT n s[i]=BJ n s[i]:=Ai r;have tl:=Av DZ (k n (Bv n));rw[Cq]at tl;refine(O 7∘Zv (by exact Ol underlying9 Z Z Z X)) ?_;refine HL Z Z underlying23 CE Z Bc Z Z (x) (f) (Src.Agy underlying9 _) CA X ?_;rintro y e a h _ _;refine(O 2∘Lm (y,e)) ?_;rw[t];rw[k n (Bv n)]at a;have V:Ajb (BJ n s[i])=n:=Cq;rw[V,eF]at a;grind
    .have t:Bz.runT n s[i]=BJ 4 s[i]++[BU (n-4)]:=Ag r;have tl:=Av DZ (k 4 X);rw[Cq]at tl;refine(O 7∘Zv (by exact Ol underlying9 Z Z Z X)) ?_;refine HL Z Z underlying23 CE Z Bc Z Z (x) (f) (Src.Agy underlying9 _) CA X ?_;rintro y e a h _ _;rw[k 4 X,Cq,eF]at a;have hq:(n-4)%256=n-4:=Jz X;refine(O 7∘He h a) ?_;rintro _ I E B Q _ _;refine(O 2∘Lm (I,E)) ?_;rw[t,<-Cx,Qt,show((BU (n-4)).toNat:H)=((n-4:Y):H) by simp;omega,BA,BA,Cq,Dd];grind
   .rintro⟨u,e⟩⟨a,h⟩;refine(O 7)<|Lb ((i+n),(o++Bz.runT n s[i]),u,e) ?_;have rl:=mG n s[i];grind
  .obtain rfl:i=Ajb s:=X;rw[IK,Ya,List.append_nil]at D;subst D;obtain⟨A,c,rfl,_,q⟩:=g.slice;refine(O 4∘Zv (Eb q)∘O 2∘Br) ?_;grind
def fit_s(s:Bh)(most:Y)(hm:2*Ajb s<=most)(k:most<=1000000000)(w:Ad):
 Bn prog 171 [Bl s,U (most:H)] w fun v w'=>v=U ((Ajb s:Y):H)/\Bf w w':=by
 refine Bw func171 Z ntmps171 (by rfl) Z ?_;refine(O 14)<|Lo (fun((i,u,wr):Y×Y×Ad)=>(i<=Ajb s/\u<=2*i/\Bf w wr,[(0,Bl (s)),(1,U most),(5,U u),(6,U i)],wr,Ajb s-i)) (0,0,w) ?_ ?_
 .exact⟨BE _,BE _,Bf.refl _⟩
 .rintro⟨i,u,wr⟩⟨r,p,j⟩;refine(O 8)<|Zi (fun a=>?_) fun a=>?_
  .obtain⟨h,g,f⟩:=mE a;refine(O 6∘Zc (mI s i a X wr)) ?_;rintro _ e⟨rfl,d⟩;refine(O 10) ?_;generalize q:DD (s.drop i)=n at h g f;have o:=j.trans d;refine Ld (fun(c:Y)=>(c<=2*n/\c<=5,[(0,Bl (s)),(1,U most),(5,U u),(6,U i),(7,U n),(8,U c)],e)) ?_ ?_
   .refine(O 4)<|Zi (fun m=>?_) fun m=>?_
    .refine(O 3∘Lm 5) ?_;exact⟨X,X⟩
    .refine(O 1∘Lm (min n 3)) ?_;exact⟨X,X⟩
   .rintro c⟨x,t⟩;refine(O 9)<|Zi (fun l=>?_) fun l=>?_
    .omega
    .refine(O 15)<|Lb ((i+n),(u+c),e) ?_;grind
  .obtain rfl:i=Ajb s:=X;refine(O 7∘Br) ?_;grind
def Bk.Ahd{w:Ad}{b:Y}{T:Ay}{l:Bm}(h:Bk w b T l)(o m:Y):Sl w w.heap.size (J ⟨b,o,Aa⟩) ((l.drop o).take m):=by
 refine .inr ⟨b,o,Z,h.lt,fun j u a=>?_⟩;rw[List.getElem?_take]at a;split at a
 .rw[TM]at a;exact h.cell_of a
 .grind
def sZ(same:Y)(o:Bh):dec same o []=if same=4 then([],30)else(o,0):=by rfl
def sS(same:Y)(o:Bh)(x:AH)(r:Bh):dec same o (x::r)=if same=4 then(if 262144<Ajb o+x.toNat then([],3)else dec 0 (o++BJ x.toNat (o.getLastD 0)) r)else if Ajb o=262144 then([],3)else dec (HT same o x) (o++[x]) r:=by rfl
def Aal(s:Bh)(hs:Ajb s<=1000000000)(w:Ad):
 Bn prog 209 [Bl s] w fun v w'=>v=.tuple #[Bl (dec 0 [] s).1,U (((dec 0 [] s).2:Y):H)]/\Bf w w':=by
 refine Bw func209 Z ntmps209 Be Z ?_;refine(O 8) ?_;refine Ku 0 Z Z underlying23 CE Z Z Z Z (by rfl) Bc ?_;rintro b1 w1 I a4 W;refine(O 14)<|Lo (fun((i,same,o,Q,wr):Y×Y×(Bh)×Ah×Ad)=>(i<=Ajb s/\Bz.Ends same o/\Ajb o<=262144/\dec same o (s.drop i)=dec 0 [] s/\Bo wr w.heap.size 5 1 Q (Ajb o) (BI o)/\Bf w wr,[(0,Bl (s)),(4,Q),(5,U same),(6,U i)],wr,Ajb s-i)) (0,0,([]),(.slice (J ⟨b1,0,Aa⟩) 0 0),w1) ?_ ?_
 .exact⟨BE _,Bz.Ends.zero _,BE _,Z,Bo.Agl (l:=[]) a4 I Z Bc,W⟩
 .rintro⟨i,same,o,Q,wr⟩⟨hi,K,bb,f,a,N⟩;obtain⟨q1,q2,q3⟩:=id K;refine(O 8)<|Zi (fun d=>?_) fun d=>?_
  .rw[Pw d,sS]at f;have hc:=(s[i]).toNat_lt;refine(O 9)<|Zi (fun r=>?_) fun r=>?_
   .rw[Ai r]at f;subst r;obtain⟨b,o',ho⟩:=q3;have al:o.getLastD 0=b:=by rw[ho,show BJ 4 b=BJ 3 b++[b]from Z,<-Cx,List.getLastD_concat]
    rw[al]at f;obtain⟨g,a5,rest,rfl,bj,hg,bh,bc,bf⟩:=a.blk (by rw[EQ];omega);have a6:Ajb o=Ajb o'+4:=by rw[ho,BA,Cq]
    refine(O 12)<|Zi (fun L=>?_) fun L=>?_
    .rw[Ai X]at f;refine(O 5∘BG) ?_;grind
    .rw[Ag X]at f;refine(O 7∘Gk) ?_;rintro h w2 a7 bl a8;refine(O 8) ?_;have bi:g≠h:=fun e=>by have:=hg.lt;omega
     refine Lo (fun((j,C):Y×Ad)=>(j<=(s[i]'d).toNat/\Bk C h 5 (BJ j (.int .u8 (b.toNat:H))++BJ ((s[i]'d).toNat-j) (.int .u8 0))/\Bf wr C,[(0,Bl (s)),(4,.slice (J ⟨g,0,Aa⟩) (Ajb o) a5),(5,U ((4:Y):H)),(6,U i),(7,.slice (J ⟨h,0,Aa⟩) (s[i]'d).toNat (s[i]'d).toNat),(8,U j)],C,(s[i]'d).toNat-j)) (0,w2) ?_ ?_
     .grind
     .rintro⟨j,C⟩⟨hj,y,p⟩;refine(O 8)<|Zi (fun a0=>?_) fun a0=>?_
      .have a2:=hg.ext p
       have af:((BI o++rest).drop (Ajb o-4)).take (min 4 (s[i].toNat-j))=BJ (min 4 (s[i].toNat-j)) (.int .u8 (b.toNat:H)):=by
        rw[TH (by rw[EQ];omega),TU (by rw[CM,EQ];omega),ho,BA,Cq,RW];unfold BI;rw[DT,TH Bi,Le Bi,EP,List.map_replicate,List.take_replicate];congr 1;omega
       have k:=a2.drew.Ahd (Ajb o-4) (min 4 (s[i].toNat-j));rw[af]at k;refine(O 5) ?_;have ai:Ajb (BJ (min 4 (s[i].toNat-j)) (Value.int .u8 (b.toNat:H)))=min 4 (s[i].toNat-j):=Cq;refine(Yr 12 (fun w'=>True) AB) fun hS=>(Gv [0,1,2]∘Yw 3 (he:=by exact fun _ _=>Wn underlying23 CE Z Z X)∘Gv [4,5,6,7]∘Yw 8 (he:=by exact fun _ _=>Wn underlying23 CE Z Z X)) ?_;refine Ws 9 _ Z Be Z Z underlying23 underlying23 CE Z Z (k) X (fun u hu=>by rw[dp hu];rfl) (y.drew) Bx ?_;rintro D a1 aj;refine⟨AB,fun hS=>?_⟩;refine(Gv [10,11]∘Yd∘Cs 8 (U (((j+min 4 (s[i].toNat-j)):Y):H)) (e:=by exact Av (Value.int .i64) (by rw[Cq]))) ?_;refine Lb ((j+min 4 (s[i].toNat-j)),D) ?_;have q:=Bu (p.trans (Bf.drew C)) aj (p.trans (Bf.drew C)).size Bx;refine⟨X,?_,q⟩;rw[ai,Hr Cq,List.replicate_append_replicate,<-Gj,RN Cq,List.drop_replicate,Nat.sub_sub]at a1;omega
      .obtain rfl:j=s[i].toNat:=X;rw[Fa,TS,List.append_nil]at y;have T:=N.trans p;have G:=a.ext p;refine(O 5) ?_;refine HL Z Z underlying23 CE Z Bc Z Z (T) (G) (Src.Agn underlying23 y.sl Bi (fun u hu=>by rw[dp hu];rfl) Bc) CA X ?_;rintro S P n t _ _;refine(O 12)<|Lb ((i+1),0,(o++BJ s[i].toNat b),S,P) ?_;refine⟨X,Bz.Ends.zero _,Bg,f,?_,t⟩;have e:BI (o++BJ s[i].toNat b)=BI o++BJ s[i].toNat (.int .u8 (b.toNat:H)):=by simp[BI]
       rw[e,BA,Cq];exact n
   .rw[Ag r]at f;obtain⟨A,c0,rfl,_,k⟩:=a.slice;refine(O 3)<|Ld (fun((m,D):Y×Ad)=>(m=HT same o s[i]/\Bf wr D,[(0,Bl (s)),(4,.slice A (Ajb o) c0),(5,U m),(6,U i)],D)) ?_ ?_
    .refine(O 4)<|Nn 51 (fun h0=>?_) fun h0=>?_
     .have ba:0<Ajb o:=X;obtain⟨ab,ao,rfl,_,B⟩:=k.at_ (by rw[EQ];omega);have x:o.getLast? =J o[Ajb o-1]:=by rw[dq,BR X]
      have a3:(BI o)[Ajb o-1]? =J (.int .u8 ((o[Ajb o-1]).toNat:H)):=by
       unfold BI;rw[Eh,BR X,FP]
      refine(O 2∘Zq (by exact fun _=>EW underlying9 Z Z (BR (d)))∘O 5∘Zq (by exact fun _=>Ca (B _ _ a3))∘O 2∘QW.nil) fun nq=>Zi (fun hq=>?_) fun hq=>?_
      .have a9:s[i]=o[Ajb o-1]:=Ll.1 hq
       have e:HT same o s[i]=same+1:=by
        unfold HT;rw[Ai ⟨h0,Bg⟩]
       refine(O 5∘Lm ((same+1),_)) ?_;exact⟨e.symm,Bf.drewN _ _⟩
      .have e:HT same o s[i]=1:=by
        unfold HT;rw[Ag];rintro⟨_,z⟩;rw[x]at z;injection z with z;exact hq (by rw[z])
       refine(O 3∘Lm (1,_)) ?_;exact⟨e.symm,Bf.drewN _ _⟩
     .refine(O 11∘QW.nil) fun nq=>(O 4∘Lm (1,_)) ?_;refine⟨?_,Bf.drewN _ _⟩;unfold HT;grind
    .rintro⟨m,D⟩⟨rfl,q⟩;have E:=a.ext q;have t:=N.trans q;refine(O 7)<|Zi (fun hf=>?_) fun hf=>?_
     .rw[Ai hf]at f;refine(O 5∘BG) ?_;grind
     .rw[Ag hf]at f;refine(O 6∘He t E) ?_;rintro _ S P n V _ _;refine(O 8)<|Lb ((i+1),(HT same o s[i]),(o++[s[i]]),S,P) ?_;refine⟨X,K.next r _,Bg,f,?_,V⟩;rw[Qt,BA,Dd];exact n
  .obtain rfl:i=Ajb s:=X;rw[IK,sZ]at f;obtain⟨A,c0,rfl,_,k⟩:=a.slice;refine(O 7)<|Zi (fun r=>?_) fun r=>?_
   .rw[Ai r]at f;refine(O 5∘BG) ?_;rw[<-f];exact⟨Z,N⟩
   .rw[Ag r]at f;refine(O 4∘Zv (Eb k)∘O 3∘BG) ?_;rw[<-f];exact⟨Z,N⟩
end
namespace Bz
def Ej:By->By->Prop
 |[],_=>True
 |_::_,[]=>False
 |x::a,y::b=>x.toNat<y.toNat∨(x=y/\Ej a b)
def QL:∀a:By,Ej a a
 |[]=>trivial
 |x::a=>.inr ⟨Z,QL a⟩
def UU:∀a b:By,Ej a b∨Ej b a
 |[],_=>.inl AB
 |_::_,[]=>.inr AB
 |x::a,y::b=>by
  rcases Uc x.toNat y.toNat with h|h|h
  .exact .inl (.inl h)
  .have e:=Ll.1 h;rcases UU a b with q|q
   .exact .inl (.inr ⟨e,q⟩)
   .exact .inr (.inr ⟨e.symm,q⟩)
  .exact .inr (.inl h)
def OZ:∀{a b:By},Ej a b->Ej b a->a=b
 |[],[],_,_=>rfl
 |[],_::_,_,h=>h.elim
 |_::_,[],h,_=>h.elim
 |x::a,y::b,h1,h2=>by
  rcases h1 with h1|⟨e,h1⟩
  .rcases h2 with h2|⟨e,h2⟩
   .omega
   .grind
  .subst e;rcases h2 with h2|⟨_,h2⟩
   .omega
   .rw[OZ h1 h2]
def Zg:∀{a b c:By},Ej a b->Ej b c->Ej a c
 |[],_,_,_,_=>trivial
 |_::_,[],_,h,_=>h.elim
 |_::_,_::_,[],_,h=>h.elim
 |x::a,y::b,z::c,h1,h2=>by
  rcases h1 with h1|⟨e,h1⟩
  .rcases h2 with h2|⟨e,h2⟩
   .exact .inl X
   .subst e;exact .inl h1
  .subst e;rcases h2 with h2|⟨e,h2⟩
   .exact .inl h2
   .exact .inr ⟨e,Zg h1 h2⟩
def jL:∀{a b:By} (k:Y),Ajb a=Ajb b->Ej a b->Ej (a.take k) (b.take k)
 |[],_,k,_,_=>by grind
 |_::_,[],_,h,_=>by grind
 |x::a,y::b,0,_,_=>trivial
 |x::a,y::b,k+1,hl,h=>by
  rcases h with h|⟨e,h⟩
  .exact .inl h
  .exact .inr ⟨e,jL k Bg h⟩
def aO{α:Type}(le:α->α->Prop)(d:∀a b,le a b->le b a->a=b)(refl:∀a,le a a):∀{a b:Ae α},a.Pairwise le->b.Pairwise le->a.Perm b->a=b
 |[],b,_,_,p=>(Oo.nil_eq p)
 |x::a,[],_,_,p=>by simp_all
 |x::a,y::b,ha,hb,p=>by
  have e:x=y:=by
   have g:x∈y::b:=Bg;have f:y∈x::a:=Bg;rcases List.mem_cons.1 g with e|g
   .exact e
   .rcases List.mem_cons.1 f with e|f
    .grind
    .exact d _ _ ((Ij.1 ha).1 y f) ((Ij.1 hb).1 x g)
  subst e;rw[aO _ d refl Bg Bg (Oo.cons_inv p)]
def CH(s:By)(i:Y):By:=s.drop i++s.take i
def Rb(s:By)(i:Y)(h:i<=Ajb s):Ajb (CH s i)=Ajb s:=by unfold CH;grind
def Aat(s:By):CH s 0=s:=by simp[CH]
def Rc:By->By
 |[]=>[]
 |x::a=>a++[x]
def HY(a:By):By:=match a.getLast? with
 |none=>[]
 |some x=>x::a.dropLast
def Re(a:By)(x:AH):HY (a++[x])=x::a:=by simp[HY]
def mv(a:By):HY (Rc a)=a:=by
 cases a with
 |nil=>rfl
 |cons x a=>exact Re a x
def Aau(a:By):Rc (HY a)=a:=by
 rcases TK a with h|⟨b,x,h⟩
 .rw[h];rfl
 .rw[h,List.concat_eq_append,Re];rfl
def VC(s:By){i:Y}(h:i<Ajb s):Rc (CH s i)=CH s (i+1):=by
 unfold CH;rw[DE h,Gi];show s.drop _++s.take i++[s[i]]=_;simp
def Aaq(s:By):CH s (Ajb s)=s:=by simp[CH]
def Aav(s:By){i:Y}(h:i<Ajb s):HY (CH s i)=if i=0 then CH s (Ajb s-1)else CH s (i-1):=by
 split
 .rename_i e;subst e;have:=VC s (i:=Ajb s-1) X;rw[show Ajb s-1+1=Ajb s by omega,Aaq]at this;rw[Aat,<-this,mv];grind
 .have:=VC s (i:=i-1) X;rw[show i-1+1=i by omega]at this;rw[<-this,mv]
def Ew(L:By):Bj:=(BF 256).flatMap fun b=>(BF (Ajb L)).filter fun i=>decide ((L.getD i 0).toNat=b)
def gF{α:Type}(f:α->Y)(m:Y):∀l:Ae α,(l.filter fun x=>decide (f x<m+1)).Perm ((l.filter fun x=>decide (f x<m))++l.filter fun x=>decide (f x=m))
 |[]=>.nil
 |x::l=>by
  have ih:=gF f m l;simp only[LV];rcases Uc (f x) m with h|h|h
  .rw[Ai Bg,Ai (by simpa using h),Ag Bx,Gi];simp_all
  .rw[Ai Bx,Ag Bx,Ai (by simpa using h)];exact(ih.cons x).trans List.perm_middle.symm
  .grind
def eV{α:Type}(f:α->Y)(l:Ae α):∀m,((BF m).flatMap fun b=>l.filter fun x=>decide (f x=b)).Perm (l.filter fun x=>decide (f x<m))
 |0=>by simp
 |m+1=>by
  rw[Ga,IL,List.flatMap_singleton];exact((eV f l m).append_right _).trans (gF f m l).symm
def Tj(L:By):(Ew L).Perm (BF (Ajb L)):=by
 refine(eV _ _ 256).trans ?_;rw[WC.2];intro i _;have:=(L.getD i 0).toNat_lt;grind
def Ti(L:By):Ajb (Ew L)=Ajb L:=by rw[(Tj L).length_eq,Hp]
def nu{L:By}{j:Y}(h:j<Ajb L):(Ew L).getD j 0<Ajb L:=by
 have a:j<Ajb (Ew L):=by rwa[Ti]
 rw[Ck,BR a];exact DU.1 ((Tj L).subset Bi)
def bk(P:Bj)(L:By):Y->Y->By
 |0,_=>[]
 |t+1,p=>L.getD (P.getD p 0) 0::bk P L t (P.getD p 0)
def Xn(P:Bj)(L:By):∀t p,Ajb (bk P L t p)=t
 |0,_=>rfl
 |t+1,p=>by simp[bk,Xn]
def back(L:By)(row:Y):By:=bk (Ew L) L (Ajb L) row
def Adc{R:Ae By}{L:By}{n:Y}(Q:∀r∈R,Ajb r=n)(hL:L=R.map fun r=>r.getLastD 0)(h0:0<n)(G:R.Pairwise Ej)(hp:(R.map HY).Perm R):
 ((Ew L).map fun i=>HY (R.getD i []))=R:=by
 have I:Ajb L=Ajb R:=by rw[hL,DF]
 have d:∀i,i<Ajb L->∃a x,R.getD i []=a++[x]/\L.getD i 0=x/\Ajb a+1=n:=fun i k=>by
  have g:i<Ajb R:=X;have q:=Q R[i] (BM g);rcases TK R[i]with h|⟨a,x,h⟩
  .grind
  .refine⟨a,x,Bg,?_,Bg⟩;simp_all
 apply aO Ej (fun _ _=>OZ) QL ?_ G
 .refine((Tj L).map _).trans ?_
  have e:(BF (Ajb L)).map (fun i=>HY (R.getD i []))=R.map HY:=by
   apply GZ;intro j;rcases Df j (Ajb R)with h|h
   .simp_all
   .grind
  grind
 .unfold Ew;rw[List.map_flatMap,List.pairwise_flatMap];refine⟨fun b _=>?_,?_⟩
  .refine LX.2 ?_;have V:((BF (Ajb L)).filter fun i=>decide ((L.getD i 0).toNat=b)).Pairwise _:=HE.filter _ WL;refine(List.pairwise_iff_forall_sublist.2 fun {i j} f=>?_)
   have C:i<j:=by
    have:=HE.sublist f V;simpa using this
   have k:=Kk.1 (f.subset (HI ..));have l:=Kk.1 (f.subset (FO _ (HI ..)));obtain⟨E,v,o,q,e3⟩:=d i Bg;obtain⟨K,t,m,D,W⟩:=d j Bg
   have T:v=t:=by
    have A:(L.getD i 0).toNat=b:=by simpa using k.2
    have w:(L.getD j 0).toNat=b:=by simpa using l.2
    rw[q]at A;rw[D]at w;exact Ll.1 X
   rw[o,m,Re,Re];refine .inr ⟨T,?_⟩;have g:i<Ajb R:=by have:=DU.1 k.1;omega
   have p:j<Ajb R:=by have:=DU.1 l.1;omega
   have B:Ej (E++[v]) (K++[t]):=by
    have:=Ik.1 G i j g p C;rw[Ck,BR g]at o;rw[Ck,BR p]at m;simp only[Option.getD_some]at o m;rwa[o,m]at this
   have:=jL (Ajb E) Bg B;grind
  .refine HE.imp_of_mem ?_ (WL (n:=256));intro b c _ _ S x P y N;obtain⟨i,k,rfl⟩:=Cr.1 P;obtain⟨j,l,rfl⟩:=Cr.1 N;have k:=Kk.1 k;have l:=Kk.1 l;obtain⟨E,v,o,q,e3⟩:=d i (DU.1 k.1);obtain⟨K,t,m,D,W⟩:=d j (DU.1 l.1);have A:(L.getD i 0).toNat=b:=by simpa using k.2
   have w:(L.getD j 0).toNat=c:=by simpa using l.2
   rw[q]at A;rw[D]at w;rw[o,m,Re,Re];exact .inl X
def uK(a:By):(Rc a).getLastD 0=a.headD 0:=by
 cases a with
 |nil=>rfl
 |cons x a=>simp[Rc]
def eu{R:Ae By}{L:By}{n:Y}(v:∀r∈R,Ajb r=n)(hL:L=R.map fun r=>r.getLastD 0)(h0:0<n)(l:R.Pairwise Ej)(o:(R.map HY).Perm R)(s:By)(f:Ajb s=n):
 ∀t i p,i+t=n->p<Ajb L->R.getD p []=CH s i->bk (Ew L) L t p=s.drop i
 |0,i,p,hi,_,_=>by
  rw[Le X];rfl
 |t+1,i,p,hi,hpl,hr=>by
  have hlen:Ajb L=Ajb R:=by rw[hL,DF]
  have d:=Adc v hL h0 l o;have m:=nu hpl
  have y:HY (R.getD ((Ew L).getD p 0) [])=R.getD p []:=by
   have h:((Ew L).map fun i=>HY (R.getD i []))[p]? =R[p]?:=by rw[d]
   have w:p<Ajb (Ew L):=by rwa[Ti]
   rw[Eh,BR,FP]at h;have e:(Ew L).getD p 0=(Ew L)[p]:=by rw[Ck,BR];rfl
   rw[e,Ck (i:=p),<-h];rfl
  have k:R.getD ((Ew L).getD p 0) []=Rc (CH s i):=by rw[<-hr,<-y,Aau]
  have a:i<Ajb s:=X;rw[VC s a]at k;rw[bk,eu v hL h0 l o s f t _ _ X m k,DE a];congr 1;have g:(Ew L).getD p 0<Ajb R:=X
  have j:∀q,q<Ajb R->L.getD q 0=(R.getD q []).getLastD 0:=fun q m=>by
   grind
  have x:=j _ g;rw[x,k,<-VC s a,uK];unfold CH;rw[DE a];rfl
structure IsOrd(s:By)(o:Bj):Prop where
 perm:o.Perm (BF (Ajb s))
 sorted:o.Pairwise fun i j=>Ej (CH s i) (CH s j)/\(CH s i=CH s j->i<j)
def IsOrd.one{s:By}{o g:Bj}(h:IsOrd s o)(k:IsOrd s g):o=g:=by
 refine aO (fun i j=>i=j∨(Ej _ _/\(CH s i=CH s j->i<j))) (fun a b f d=>?_) X (h.sorted.imp .inr) (k.sorted.imp .inr) (h.perm.trans k.perm.symm);rcases f with f|⟨f,m⟩
 .omega
 .rcases d with d|⟨d,l⟩
  .omega
  .have e:=OZ f d;grind
def IsOrd.lng{s:By}{o:Bj}(h:IsOrd s o):Ajb o=Ajb s:=by rw[h.perm.length_eq,Hp]
def Gd(s:By)(o:Bj):By:=o.map fun i=>s.getD ((if i=0 then Ajb s else i)-1) 0
def JS(o:Bj):Y:=o.idxOf 0
def Aar(s:By){i:Y}(h:i<Ajb s):(CH s i).getLastD 0=s.getD ((if i=0 then Ajb s else i)-1) 0:=by
 unfold CH;grind
def dS{s:By}{o:Bj}(h:IsOrd s o)(h0:s≠[]):JS o<Ajb s/\Ajb (Gd s o)=Ajb s/\back (Gd s o) (JS o)=s:=by
 have f:0<Ajb s:=Bg;have k:∀i∈o,i<Ajb s:=fun i g=>DU.1 (h.perm.subset g);have l:Ajb (Gd s o)=Ajb s:=by unfold Gd;rw[DF,h.lng]
 have n:0∈o:=h.perm.symm.subset Bg;have a:JS o<Ajb o:=Qb n;refine⟨h.lng▸a,l,?_⟩;unfold back
 have y:∀r∈o.map (CH s),Ajb r=Ajb s:=fun r w=>by
  obtain⟨i,g,rfl⟩:=Cr.1 w;exact Rb s i Bg
 have A:Gd s o=(o.map (CH s)).map fun r=>r.getLastD 0:=by
  rw[EO];exact Kj fun i g=>(Aar s (k i g)).symm
 have v:=LX.2 (h.sorted.imp fun q=>q.1)
 have x:((o.map (CH s)).map HY).Perm (o.map (CH s)):=by
  have p:=h.perm.map (CH s);refine(p.map _).trans (Oo.trans ?_ p.symm);obtain⟨m,hm⟩:∃m,Ajb s=m+1:=⟨Ajb s-1,X⟩
  have e:((BF (Ajb s)).map (CH s)).map HY=CH s m::(BF m).map (CH s):=by
   rw[EO];apply GZ;intro j;rcases Df j (Ajb s)with q|q
   .rw[Eh,MY q,FP];show J (HY _)=_;rw[Aav s q];grind
   .grind
  rw[e,hm,Ga,DT,LW];grind
 have d:(o.map (CH s)).getD (JS o) []=CH s 0:=by
  rw[Ck,Eh,BR a];have t:o.idxOf 0<Ajb o:=a;have B:o[o.idxOf 0]=0:=Bi;show CH s (o[o.idxOf 0])=_;rw[B]
 have:=eu y A f v x s Z (Ajb s) 0 _ X Bg d;grind
end Bz
namespace Bz
def jK:∀{a b:By} (c d:By),Ajb a=Ajb b->(Ej (a++c) (b++d)↔(Ej a b/\a≠b)∨(a=b/\Ej c d))
 |[],[],c,d,_=>by simp
 |[],_::_,_,_,h=>by simp at h
 |_::_,[],_,_,h=>by simp at h
 |x::a,y::b,c,d,h=>by
  have ih:=jK (a:=a) (b:=b) c d Bg;simp only[Gi,Ej,RM.injEq,ne_eq,ih];grind
def pre(s:By)(k i:Y):By:=(BF k).map fun t=>s.getD ((i+t)%Ajb s) 0
def Mz(s:By)(k i:Y):Ajb (pre s k i)=k:=by simp[pre]
def QY(s:By)(k m i:Y):pre s (k+m) i=pre s k i++pre s m ((i+k)%Ajb s):=by
 unfold pre;rw[List.range_add,DT,EO];congr 1;apply Kj;intro t _;show s.getD ((i+(k+t))%Ajb s) 0=_;congr 1;rw[Nat.mod_add_mod,Kq]
def Vo(s:By){i:Y}(h:i<Ajb s):pre s (Ajb s) i=CH s i:=by
 apply GZ;intro t;rcases Df t (Ajb s)with q|q
 .unfold pre CH;rw[Eh,MY q,FP,List.getElem?_append];split
  .rename_i a;rw[CM]at a;rw[TM,Jz X,Ck,BR X];rfl
  .rename_i a;rw[CM]at a ⊢
   have e:(i+t)%Ajb s=t-(Ajb s-i):=by
    rw[Nat.mod_eq_sub_mod X,Jz X];omega
   grind
 .rw[IN (by rwa[Mz]),IN (Rb s i X▸q)]
def Iy(a b:By):Prop:=Ej a b/\a≠b
def Zh(a b:By):Iy a b∨a=b∨Iy b a:=by
 rcases NZ (a=b)with h|h
 .grind
 .rcases UU a b with q|q
  .exact .inl ⟨q,h⟩
  .exact .inr (.inr ⟨q,fun e=>h e.symm⟩)
def xl{a:By}:¬Iy a a:=fun q=>q.2 Z
def jU{a b c:By}(h:Iy a b)(h2:Iy b c):Iy a c:=⟨Zg h.1 h2.1,fun e=>by subst e;exact h.2 (OZ h.1 h2.1)⟩
def jT{a b:By}(c d:By)(h:Ajb a=Ajb b):Iy (a++c) (b++d)↔Iy a b∨(a=b/\Iy c d):=by
 unfold Iy;rw[jK c d h];constructor
 .grind
 .rintro(q|⟨rfl,q,f⟩)
  .exact⟨.inl q,fun e=>q.2 (Wz e h)⟩
  .simp_all
structure Rk(s:By)(k:Y)(rank:Bj):Prop where
 len:Ajb rank=Ajb s
 lt:∀i j,i<Ajb s->j<Ajb s->(rank.getD i 0<rank.getD j 0↔Iy (pre s k i) (pre s k j))
def Rk.eq{s:By}{k:Y}{rank:Bj}(h:Rk s k rank){i j:Y}(hi:i<Ajb s)(a:j<Ajb s):rank.getD i 0=rank.getD j 0↔pre s k i=pre s k j:=by
 have f:=h.lt i j hi a;have d:=h.lt j i a hi;constructor
 .intro e;rcases Zh (pre s k i) (pre s k j)with q|q|q
  .grind
  .exact q
  .grind
 .grind
def Aak(s:By):Rk s 1 (s.map fun b=>b.toNat):=by
 refine⟨Bi,fun i j a d=>?_⟩
 have e:∀i,i<Ajb s->(s.map fun b=>b.toNat).getD i 0=(s.getD i 0).toNat/\pre s 1 i=[s.getD i 0]:=fun i a=>by
  refine⟨?_,?_⟩
  .grind
  .simp[pre,Jz a]
 rw[(e i a).1,(e j d).1,(e i a).2,(e j d).2];unfold Iy;simp only[Ej,and_true,ne_eq,RM.injEq];grind
def Mj(rank:Bj)(b i j:Y):H:=
 if rank.getD i 0≠rank.getD j 0 then(rank.getD i 0:H)-rank.getD j 0
 else if rank.getD ((i+b)%Ajb rank) 0≠rank.getD ((j+b)%Ajb rank) 0 then(rank.getD ((i+b)%Ajb rank) 0:H)-rank.getD ((j+b)%Ajb rank) 0
 else(i:H)-j
structure Key(s:By)(K:Y)(rank:Bj)(b:Y):Prop where
 neg:∀i j,i<Ajb s->j<Ajb s->(Mj rank b i j<0↔Iy (pre s K i) (pre s K j)∨(pre s K i=pre s K j/\i<j))
 same:∀i j,i<Ajb s->j<Ajb s->((rank.getD i 0≠rank.getD j 0∨rank.getD ((i+b)%Ajb rank) 0≠rank.getD ((j+b)%Ajb rank) 0)↔pre s K i≠pre s K j)
def Rk.key0{s:By}{k:Y}{rank:Bj}(h:Rk s k rank):Key s k rank 0:=by
 have g:∀i,i<Ajb s->(i+0)%Ajb rank=i:=fun i a=>by rw[Jv,h.len,Jz a]
 refine⟨fun i j a d=>?_,fun i j a d=>?_⟩
 .have f:=h.lt i j a d;have e:=h.eq a d;unfold Mj;grind
 .have e:=h.eq a d;grind
def Rk.key2{s:By}{k:Y}{rank:Bj}(h:Rk s k rank):Key s (k+k) rank k:=by
 have f:∀i,i<Ajb s->(i+k)%Ajb s<Ajb s:=fun i a=>Ng _ X;refine⟨fun i j a d=>?_,fun i j a d=>?_⟩
 .have n:=h.lt i j a d;have l:=h.eq a d;have m:=h.lt _ _ (f i a) (f j d);have g:=h.eq (f i a) (f j d);unfold Mj;rw[h.len,QY,QY,jT _ _ (by rw[Mz,Mz])];split
  .rename_i q;have:¬pre s k i=pre s k j:=Bg;rw[<-n];constructor
   .omega
   .rintro((z|z)|z)
    .omega
    .grind
    .exact AI (Wz z.1 (by rw[Mz,Mz])) this
  .rename_i q;have e:pre s k i=pre s k j:=Bg;split
   .rename_i o;rw[<-m,e];constructor
    .grind
    .rintro((z|z)|z)
     .grind
     .omega
     .simp_all
   .grind
 .rw[h.len,QY,QY];have l:=h.eq a d;have g:=h.eq (f i a) (f j d);constructor
  .rintro(q|q)e
   .exact q (l.2 (Wz e (by rw[Mz,Mz])))
   .exact q (g.2 (List.append_inj_right e (by rw[Mz,Mz])))
  .grind
structure Sd(s:By)(K:Y)(o:Bj):Prop where
 perm:o.Perm (BF (Ajb s))
 sorted:o.Pairwise fun i j=>Iy (pre s K i) (pre s K j)∨(pre s K i=pre s K j/\i<j)
def Sd.lng{s:By}{K:Y}{o:Bj}(h:Sd s K o):Ajb o=Ajb s:=by rw[h.perm.length_eq,Hp]
def Sd.lt{s:By}{K:Y}{o:Bj}(h:Sd s K o):∀i∈o,i<Ajb s:=fun i a=>DU.1 (h.perm.subset a)
def Sd.Aja{s:By}{K b:Y}{rank o:Bj}(hk:Key s K rank b)(d:o.Perm (BF (Ajb s)))(h:∀i j (hi:i<Ajb o) (hj:j<Ajb o),i<j->¬Mj rank b o[j] o[i]<0):Sd s K o:=by
 refine⟨d,Ik.2 fun i j hi hj a=>?_⟩;have l:=h i j hi hj a;have g:=DU.1 (d.subset (BM hi));have f:=DU.1 (d.subset (BM hj));rw[hk.neg _ _ f g]at l
 have k:=by
  have e:=d.nodup_iff.2 Qc;exact Ik.1 e i j hi hj a
 rcases Zh (pre s K o[i]) (pre s K o[j])with q|q|q
 .grind
 .grind
 .grind
def FG(s:By)(K:Y)(o:Bj):Y->Y
 |0=>0
 |k+1=>FG s K o k+if pre s K (o.getD k 0)≠pre s K (o.getD (k+1) 0)then 1 else 0
def Xz(s:By)(K:Y)(o:Bj):∀k,FG s K o k<=k
 |0=>Bv _
 |k+1=>by
  have:=Xz s K o k;unfold FG;grind
def eQ{s:By}{K:Y}{o:Bj}(h:Sd s K o)(a:Y):∀d,a+d<Ajb o->FG s K o a<=FG s K o (a+d)/\(FG s K o a<FG s K o (a+d)↔pre s K (o.getD a 0)≠pre s K (o.getD (a+d) 0))
 |0,_=>⟨Bv _,Bi⟩
 |d+1,hd=>by
  obtain⟨i1,i2⟩:=eQ h a d X
  have hs:∀i j,i<j->j<Ajb o->Ej (pre s K (o.getD i 0)) (pre s K (o.getD j 0)):=fun i j f l=>by
   have:=Ik.1 h.sorted i j X l f;rw[Ck,BR,Ck,BR];rcases this with q|q
   .exact q.1
   .show Ej (pre s K o[i]) _;rw[q.1];exact QL _
  have e:FG s K o (a+(d+1))=FG s K o (a+d)+if pre s K (o.getD (a+d) 0)≠pre s K (o.getD (a+(d+1)) 0)then 1 else 0:=rfl;have k:=hs (a+d) (a+(d+1)) X hd;rw[e];split
  .rename_i q;refine⟨X,⟨fun _ z=>?_,X⟩⟩
   have g:Ej (pre s K (o.getD a 0)) (pre s K (o.getD (a+d) 0)):=by
    rcases Jy d with z|z
    .grind
    .grind
   rw[z]at g;exact q (OZ k g|>fun e=>e)
  .grind
def Aaj{s:By}{K:Y}{o next:Bj}(h:Sd s K o)(hl:Ajb next=Ajb s)(t:∀k,k<Ajb o->next.getD (o.getD k 0) 0=FG s K o k):Rk s K next:=by
 refine⟨hl,fun i j v y=>?_⟩
 have m:∀i,i<Ajb s->∃a,a<Ajb o/\o.getD a 0=i:=fun i v=>by
  have x:i∈o:=h.perm.symm.subset Bg;obtain⟨a,p,e⟩:=Hq.1 x;grind
 obtain⟨a,p,rfl⟩:=m i v;obtain⟨b,g,rfl⟩:=m j y;rw[t a p,t b g]
 have l:∀a b,a<=b->b<Ajb o->(FG s K o a<=FG s K o b/\(FG s K o a<FG s K o b↔pre s K (o.getD a 0)≠pre s K (o.getD b 0)))/\Ej (pre s K (o.getD a 0)) (pre s K (o.getD b 0)):=fun a b f g=>by
  obtain⟨d,rfl⟩:∃d,b=a+d:=⟨b-a,X⟩;refine⟨eQ h a d g,?_⟩;rcases Jy d with z|z
  .subst z;exact QL _
  .have:=Ik.1 h.sorted a _ X g X;rw[Ck,BR X,Ck,BR g];rcases this with q|q
   .exact q.1
   .show Ej (pre s K o[a]) (pre s K o[a+d]);rw[q.1];exact QL _
 rcases Ua a b with f|f
 .obtain⟨⟨w,r⟩,n⟩:=l a b f g;rw[r];exact⟨fun q=>⟨n,q⟩,fun q=>q.2⟩
 .obtain⟨⟨w,r⟩,n⟩:=l b a f p;constructor
  .omega
  .intro q;exact AI (OZ q.1 n) q.2
def vM{s:By}{K:Y}{o:Bj}(h:Sd s K o)(v:Ajb s<=K):IsOrd s o:=by
 refine⟨h.perm,?_⟩;refine HE.imp_of_mem ?_ h.sorted;intro i j k g a;have f:=h.lt i k;have d:=h.lt j g;obtain⟨m,rfl⟩:∃m,K=Ajb s+m:=⟨K-Ajb s,X⟩;rw[QY,QY,Vo s f,Vo s d,jT _ _ (by rw[Rb s i X,Rb s j X]),Nat.add_mod_right,Nat.add_mod_right,Jz f,Jz d]at a
 have more:CH s i=CH s j->pre s m i=pre s m j:=fun e=>by
  have n:pre s (Ajb s) i=pre s (Ajb s) j:=by rw[Vo s f,Vo s d,e]
  apply Kj;intro t _;have l:(pre s (Ajb s) i)[t%Ajb s]? =(pre s (Ajb s) j)[t%Ajb s]?:=n▸Z;have r:t%Ajb s<Ajb s:=Ng _ X;unfold pre at l;simp_all
 rcases a with(q|⟨e,q⟩)|⟨e,q⟩
 .exact⟨q.1,fun e=>absurd e q.2⟩
 .exact AI (more e) q.2
 .have p:=Wz e (by rw[Rb s i X,Rb s j X]);exact⟨p▸QL _,fun _=>q⟩
end Bz
section
attribute [local irreducible] OW KW QW EX GW NV
open Bz
def Fx{k:AK}{l:Bj}{i:Y}(h:i<Ajb l):(BD k l)[i]? =J (.int k ((l.getD i 0:Y):H)):=by
 unfold BD;grind
def Sl.at2{w:Ad}{B:Y}{A:Aw AC}{xs:Bm}(h:Sl w B A xs)(hx:0<Ajb xs):∃b o,A=J ⟨b,o,Aa⟩/\b<B/\∀W,Bf w W->∀j u,xs[j]? =J u->W.cell? ⟨b,o+j,Aa⟩=J u:=by
 obtain⟨b,o,f,a,_⟩:=h.at_ hx;refine⟨b,o,f,a,fun W d=>?_⟩;obtain⟨i,g,e,_,q⟩:=(h.ext d).at_ hx;grind
def NJ(A:Aw AC)(n c by_:Y):Bm:=[.slice A n c,U (by_:H)]
def Za(A:Aw AC)(c d:Y)(rank:Bj)(i:Y)(hi:i<Ajb rank)(n:Ajb rank<=1000000000)(o:d<=1000000000)(C:Y)(w:Ad)(h:Sl w C A (BD .i64 rank)):
 Bn prog 263 [.agg (NJ A (Ajb rank) c d).toArray,U (i:H)] w fun v w'=>v=.tuple #[U ((rank.getD i 0:Y):H),U ((rank.getD ((i+d)%Ajb rank) 0:Y):H)]/\Bf w w':=by
 have g:(i+d)%Ajb rank<Ajb rank:=Ng _ X;obtain⟨q,p,rfl,_,a⟩:=h.at2 (by rw[DO];omega);refine Bw Bi Z ntmps263 Be Z ?_;refine(O 2) ?_;refine Dz Z Z Z ?_;rintro l k f j e;refine(O 6∘Zq (by exact fun _=>Bp Ce)∘O 2∘Zq (by exact fun _=>Ca (a _ (e.trans (Bf.drewN _ _)) _ _ (Fx hi)))∘O 1∘Zq (by exact fun _=>Bp Ce)∘O 2∘Zq (by exact fun _=>Bp Ce)∘O 2∘Zq (by exact fun _=>Bp Ce)∘O 3∘Zq (by exact fun _=>Ca (a _ (e.trans (Bf.drewN _ _)) _ _ (Fx g)))∘O 2∘QW.nil) fun m=>(BG) ?_;exact⟨Z,e.trans (Bf.drewN _ _)⟩
def sk(A:Aw AC)(c e:Y)(rank:Bj)(i j:Y)(hi:i<Ajb rank)(D:j<Ajb rank)(t:Ajb rank<=1000000000)(B:e<=1000000000)(hr:∀x∈rank,x<=1000000000)(C:Y)(w:Ad)(h:Sl w C A (BD .i64 rank)):
 Bn prog 265 [.agg (NJ A (Ajb rank) c e).toArray,U (i:H),U (j:H)] w fun v w'=>v=U (Mj rank e i j)/\Bf w w':=by
 have m:∀k,rank.getD k 0<=1000000000:=fun k=>by
  by_cases hk:k<Ajb rank
  .simp_all
  .grind
 have S:=m i;have Q:=m j;have P:=m ((i+e)%Ajb rank);have N:=m ((j+e)%Ajb rank);refine Bw Bi Z ntmps265 (by rfl) Z ?_;refine(O 2) ?_;refine Dz Z Z Z ?_;rintro rb w1 y l g;refine(O 4∘Zv (BW l)∘O 1∘Zc (Za A c _ _ i hi t B C _ (h.ext g))) ?_;rintro _ W⟨rfl,f⟩;refine(O 8) ?_;have q:=l.ext f;have r:=g.trans f;refine(Zv (BW q)∘O 1∘Zc (Za A c _ _ j D t B C _ (h.ext r))) ?_;rintro _ V⟨rfl,n⟩;refine(O 15) ?_;have T:=r.trans n;generalize I:rank.getD i 0=a at S;generalize G:rank.getD j 0=cc at Q;generalize p:rank.getD _ 0=b at P;generalize o:rank.getD _ 0=d at N;have E:Mj rank e i j=if a≠cc then(a:H)-cc else if b≠d then b-d else i-j:=by unfold Mj;rw[I,G,p,o]
 refine Zi (fun L=>?_) fun L=>?_
 .refine(O 7∘Br) ?_;grind
 .refine(O 7)<|Zi (fun K=>?_) fun K=>?_
  .refine(O 7∘Br) ?_;grind
  .refine(O 9∘Br) ?_;grind
end
section
attribute [local irreducible] OW KW QW EX GW NV
open Go.Sort
section
variable{α:Type}[Inhabited α]{enc:α->Ah}{cf:α->α->H}
def Jd(enc:α->Ah)(d:Ap α):Bm:=d.toList.map enc
def HZ(d:Ap α):Ajb (Jd enc d)=d.size:=by simp[Jd]
def BQ{d:Ap α}{i:Y}(h:i<d.size):(Jd enc d)[i]? =J (enc d[i]!):=by
 unfold Jd;grind
def GS(d:Ap α)(i j:Y):(swp d i j).size=d.size:=by simp[swp]
def Aax(d:Ap α)(i j:Y):((Jd enc d).set i (enc d[j]!)).set j (enc d[i]!)=Jd enc (swp d i j):=by
 unfold Jd swp;simp
structure CmpAt(w0:Ad)(g f:Y)(rv:Ah)(enc:α->Ah)(cf:α->α->H):Prop where
 call:∀W x y,Mo w0 W [g]->Bn prog f [rv,enc x,enc y] W fun v W'=>v=U (cf x y)/\Bf W W'
 one:∀x,(enc x).oneCell'=Af
 body:∃fn:Func,prog.funcs[f]? =J fn
def Bq(cf:α->α->H)(x y:α):Ar:=decide (cf x y<0)
structure RowAt(w0 w:Ad)(g:Y)(enc:α->Ah)(d:Ap α):Prop where
 bk:Bk w g 3 (Jd enc d)
 mo:Mo w0 w [g]
def RowAt.ext{w0 w w':Ad}{g:Y}{d:Ap α}(h:RowAt w0 w g enc d)(hx:Bf w w'):RowAt w0 w' g enc d:=⟨h.bk.ext hx,h.mo.trans (Mo.Agk hx _)⟩
def RowAt.swapped{w0 w3 w5 w6:Ad}{g:Y}{d:Ap α}{i j:Y}(h:RowAt w0 w3 g enc d)(m5:Mo w3 w5 [g])(m6:Mo w5 w6 [g])(hb:Bk w6 g 3 (((Jd enc d).set i (enc d[j]!)).set j (enc d[i]!))):RowAt w0 w6 g enc (swp d i j):=
 ⟨by rw[<-Aax];omega,(h.mo.trans m5).trans m6⟩
def vB(lt:α->α->Ar){a j:Y}(d:Ap α)(h:¬a<j):insInner lt a j d=d:=by
 cases j with
 |zero=>rfl
 |succ j=>rw[insInner,Ag Bg]
def vA(lt:α->α->Ar){a j:Y}(d:Ap α)(h:a<j)(e:lt d[j]! d[j-1]! =Aj):insInner lt a j d=d:=by
 obtain⟨j,rfl⟩:∃k,j=k+1:=⟨j-1,X⟩;rw[RW]at e;rw[insInner,Ag Bg]
def vz(lt:α->α->Ar){a j:Y}(d:Ap α)(h:a<j)(e:lt d[j]! d[j-1]! =Af):insInner lt a j d=insInner lt a (j-1) (swp d j (j-1)):=by
 obtain⟨j,rfl⟩:∃k,j=k+1:=⟨j-1,X⟩;rw[RW]at e ⊢;rw[insInner,Ai Bg]
def vE{r:Ad}{g f:Y}{D:Ah}(S:CmpAt r g f D enc cf)(d:Ap α)(a b:Y)(al:a<=b)(hb:b<=d.size)(hsz:d.size<=1000000000)(w:Ad)(h:RowAt r w g enc d):
 Bn prog 294 [.slice (J ⟨g,0,Aa⟩) d.size d.size,U (a:H),U (b:H),.func (.func f) #[D] #[]] w fun v w'=>v=.tuple #[]/\RowAt r w' g enc (insertionSort (Bq cf) d a b)/\(insertionSort (Bq cf) d a b).size=d.size:=by
 refine Bw func294 Z ntmps294 Be Z ?_;refine(O 7)<|Lo (fun((i,e,wr):Y×(Ap α)×Ad)=>(a+1<=i/\i<=b+1/\insOuter (Bq cf) a b i e=insertionSort (Bq cf) d a b/\e.size=d.size/\RowAt r wr g enc e,[(0,.slice (J ⟨g,0,Aa⟩) d.size d.size),(1,U a),(2,U b),(3,.func (.func f) #[D] #[]),(8,U i)],wr,b+1-i)) ((a+1),d,w) ?_ ?_
 .exact⟨Bv _,X,Z,Z,h⟩
 .rintro⟨i,e,wr⟩⟨ai,af,q,aj,hr⟩;rw[insOuter]at q;refine(O 7)<|Zi (fun y=>?_) fun y=>?_
  .rw[Ai y]at q;refine(O 9)<|Lo (fun((j,m,l):Y×(Ap α)×Ad)=>(j<=i/\insInner (Bq cf) a j m=insInner (Bq cf) a i e/\m.size=d.size/\RowAt r l g enc m,[(0,.slice (J ⟨g,0,Aa⟩) d.size d.size),(1,U a),(2,U b),(3,.func (.func f) #[D] #[]),(8,U i),(9,U j)],l,j)) (i,e,wr) ?_ ?_
   .grind
   .rintro⟨j,m,l⟩⟨hj,p,V,P⟩;have n:=P.ext (Bf.drew l);refine(O 2∘Yr 17 (fun w'=>RowAt r w' g enc m) n) fun o=>(Gv [0,1,2,3]) ?_;refine Kd 21 Z (fun I=>?_) (fun I=>?_)
    .refine(Gv [4,5,6,7]∘Yw 8 (he:=by exact fun _ C=>Bp C.bk (hi:=BQ X))∘Gv [9,10,11,12]∘Yw 13 (he:=by exact fun _ C=>Bp C.bk (hi:=BQ X))) ?_;refine GY 14 Z Be Z Z Z Z Z (S.call l.drew _ _ n.mo) ?_;rintro _ T⟨rfl,E⟩;refine⟨o.ext E,fun o=>?_⟩;refine(Gv [15,16]∘Yd) ?_;have N:=n.ext E;refine Zi (fun Q=>?_) fun Q=>?_
     .rw[vz _ _ I (AL Q)]at p;have ab:=HZ (enc:=enc) m;have k:=N.ext (Bf.drew T);have o1:=S.one m[j-1]!;have o2:=S.one m[j]!;refine(O 3)<|Lc (fun(G:Ad)=>(RowAt r G g enc (swp m j (j-1)),[(0,.slice (J ⟨g,0,Aa⟩) d.size d.size),(1,U a),(2,U b),(3,.func (.func f) #[D] #[]),(8,U i),(9,U j)],G)) ?_ ?_
      .refine(Yr 18 (fun w'=>True) AB) fun o=>(Gv [0,1,2,3,4,5,6,7,8,10,11,12])<|Ye 9 13 ?_ ?_
       .refine(Jo 9 (he:=by exact Bp k.bk (hi:=BQ X))) fun o=>(Yo 13 (he:=by exact Bp k.bk (hi:=BQ X))) fun o=>(Gv [14]∘Yt 15 k.bk) ?_;rintro W B x;refine⟨AB,fun o=>?_⟩;refine(Gv [16]∘Yt 17 B) ?_;rintro K A t;refine⟨AB,fun o=>?_⟩;refine(Yd∘Lm K) ?_;exact k.swapped x t A
       .refine(Jo 13 (he:=by exact Bp k.bk (hi:=BQ X))) fun o=>(Yo 9 (he:=by exact Bp k.bk (hi:=BQ X))) fun o=>(Gv [14]∘Yt 15 k.bk) ?_;rintro W B x;refine⟨AB,fun o=>?_⟩;refine(Gv [16]∘Yt 17 B) ?_;rintro K A t;refine⟨AB,fun o=>?_⟩;refine(Yd∘Lm K) ?_;exact k.swapped x t A
      .rintro G L;refine(O 6)<|Lb ((j-1),(swp m j (j-1)),G) ?_;exact⟨X,p,by rw[GS];omega,L⟩
     .rw[vA _ _ I (AN Q)]at p;refine(O 7)<|Lb ((i+1),m,T) ?_;grind
    .rw[vB _ _ I]at p;refine(Gv [4,5,6,7,8,9,10,11,12,13,14,15,16]∘Yd∘O 8)<|Lb ((i+1),m,l.drew) ?_;grind
  .rw[Ag y]at q;refine(O 1) ?_;refine KW.done<|HX Z ?_;grind
end
section
variable{α:Type}[Inhabited α]{enc:α->Ah}{cf:α->α->H}
def Aaf{t:Ad}{g f:Y}{y:Ah}(C:CmpAt t g f y enc cf)(d:Ap α)(a b:Y)(K:a<b)(Q:b<=d.size)(hsz:d.size<=1000000000)(w:Ad)(h:RowAt t w g enc d):
 Bn prog 298 [.slice (J ⟨g,0,Aa⟩) d.size d.size,U (a:H),U (b:H),.func (.func f) #[y] #[]] w fun v w'=>v=.tuple #[]/\RowAt t w' g enc (reverseRange d a b)/\(reverseRange d a b).size=d.size:=by
 refine Bw func298 Z ntmps298 Be Z ?_;refine(O 12)<|Lo (fun((i,j,e,wr):Y×Y×(Ap α)×Ad)=>(j<b/\reverseLoop i j e=reverseRange d a b/\e.size=d.size/\RowAt t wr g enc e,[(0,.slice (J ⟨g,0,Aa⟩) d.size d.size),(1,U a),(2,U b),(3,.func (.func f) #[y] #[]),(8,U i),(9,U j)],wr,b-i)) (a,(b-1),d,w) ?_ ?_
 .exact⟨X,Z,Z,h⟩
 .rintro⟨i,j,e,wr⟩⟨P,l,I,E⟩;rw[reverseLoop]at l;refine(O 7)<|Zi (fun p=>?_) fun p=>?_
  .rw[Ai p]at l;have N:=C.one e[j]!;have L:=C.one e[i]!;have G:=HZ (enc:=enc) e;have k:=E.ext (Bf.drew wr);refine(O 3)<|Lc (fun(x:Ad)=>(RowAt t x g enc (swp e (i) (j)),[(0,.slice (J ⟨g,0,Aa⟩) d.size d.size),(1,U a),(2,U b),(3,.func (.func f) #[y] #[]),(8,U i),(9,U j)],x)) ?_ ?_
   .refine(Yr 16 (fun w'=>True) AB) fun m=>(Gv [0,1,2,3,4,5,6,8,9,10])<|Ye 7 11 ?_ ?_
    .refine(Jo 7 (he:=by exact Bp k.bk (hi:=BQ X))) fun m=>(Yo 11 (he:=by exact Bp k.bk (hi:=BQ X))) fun m=>(Gv [12]∘Yt 13 k.bk) ?_;rintro D r o;refine⟨AB,fun m=>?_⟩;refine(Gv [14]∘Yt 15 r) ?_;rintro A q n;refine⟨AB,fun m=>?_⟩;refine(Yd∘Lm A) ?_;exact k.swapped o n q
    .refine(Jo 11 (he:=by exact Bp k.bk (hi:=BQ X))) fun m=>(Yo 7 (he:=by exact Bp k.bk (hi:=BQ X))) fun m=>(Gv [12]∘Yt 13 k.bk) ?_;rintro D r o;refine⟨AB,fun m=>?_⟩;refine(Gv [14]∘Yt 15 r) ?_;rintro A q n;refine⟨AB,fun m=>?_⟩;refine(Yd∘Lm A) ?_;exact k.swapped o n q
   .rintro x B;refine(O 12)<|Lb ((i+1),(j-1),(swp e i j),x) ?_;exact⟨X,l,by rw[GS];omega,B⟩
  .rw[Ag p]at l;refine(O 1) ?_;refine KW.done<|HX Z ?_;grind
def KH(lt:α->α->Ar)(hi first root:Y)(e:Ap α):Y:=if 2*root+1+1<hi/\lt e[first+(2*root+1)]! e[first+(2*root+1)+1]! =Af then 2*root+1+1 else 2*root+1
def vS{lt:α->α->Ar}{hi first a:Y}{e:Ap α}(h:2*a+1<hi):a<KH lt hi first a e/\KH lt hi first a e<hi:=by
 unfold KH;grind
def Aci{lt:α->α->Ar}{hi first a:Y}{e:Ap α}(h:2*a+1<hi):siftDown lt hi first a e=if lt e[first+a]! e[first+KH lt hi first a e]! =Af then siftDown lt hi first (KH lt hi first a e) (swp e (first+a) (first+KH lt hi first a e))else e:=by
 rw[siftDown,dif_neg X];unfold KH;by_cases q:2*a+1+1<hi/\lt e[first+(2*a+1)]! e[first+(2*a+1)+1]! =Af
 .grind
 .grind
def Acj{lt:α->α->Ar}{hi first a:Y}{e:Ap α}(h:hi<=2*a+1):siftDown lt hi first a e=e:=by
 rw[siftDown,AQ h]
def mU{q:Ad}{g f:Y}{C:Ah}(G:CmpAt q g f C enc cf)(N:Y)(d:Ap α)(n hi first:Y)(hN:N=d.size)(hb:first+hi<=d.size)(af:n<=hi)(hsz:d.size<=1000000000)(w:Ad)(h:RowAt q w g enc d):
 Bn prog 311 [.slice (J ⟨g,0,Aa⟩) N N,U (n:H),U (hi:H),U (first:H),.func (.func f) #[C] #[]] w fun v w'=>v=.tuple #[]/\RowAt q w' g enc (siftDown (Bq cf) hi first n d)/\(siftDown (Bq cf) hi first n d).size=d.size:=by
 subst hN;refine Bw func311 Z ntmps311 Be Z ?_;refine(O 6)<|Lo (fun((a,e,wr):Y×(Ap α)×Ad)=>(a<=hi/\siftDown (Bq cf) hi first a e=siftDown (Bq cf) hi first n d/\e.size=d.size/\RowAt q wr g enc e,[(0,.slice (J ⟨g,0,Aa⟩) d.size d.size),(1,U n),(2,U hi),(3,U first),(4,.func (.func f) #[C] #[]),(10,U a)],wr,hi-a)) (n,d,w) ?_ ?_
 .grind
 .rintro⟨a,e,wr⟩⟨ab,k,aj,hr⟩;refine(O 15)<|Zi (fun K=>?_) fun K=>?_
  .rw[Acj X]at k;refine(O 1) ?_;refine KW.done<|HX Z ?_;grind
  .have hk:=vS (lt:=Bq cf) (first:=first) (e:=e) (show 2*a+1<hi by omega);rw[Aci X]at k;have i:=hr.ext (Bf.drew wr);refine(O 3)<|Ld (fun((c,p):Y×Ad)=>(c=KH (Bq cf) hi first a e/\RowAt q p g enc e,[(0,.slice (J ⟨g,0,Aa⟩) d.size d.size),(1,U n),(2,U hi),(3,U first),(4,.func (.func f) #[C] #[]),(10,U a),(11,U c)],p)) ?_ ?_
   .refine(Yr 22 (fun w'=>RowAt q w' g enc e) i) fun l=>(Gv [0,1,2,3,4]) ?_;refine Kd 23 Z (fun T=>?_) (fun T=>?_)
    .refine(Gv [5,6,7,8,9,10]∘Yw 11 (he:=by exact fun _ j=>Bp j.bk (hi:=BQ X))∘Gv [12,13,14,15,16,17]∘Yw 18 (he:=by exact fun _ j=>Bp j.bk (hi:=BQ X))) ?_;refine GY 19 Z Be Z Z Z Z Z (G.call wr.drew _ _ i.mo) ?_;rintro _ p⟨rfl,r⟩;refine⟨l.ext r,fun l=>?_⟩;refine(Gv [20,21]∘Yd)<|Zi (fun t=>?_) fun t=>?_
     .have o:KH (Bq cf) hi first a e=2*a+1+1:=Ai ⟨T,AL t⟩;refine(O 5∘Lm ((2*a+1+1),p)) ?_;exact⟨o.symm,i.ext r⟩
     .have o:KH (Bq cf) hi first a e=2*a+1:=Ag fun z=>t (AO z.2);refine(O 1∘Lm ((2*a+1),p)) ?_;exact⟨o.symm,i.ext r⟩
    .have o:KH (Bq cf) hi first a e=2*a+1:=Ag fun z=>T z.1;refine(Gv [5,6,7,8,9,10,11,12,13,14,15,16,17,18,19,20,21]∘Yd∘O 2∘Lm ((2*a+1),_)) ?_;grind
   .rintro⟨c,p⟩⟨S,Q⟩;rw[<-S]at k hk;have m:=Q.ext (Bf.drew p);refine(O 2∘Yr 16 (fun w'=>RowAt q w' g enc e) m) fun l=>(Gv [0,1,2,3,4,5]∘Yw 6 (he:=by exact fun _ j=>Bp j.bk (hi:=BQ X))∘Gv [7,8,9,10,11]∘Yw 12 (he:=by exact fun _ j=>Bp j.bk (hi:=BQ X))) ?_;refine GY 13 Z Be Z Z Z Z Z (G.call p.drew _ _ m.mo) ?_;rintro _ W⟨rfl,D⟩;refine⟨l.ext D,fun l=>?_⟩;refine(Gv [14,15]∘Yd) ?_;have P:=m.ext D;refine Zi (fun t=>?_) fun t=>?_
    .rw[Ag (show ¬Bq cf e[first+a]! e[first+c]! =Af from fun z=>t (AO z))]at k;refine Gh<|HX Z ?_;grind
    .rw[Ai (show Bq cf e[first+a]! e[first+c]! =Af from AL (Dk.1 t))]at k;have o1:=G.one e[first+c]!;have o2:=G.one e[first+a]!;have ai:=HZ (enc:=enc) e;have i:=P.ext (Bf.drew W);refine(O 2)<|Lc (fun(E:Ad)=>(RowAt q E g enc (swp e (first+a) (first+c)),[(0,.slice (J ⟨g,0,Aa⟩) d.size d.size),(1,U n),(2,U hi),(3,U first),(4,.func (.func f) #[C] #[]),(10,U a),(11,U c)],E)) ?_ ?_
     .refine(Yr 24 (fun w'=>True) AB) fun l=>(Gv [0,1,2,3,4,5,6,7,8,9,10,11,12,14,15,16,17,18])<|Ye 13 19 ?_ ?_
      .refine(Jo 13 (he:=by exact Bp i.bk (hi:=BQ X))) fun l=>(Yo 19 (he:=by exact Bp i.bk (hi:=BQ X))) fun l=>(Gv [20]∘Yt 21 i.bk) ?_;rintro V B y;refine⟨AB,fun l=>?_⟩;refine(Gv [22]∘Yt 23 B) ?_;rintro I A x;refine⟨AB,fun l=>?_⟩;refine(Yd∘Lm I) ?_;exact i.swapped y x A
      .refine(Jo 19 (he:=by exact Bp i.bk (hi:=BQ X))) fun l=>(Yo 13 (he:=by exact Bp i.bk (hi:=BQ X))) fun l=>(Gv [20]∘Yt 21 i.bk) ?_;rintro V B y;refine⟨AB,fun l=>?_⟩;refine(Gv [22]∘Yt 23 B) ?_;rintro I A x;refine⟨AB,fun l=>?_⟩;refine(Yd∘Lm I) ?_;exact i.swapped y x A
     .rintro E L;refine(O 5)<|Lb (c,(swp e (first+a) (first+c)),E) ?_;exact⟨X,k,by rw[GS];omega,L⟩
def vj{A:Ad}{g f:Y}{C:Ah}(K:CmpAt A g f C enc cf)(N:Y)(d:Ap α)(a b:Y)(hN:N=d.size)(al:a<b)(hb:b<=d.size)(hsz:d.size<=1000000000)(w:Ad)(h:RowAt A w g enc d):
 Bn prog 295 [.slice (J ⟨g,0,Aa⟩) N N,U (a:H),U (b:H),.func (.func f) #[C] #[]] w fun v w'=>v=.tuple #[]/\RowAt A w' g enc (heapSort (Bq cf) d a b)/\(heapSort (Bq cf) d a b).size=d.size:=by
 subst hN;refine Bw func295 Z ntmps295 Be Z ?_;refine(O 25)<|Lo (fun((i,e,wr):H×(Ap α)×Ad)=>((∃k:Y,i=(k:H)-1/\k<=(b-a-1)/2+1/\heapPop (Bq cf) a (b-a) (heapBuild (Bq cf) (b-a) a k e)=heapSort (Bq cf) d a b)/\e.size=d.size/\RowAt A wr g enc e,[(0,.slice (J ⟨g,0,Aa⟩) d.size d.size),(1,U a),(2,U b),(3,.func (.func f) #[C] #[]),(8,U a),(9,U ((0:Y):H)),(10,U (((b-a):Y):H)),(11,U (i:H))],wr,(i+1).toNat)) ((((b-a-1)/2:Y):H),d,w) ?_ ?_
 .exact⟨⟨_,X,Bv _,Z⟩,Z,h⟩
 .rintro⟨i,e,wr⟩⟨⟨k,aj,hk,B⟩,T,hr⟩;refine(O 6)<|Zi (fun E=>?_) fun E=>?_
  .obtain⟨j,rfl⟩:=EY E;obtain rfl:k=j+1:=X;rw[heapBuild]at B;refine(O 9∘Zc (mU K d.size e j (b-a) a T.symm X X X wr hr)) ?_;rintro _ y⟨rfl,D,ab⟩;refine(O 7)<|Lb (((j:H)-1),(siftDown (Bq cf) (b-a) a j e),y) ?_;grind
  .obtain rfl:k=0:=X;rw[heapBuild]at B;refine(O 8)<|Lo (fun((I,m,y):H×(Ap α)×Ad)=>((∃k:Y,I=(k:H)-1/\k<=b-a/\heapPop (Bq cf) a k m=heapSort (Bq cf) d a b)/\m.size=d.size/\RowAt A y g enc m,[(0,.slice (J ⟨g,0,Aa⟩) d.size d.size),(1,U a),(2,U b),(3,.func (.func f) #[C] #[]),(8,U a),(9,U ((0:Y):H)),(12,U (I:H))],y,(I+1).toNat)) (((b-a-1:Y):H),e,wr) ?_ ?_
   .grind
   .rintro⟨I,m,y⟩⟨⟨k,V,ai,r⟩,W,D⟩;refine(O 6)<|Zi (fun n=>?_) fun n=>?_
    .obtain⟨j,rfl⟩:=EY n;obtain rfl:k=j+1:=X;rw[heapPop]at r;have o1:=K.one m[a+j]!;have o2:=K.one m[a]!;have af:=HZ (enc:=enc) m;have l:=D.ext (Bf.drew y);refine(O 4)<|Lc (fun(G:Ad)=>(RowAt A G g enc (swp m (a) (a+j)),[(0,.slice (J ⟨g,0,Aa⟩) d.size d.size),(1,U a),(2,U b),(3,.func (.func f) #[C] #[]),(8,U a),(9,U ((0:Y):H)),(12,U j)],G)) ?_ ?_
     .refine(Yr 20 (fun w'=>True) AB) fun o=>(Gv [0,1,2,3,4,5,6,7,8,9,10,12,13,14])<|Ye 11 15 ?_ ?_
      .refine(Jo 11 (he:=by exact Bp l.bk (hi:=BQ X))) fun o=>(Yo 15 (he:=by exact Bp l.bk (hi:=BQ X))) fun o=>(Gv [16]∘Yt 17 l.bk) ?_;rintro w5 x q;refine⟨AB,fun o=>?_⟩;refine(Gv [18]∘Yt 19 x) ?_;rintro L t p;refine⟨AB,fun o=>?_⟩;refine(Yd∘Lm L) ?_;exact l.swapped q p t
      .refine(Jo 15 (he:=by exact Bp l.bk (hi:=BQ X))) fun o=>(Yo 11 (he:=by exact Bp l.bk (hi:=BQ X))) fun o=>(Gv [16]∘Yt 17 l.bk) ?_;rintro w5 x q;refine⟨AB,fun o=>?_⟩;refine(Gv [18]∘Yt 19 x) ?_;rintro L t p;refine⟨AB,fun o=>?_⟩;refine(Yd∘Lm L) ?_;exact l.swapped q p t
     .rintro G S;refine(O 6∘Zc (mU K d.size (swp m a (a+j)) 0 j a (by rw[GS];omega) (by rw[GS];omega) X (by rw[GS];omega) G S)) ?_;rintro _ w8⟨rfl,Q,P⟩;refine(O 7)<|Lb (((j:H)-1),(siftDown (Bq cf) j a 0 (swp m a (a+j))),w8) ?_;exact⟨⟨j,Z,X,r⟩,P.trans (by rw[GS];omega),Q⟩
    .obtain rfl:k=0:=X;rw[heapPop]at r;refine(O 1) ?_;refine KW.done<|HX Z ?_;grind
end
section
variable{α:Type}[Inhabited α]{enc:α->Ah}{cf:α->α->H}
def aG(p:α->Ar){d:Ap α}{j i:Y}(h:i<=j)(a:p d[i]! =Af):scanUp p d j i=scanUp p d j (i+1):=by
 rw[scanUp,Ai Bg]
def Rm(p:α->Ar){d:Ap α}{j i:Y}(h:¬(i<=j/\p d[i]! =Af)):scanUp p d j i=i:=by
 rw[scanUp,Ag Bg]
def aF(p:α->Ar){d:Ap α}{j i:Y}(h:i<=j)(e:0<j)(a:p d[j]! =Af):scanDown p d i j=scanDown p d i (j-1):=by
 obtain⟨j,rfl⟩:∃k,j=k+1:=⟨j-1,X⟩;rw[scanDown,Ai Bg];rfl
def Rj(p:α->Ar){d:Ap α}{j i:Y}(h:¬(i<=j/\p d[j]! =Af)):scanDown p d i j=j:=by
 cases j with
 |zero=>rfl
 |succ j=>rw[scanDown,Ag Bg]
def yS{D:Ad}{g f:Y}{L:Ah}(hc:CmpAt D g f L enc cf)(N:Y)(d:Ap α)(a b k:Y)(hN:N=d.size)(a9:a<=k)(a4:k<b)(hb:b<=d.size)(hsz:d.size<=1000000000)(w:Ad)(h:RowAt D w g enc d):
 Bn prog 300 [.slice (J ⟨g,0,Aa⟩) N N,U (a:H),U (b:H),U (k:H),.func (.func f) #[L] #[]] w fun v w'=>v=U (((partitionEqual (Bq cf) d a b k).1:Y):H)/\RowAt D w' g enc (partitionEqual (Bq cf) d a b k).2/\(partitionEqual (Bq cf) d a b k).2.size=d.size:=by
 subst hN;refine Bw func300 Z ntmps300 Be Z ?_;have o1:=hc.one d[k]!;have o2:=hc.one d[a]!;have a0:=HZ (enc:=enc) d;have l:=h.ext (Bf.drew w);refine(O 5)<|Lc (fun(w1:Ad)=>(RowAt D w1 g enc (swp d (a) (k)),[(0,.slice (J ⟨g,0,Aa⟩) d.size d.size),(1,U a),(2,U b),(3,U k),(4,.func (.func f) #[L] #[])],w1)) ?_ ?_
 .refine(Yr 16 (fun w'=>True) AB) fun m=>(Gv [0,1,2,3,4,5,6,8,9,10])<|Ye 7 11 ?_ ?_
  .refine(Jo 7 (he:=by exact Bp l.bk (hi:=BQ X))) fun m=>(Yo 11 (he:=by exact Bp l.bk (hi:=BQ X))) fun m=>(Gv [12]∘Yt 13 l.bk) ?_;rintro w5 t q;refine⟨AB,fun m=>?_⟩;refine(Gv [14]∘Yt 15 t) ?_;rintro S r p;refine⟨AB,fun m=>?_⟩;refine(Yd∘Lm S) ?_;exact l.swapped q p r
  .refine(Jo 11 (he:=by exact Bp l.bk (hi:=BQ X))) fun m=>(Yo 7 (he:=by exact Bp l.bk (hi:=BQ X))) fun m=>(Gv [12]∘Yt 13 l.bk) ?_;rintro w5 t q;refine⟨AB,fun m=>?_⟩;refine(Gv [14]∘Yt 15 t) ?_;rintro S r p;refine⟨AB,fun m=>?_⟩;refine(Yd∘Lm S) ?_;exact l.swapped q p r
 .rintro w1 ao;have ai:=GS d a k;refine(O 11)<|Lo (fun((i,j,e,wr):Y×Y×(Ap α)×Ad)=>(a+1<=i/\i<=j+2/\j<b/\partEqLoop (Bq cf) a i j e=partitionEqual (Bq cf) d a b k/\e.size=d.size/\RowAt D wr g enc e,[(0,.slice (J ⟨g,0,Aa⟩) d.size d.size),(1,U a),(2,U b),(3,U k),(4,.func (.func f) #[L] #[]),(11,U i),(12,U j)],wr,j+1-i)) ((a+1),(b-1),(swp d a k),w1) ?_ ?_
  .exact⟨Bv _,X,X,Z,ai,ao⟩
  .rintro⟨i,j,e,wr⟩⟨a7,a6,a5,o,a8,hr⟩;rw[partEqLoop_eq]at o;have af:=scanUp_ge (fun x=>!Bq cf e[a]! x) e j i;have ab:=scanDown_le (fun x=>Bq cf e[a]! x) e (scanUp (fun x=>!Bq cf e[a]! x) e j i) j;refine(O 2)<|Lc (fun((A,w2):Y×Ad)=>(A=scanUp (fun x=>!Bq cf e[a]! x) e (j) (i)/\RowAt D w2 g enc e,[(0,.slice (J ⟨g,0,Aa⟩) d.size d.size),(1,U a),(2,U b),(3,U k),(4,.func (.func f) #[L] #[]),(11,U (((A):Y):H)),(12,U (((j):Y):H))],w2)) ?_ ?_
   .refine(O 1)<|Lo (fun((K,E):Y×Ad)=>(i<=K/\scanUp (fun x=>!Bq cf e[a]! x) e (j) (K)=scanUp (fun x=>!Bq cf e[a]! x) e (j) (i)/\RowAt D E g enc e,[(0,.slice (J ⟨g,0,Aa⟩) d.size d.size),(1,U a),(2,U b),(3,U k),(4,.func (.func f) #[L] #[]),(11,U (((K):Y):H)),(12,U (((j):Y):H))],E,j+1-K)) (i,wr) ?_ ?_
    .grind
    .rintro⟨K,E⟩⟨C,B,T⟩;have n:=T.ext (Bf.drew E);refine(O 2∘Yr 17 (fun w'=>RowAt D w' g enc e) n) fun m=>(Gv [0,1,2,3]) ?_;refine Kd 34 Z (fun W=>?_) (fun W=>?_)
     .refine(Gv [4,5,6,7]∘Yw 8 (he:=by exact fun _ y=>Bp y.bk (hi:=BQ X))∘Gv [9,10,11]∘Yw 12 (he:=by exact fun _ y=>Bp y.bk (hi:=BQ X))) ?_;refine GY 13 Z Be Z Z Z Z Z (hc.call E.drew _ _ n.mo) ?_;rintro _ v3⟨rfl,G⟩;refine⟨m.ext G,fun m=>?_⟩;refine(Gv [14,15,16]∘Yd) ?_;have I:=n.ext G;refine Zi (fun hq=>?_) fun hq=>?_
      .rw[aG (fun x=>!Bq cf e[a]! x) W (show(!decide (cf e[a]! e[K]!<0))=Af by grind)]at B;refine(O 8)<|Lb ((K+1),v3) ?_;exact⟨X,B,I⟩
      .rw[Rm (fun x=>!Bq cf e[a]! x) (fun z=>hq (fun hh=>by have z2:(!decide (cf e[a]! e[K]!<0))=Af:=z.2;grind))]at B;refine(O 1∘Lm (K,v3)) ?_;exact⟨B,I⟩
     .rw[Rm (fun x=>!Bq cf e[a]! x) (fun z=>W z.1)]at B;refine(Gv [4,5,6,7,8,9,10,11,12,13,14,15,16]∘Yd∘O 2∘Lm (K,_)) ?_;exact⟨B,n⟩
   .rintro⟨A,w2⟩⟨a2,a3⟩;rw[<-a2]at o af ab;refine(O 1)<|Lc (fun((Q,w3):Y×Ad)=>(Q=scanDown (fun x=>Bq cf e[a]! x) e (A) (j)/\RowAt D w3 g enc e,[(0,.slice (J ⟨g,0,Aa⟩) d.size d.size),(1,U a),(2,U b),(3,U k),(4,.func (.func f) #[L] #[]),(11,U (((A):Y):H)),(12,U (((Q):Y):H))],w3)) ?_ ?_
    .refine(O 1)<|Lo (fun((P,E):Y×Ad)=>(P<=j/\scanDown (fun x=>Bq cf e[a]! x) e (A) (P)=scanDown (fun x=>Bq cf e[a]! x) e (A) (j)/\RowAt D E g enc e,[(0,.slice (J ⟨g,0,Aa⟩) d.size d.size),(1,U a),(2,U b),(3,U k),(4,.func (.func f) #[L] #[]),(11,U (((A):Y):H)),(12,U (((P):Y):H))],E,P)) (j,w2) ?_ ?_
     .grind
     .rintro⟨P,E⟩⟨C,B,T⟩;have n:=T.ext (Bf.drew E);refine(O 2∘Yr 16 (fun w'=>RowAt D w' g enc e) n) fun m=>(Gv [0,1,2,3]) ?_;refine Kd 53 Z (fun W=>?_) (fun W=>?_)
      .refine(Gv [4,5,6,7]∘Yw 8 (he:=by exact fun _ y=>Bp y.bk (hi:=BQ X))∘Gv [9,10,11]∘Yw 12 (he:=by exact fun _ y=>Bp y.bk (hi:=BQ X))) ?_;refine GY 13 Z Be Z Z Z Z Z (hc.call E.drew _ _ n.mo) ?_;rintro _ v3⟨rfl,G⟩;refine⟨m.ext G,fun m=>?_⟩;refine(Gv [14,15]∘Yd) ?_;have I:=n.ext G;refine Zi (fun hq=>?_) fun hq=>?_
       .rw[aF (fun x=>Bq cf e[a]! x) W X (AL hq)]at B;refine(O 8)<|Lb ((P-1),v3) ?_;exact⟨X,B,I⟩
       .rw[Rj (fun x=>Bq cf e[a]! x) (fun z=>hq (AO z.2))]at B;refine(O 1∘Lm (P,v3)) ?_;exact⟨B,I⟩
      .rw[Rj (fun x=>Bq cf e[a]! x) (fun z=>W z.1)]at B;refine(Gv [4,5,6,7,8,9,10,11,12,13,14,15]∘Yd∘O 2∘Lm (P,_)) ?_;exact⟨B,n⟩
    .rintro⟨Q,w3⟩⟨a1,al⟩;rw[<-a1]at o ab;refine(O 7)<|Zi (fun V=>?_) fun V=>?_
     .rw[Ai V]at o;refine(O 6∘Br) ?_;grind
     .rw[Ag V]at o;have o1:=hc.one e[Q]!;have o2:=hc.one e[A]!;have a0:=HZ (enc:=enc) e;have l:=al.ext (Bf.drew w3);refine(O 2)<|Lc (fun(w7:Ad)=>(RowAt D w7 g enc (swp e (A) (Q)),[(0,.slice (J ⟨g,0,Aa⟩) d.size d.size),(1,U a),(2,U b),(3,U k),(4,.func (.func f) #[L] #[]),(11,U (((A):Y):H)),(12,U (((Q):Y):H))],w7)) ?_ ?_
      .refine(Yr 16 (fun w'=>True) AB) fun m=>(Gv [0,1,2,3,4,5,6,8,9,10])<|Ye 7 11 ?_ ?_
       .refine(Jo 7 (he:=by exact Bp l.bk (hi:=BQ X))) fun m=>(Yo 11 (he:=by exact Bp l.bk (hi:=BQ X))) fun m=>(Gv [12]∘Yt 13 l.bk) ?_;rintro w5 t q;refine⟨AB,fun m=>?_⟩;refine(Gv [14]∘Yt 15 t) ?_;rintro S r p;refine⟨AB,fun m=>?_⟩;refine(Yd∘Lm S) ?_;exact l.swapped q p r
       .refine(Jo 11 (he:=by exact Bp l.bk (hi:=BQ X))) fun m=>(Yo 7 (he:=by exact Bp l.bk (hi:=BQ X))) fun m=>(Gv [12]∘Yt 13 l.bk) ?_;rintro w5 t q;refine⟨AB,fun m=>?_⟩;refine(Gv [14]∘Yt 15 t) ?_;rintro S r p;refine⟨AB,fun m=>?_⟩;refine(Yd∘Lm S) ?_;exact l.swapped q p r
      .rintro w7 aj;refine(O 12)<|Lb ((A+1),(Q-1),(swp e A Q),w7) ?_;exact⟨X,X,X,o,by rw[GS];omega,aj⟩
def yR{K:Ad}{g f:Y}{P:Ah}(hc:CmpAt K g f P enc cf)(N:Y)(d:Ap α)(a b k:Y)(hN:N=d.size)(bx:a<=k)(bl:k<b)(hb:b<=d.size)(hsz:d.size<=1000000000)(w:Ad)(h:RowAt K w g enc d):
 Bn prog 301 [.slice (J ⟨g,0,Aa⟩) N N,U (a:H),U (b:H),U (k:H),.func (.func f) #[P] #[]] w fun v w'=>v=.tuple #[U (((partition (Bq cf) d a b k).1:Y):H),.bool (partition (Bq cf) d a b k).2.1]/\RowAt K w' g enc (partition (Bq cf) d a b k).2.2/\(partition (Bq cf) d a b k).2.2.size=d.size:=by
 subst hN;refine Bw func301 Z ntmps301 Be Z ?_;have o1:=hc.one d[k]!;have o2:=hc.one d[a]!;have ai:=HZ (enc:=enc) d;have l:=h.ext (Bf.drew w);refine(O 6)<|Lc (fun(w1:Ad)=>(RowAt K w1 g enc (swp d (a) (k)),[(0,.slice (J ⟨g,0,Aa⟩) d.size d.size),(1,U a),(2,U b),(3,U k),(4,.func (.func f) #[P] #[])],w1)) ?_ ?_
 .refine(Yr 16 (fun w'=>True) AB) fun m=>(Gv [0,1,2,3,4,5,6,8,9,10])<|Ye 7 11 ?_ ?_
  .refine(Jo 7 (he:=by exact Bp l.bk (hi:=BQ X))) fun m=>(Yo 11 (he:=by exact Bp l.bk (hi:=BQ X))) fun m=>(Gv [12]∘Yt 13 l.bk) ?_;rintro w5 t q;refine⟨AB,fun m=>?_⟩;refine(Gv [14]∘Yt 15 t) ?_;rintro D r p;refine⟨AB,fun m=>?_⟩;refine(Yd∘Lm D) ?_;exact l.swapped q p r
  .refine(Jo 11 (he:=by exact Bp l.bk (hi:=BQ X))) fun m=>(Yo 7 (he:=by exact Bp l.bk (hi:=BQ X))) fun m=>(Gv [12]∘Yt 13 l.bk) ?_;rintro w5 t q;refine⟨AB,fun m=>?_⟩;refine(Gv [14]∘Yt 15 t) ?_;rintro D r p;refine⟨AB,fun m=>?_⟩;refine(Yd∘Lm D) ?_;exact l.swapped q p r
 .rintro w1 a8;have a1:=GS d a k
  have hp:partition (Bq cf) d a b k=(if scanUp (fun x=>Bq cf x (swp d a k)[a]!) (swp d a k) (b-1) (a+1)>scanDown (fun x=>!Bq cf x (swp d a k)[a]!) (swp d a k) (scanUp (fun x=>Bq cf x (swp d a k)[a]!) (swp d a k) (b-1) (a+1)) (b-1)then(scanDown (fun x=>!Bq cf x (swp d a k)[a]!) (swp d a k) (scanUp (fun x=>Bq cf x (swp d a k)[a]!) (swp d a k) (b-1) (a+1)) (b-1),Af,swp (swp d a k) (scanDown (fun x=>!Bq cf x (swp d a k)[a]!) (swp d a k) (scanUp (fun x=>Bq cf x (swp d a k)[a]!) (swp d a k) (b-1) (a+1)) (b-1)) a)
   else((partLoop (Bq cf) a (scanUp (fun x=>Bq cf x (swp d a k)[a]!) (swp d a k) (b-1) (a+1)+1) (scanDown (fun x=>!Bq cf x (swp d a k)[a]!) (swp d a k) (scanUp (fun x=>Bq cf x (swp d a k)[a]!) (swp d a k) (b-1) (a+1)) (b-1)-1) (swp (swp d a k) (scanUp (fun x=>Bq cf x (swp d a k)[a]!) (swp d a k) (b-1) (a+1)) (scanDown (fun x=>!Bq cf x (swp d a k)[a]!) (swp d a k) (scanUp (fun x=>Bq cf x (swp d a k)[a]!) (swp d a k) (b-1) (a+1)) (b-1)))).1,Aj,swp (partLoop (Bq cf) a (scanUp (fun x=>Bq cf x (swp d a k)[a]!) (swp d a k) (b-1) (a+1)+1) (scanDown (fun x=>!Bq cf x (swp d a k)[a]!) (swp d a k) (scanUp (fun x=>Bq cf x (swp d a k)[a]!) (swp d a k) (b-1) (a+1)) (b-1)-1) (swp (swp d a k) (scanUp (fun x=>Bq cf x (swp d a k)[a]!) (swp d a k) (b-1) (a+1)) (scanDown (fun x=>!Bq cf x (swp d a k)[a]!) (swp d a k) (scanUp (fun x=>Bq cf x (swp d a k)[a]!) (swp d a k) (b-1) (a+1)) (b-1)))).2 (partLoop (Bq cf) a (scanUp (fun x=>Bq cf x (swp d a k)[a]!) (swp d a k) (b-1) (a+1)+1) (scanDown (fun x=>!Bq cf x (swp d a k)[a]!) (swp d a k) (scanUp (fun x=>Bq cf x (swp d a k)[a]!) (swp d a k) (b-1) (a+1)) (b-1)-1) (swp (swp d a k) (scanUp (fun x=>Bq cf x (swp d a k)[a]!) (swp d a k) (b-1) (a+1)) (scanDown (fun x=>!Bq cf x (swp d a k)[a]!) (swp d a k) (scanUp (fun x=>Bq cf x (swp d a k)[a]!) (swp d a k) (b-1) (a+1)) (b-1)))).1 a)):=by
   simp only[partition]
  generalize swp d a k=e at a1 hp a8;generalize partition (Bq cf) d a b k=R at hp;have aj:=scanUp_ge (fun x=>Bq cf x e[a]!) e (b-1) (a+1);have af:=scanDown_le (fun x=>!Bq cf x e[a]!) e (scanUp (fun x=>Bq cf x e[a]!) e (b-1) (a+1)) (b-1);have a3:=(scanDown_spec (fun x=>!Bq cf x e[a]!) e (scanUp (fun x=>Bq cf x e[a]!) e (b-1) (a+1)) (b-1)).2.1;have a4:=(scanUp_spec (fun x=>Bq cf x e[a]!) e (b-1) _ (a+1) Z).2.1;refine(O 10)<|Lc (fun((T,w2):Y×Ad)=>(T=scanUp (fun x=>Bq cf x e[a]!) e ((b-1)) ((a+1))/\RowAt K w2 g enc e,[(0,.slice (J ⟨g,0,Aa⟩) d.size d.size),(1,U a),(2,U b),(3,U k),(4,.func (.func f) #[P] #[]),(12,U (((T):Y):H)),(13,U ((((b-1)):Y):H))],w2)) ?_ ?_
  .refine(O 1)<|Lo (fun((S,E):Y×Ad)=>((a+1)<=S/\scanUp (fun x=>Bq cf x e[a]!) e ((b-1)) (S)=scanUp (fun x=>Bq cf x e[a]!) e ((b-1)) ((a+1))/\RowAt K E g enc e,[(0,.slice (J ⟨g,0,Aa⟩) d.size d.size),(1,U a),(2,U b),(3,U k),(4,.func (.func f) #[P] #[]),(12,U (((S):Y):H)),(13,U ((((b-1)):Y):H))],E,(b-1)+1-S)) ((a+1),w1) ?_ ?_
   .grind
   .rintro⟨S,E⟩⟨A,C,V⟩;have o:=V.ext (Bf.drew E);refine(O 2∘Yr 16 (fun w'=>RowAt K w' g enc e) o) fun m=>(Gv [0,1,2,3]) ?_;refine Kd 35 Z (fun h0=>?_) (fun h0=>?_)
    .refine(Gv [4,5,6,7]∘Yw 8 (he:=by exact fun _ B=>Bp B.bk (hi:=BQ X))∘Gv [9,10,11]∘Yw 12 (he:=by exact fun _ B=>Bp B.bk (hi:=BQ X))) ?_;refine GY 13 Z Be Z Z Z Z Z (hc.call E.drew _ _ o.mo) ?_;rintro _ v3⟨rfl,G⟩;refine⟨m.ext G,fun m=>?_⟩;refine(Gv [14,15]∘Yd) ?_;have I:=o.ext G;refine Zi (fun W=>?_) fun W=>?_
     .rw[aG (fun x=>Bq cf x e[a]!) h0 (AL W)]at C;refine(O 8)<|Lb ((S+1),v3) ?_;exact⟨X,C,I⟩
     .rw[Rm (fun x=>Bq cf x e[a]!) (fun z=>W (AO z.2))]at C;refine(O 1∘Lm (S,v3)) ?_;exact⟨C,I⟩
    .rw[Rm (fun x=>Bq cf x e[a]!) (fun z=>h0 z.1)]at C;refine(Gv [4,5,6,7,8,9,10,11,12,13,14,15]∘Yd∘O 2∘Lm (S,_)) ?_;exact⟨C,o⟩
  .rintro⟨T,w2⟩⟨bc,bj⟩;rw[<-bc]at hp aj af a3 a4;refine(O 1)<|Lc (fun((j2,w3):Y×Ad)=>(j2=scanDown (fun x=>!Bq cf x e[a]!) e (T) ((b-1))/\RowAt K w3 g enc e,[(0,.slice (J ⟨g,0,Aa⟩) d.size d.size),(1,U a),(2,U b),(3,U k),(4,.func (.func f) #[P] #[]),(12,U (((T):Y):H)),(13,U (((j2):Y):H))],w3)) ?_ ?_
   .refine(O 1)<|Lo (fun((L,E):Y×Ad)=>(L<=(b-1)/\scanDown (fun x=>!Bq cf x e[a]!) e (T) (L)=scanDown (fun x=>!Bq cf x e[a]!) e (T) ((b-1))/\RowAt K E g enc e,[(0,.slice (J ⟨g,0,Aa⟩) d.size d.size),(1,U a),(2,U b),(3,U k),(4,.func (.func f) #[P] #[]),(12,U (((T):Y):H)),(13,U (((L):Y):H))],E,L)) ((b-1),w2) ?_ ?_
    .grind
    .rintro⟨L,E⟩⟨A,C,V⟩;have o:=V.ext (Bf.drew E);refine(O 2∘Yr 17 (fun w'=>RowAt K w' g enc e) o) fun m=>(Gv [0,1,2,3]) ?_;refine Kd 53 Z (fun h0=>?_) (fun h0=>?_)
     .refine(Gv [4,5,6,7]∘Yw 8 (he:=by exact fun _ B=>Bp B.bk (hi:=BQ X))∘Gv [9,10,11]∘Yw 12 (he:=by exact fun _ B=>Bp B.bk (hi:=BQ X))) ?_;refine GY 13 Z Be Z Z Z Z Z (hc.call E.drew _ _ o.mo) ?_;rintro _ v3⟨rfl,G⟩;refine⟨m.ext G,fun m=>?_⟩;refine(Gv [14,15,16]∘Yd) ?_;have I:=o.ext G;refine Zi (fun W=>?_) fun W=>?_
      .rw[aF (fun x=>!Bq cf x e[a]!) h0 X (show(!decide (cf e[L]! e[a]!<0))=Af by rw[AN W];rfl)]at C;refine(O 8)<|Lb ((L-1),v3) ?_;exact⟨X,C,I⟩
      .rw[Rj (fun x=>!Bq cf x e[a]!) (fun z=>W (fun hh=>by have z2:(!decide (cf e[L]! e[a]!<0))=Af:=z.2;rw[AL hh]at z2;cases z2))]at C;refine(O 1∘Lm (L,v3)) ?_;exact⟨C,I⟩
     .rw[Rj (fun x=>!Bq cf x e[a]!) (fun z=>h0 z.1)]at C;refine(Gv [4,5,6,7,8,9,10,11,12,13,14,15,16]∘Yd∘O 2∘Lm (L,_)) ?_;exact⟨C,o⟩
   .rintro⟨j2,w3⟩⟨ba,a2⟩;rw[<-ba]at hp af a3;refine(O 7)<|Zi (fun a0=>?_) fun a0=>?_
    .rw[Ai a0]at hp;subst hp;have o1:=hc.one e[a]!;have o2:=hc.one e[j2]!;have ai:=HZ (enc:=enc) e;have l:=a2.ext (Bf.drew w3);refine(O 1)<|Lc (fun(w4:Ad)=>(RowAt K w4 g enc (swp e (j2) (a)),[(0,.slice (J ⟨g,0,Aa⟩) d.size d.size),(1,U a),(2,U b),(3,U k),(4,.func (.func f) #[P] #[]),(12,U (((T):Y):H)),(13,U (((j2):Y):H))],w4)) ?_ ?_
     .refine(Yr 16 (fun w'=>True) AB) fun m=>(Gv [0,1,2,3,4,5,6,8,9,10])<|Ye 7 11 ?_ ?_
      .refine(Jo 7 (he:=by exact Bp l.bk (hi:=BQ X))) fun m=>(Yo 11 (he:=by exact Bp l.bk (hi:=BQ X))) fun m=>(Gv [12]∘Yt 13 l.bk) ?_;rintro w5 t q;refine⟨AB,fun m=>?_⟩;refine(Gv [14]∘Yt 15 t) ?_;rintro D r p;refine⟨AB,fun m=>?_⟩;refine(Yd∘Lm D) ?_;exact l.swapped q p r
      .refine(Jo 11 (he:=by exact Bp l.bk (hi:=BQ X))) fun m=>(Yo 7 (he:=by exact Bp l.bk (hi:=BQ X))) fun m=>(Gv [12]∘Yt 13 l.bk) ?_;rintro w5 t q;refine⟨AB,fun m=>?_⟩;refine(Gv [14]∘Yt 15 t) ?_;rintro D r p;refine⟨AB,fun m=>?_⟩;refine(Yd∘Lm D) ?_;exact l.swapped q p r
     .rintro w4 ao;refine(O 6∘BG) ?_;exact⟨Z,ao,by rw[GS];exact a1⟩
    .rw[Ag a0]at hp;have o1:=hc.one e[j2]!;have o2:=hc.one e[T]!;have ai:=HZ (enc:=enc) e;have l:=a2.ext (Bf.drew w3);refine(O 2)<|Lc (fun(w4:Ad)=>(RowAt K w4 g enc (swp e (T) (j2)),[(0,.slice (J ⟨g,0,Aa⟩) d.size d.size),(1,U a),(2,U b),(3,U k),(4,.func (.func f) #[P] #[]),(12,U (((T):Y):H)),(13,U (((j2):Y):H))],w4)) ?_ ?_
     .refine(Yr 16 (fun w'=>True) AB) fun m=>(Gv [0,1,2,3,4,5,6,8,9,10])<|Ye 7 11 ?_ ?_
      .refine(Jo 7 (he:=by exact Bp l.bk (hi:=BQ X))) fun m=>(Yo 11 (he:=by exact Bp l.bk (hi:=BQ X))) fun m=>(Gv [12]∘Yt 13 l.bk) ?_;rintro w5 t q;refine⟨AB,fun m=>?_⟩;refine(Gv [14]∘Yt 15 t) ?_;rintro D r p;refine⟨AB,fun m=>?_⟩;refine(Yd∘Lm D) ?_;exact l.swapped q p r
      .refine(Jo 11 (he:=by exact Bp l.bk (hi:=BQ X))) fun m=>(Yo 7 (he:=by exact Bp l.bk (hi:=BQ X))) fun m=>(Gv [12]∘Yt 13 l.bk) ?_;rintro w5 t q;refine⟨AB,fun m=>?_⟩;refine(Gv [14]∘Yt 15 t) ?_;rintro D r p;refine⟨AB,fun m=>?_⟩;refine(Yd∘Lm D) ?_;exact l.swapped q p r
     .rintro w4 ao;have a5:(swp e T j2).size=d.size:=by rw[GS];exact a1
      generalize swp e T j2=e4 at hp ao a5;generalize hQ:partLoop (Bq cf) a (T+1) (j2-1) e4=Q at hp;subst hp;refine(O 13)<|Lc (fun((jr,er,w9):Y×(Ap α)×Ad)=>(Q=(jr,er)/\er.size=d.size/\jr<b/\RowAt K w9 g enc er,[(0,.slice (J ⟨g,0,Aa⟩) d.size d.size),(1,U a),(2,U b),(3,U k),(4,.func (.func f) #[P] #[]),(13,U jr)],w9)) ?_ ?_
      .refine(O 1)<|Lo (fun((i,j,n,wr):Y×Y×(Ap α)×Ad)=>(a+1<=i/\i<=j+2/\j<b/\partLoop (Bq cf) a i j n=Q/\n.size=d.size/\RowAt K wr g enc n,[(0,.slice (J ⟨g,0,Aa⟩) d.size d.size),(1,U a),(2,U b),(3,U k),(4,.func (.func f) #[P] #[]),(12,U i),(13,U j)],wr,j+1-i)) ((T+1),(j2-1),e4,w4) ?_ ?_
       .grind
       .rintro⟨i,j,n,wr⟩⟨bs,bq,bn,y,bf,hr⟩;rw[partLoop_eq]at y;have aj:=scanUp_ge (fun x=>Bq cf x n[a]!) n j i;have af:=scanDown_le (fun x=>!Bq cf x n[a]!) n (scanUp (fun x=>Bq cf x n[a]!) n j i) j;refine(O 2)<|Lc (fun((i5,w5):Y×Ad)=>(i5=scanUp (fun x=>Bq cf x n[a]!) n (j) (i)/\RowAt K w5 g enc n,[(0,.slice (J ⟨g,0,Aa⟩) d.size d.size),(1,U a),(2,U b),(3,U k),(4,.func (.func f) #[P] #[]),(12,U (((i5):Y):H)),(13,U (((j):Y):H))],w5)) ?_ ?_
        .refine(O 1)<|Lo (fun((S,E):Y×Ad)=>(i<=S/\scanUp (fun x=>Bq cf x n[a]!) n (j) (S)=scanUp (fun x=>Bq cf x n[a]!) n (j) (i)/\RowAt K E g enc n,[(0,.slice (J ⟨g,0,Aa⟩) d.size d.size),(1,U a),(2,U b),(3,U k),(4,.func (.func f) #[P] #[]),(12,U (((S):Y):H)),(13,U (((j):Y):H))],E,j+1-S)) (i,wr) ?_ ?_
         .grind
         .rintro⟨S,E⟩⟨A,C,V⟩;have o:=V.ext (Bf.drew E);refine(O 2∘Yr 16 (fun w'=>RowAt K w' g enc n) o) fun m=>(Gv [0,1,2,3]) ?_;refine Kd 108 Z (fun h0=>?_) (fun h0=>?_)
          .refine(Gv [4,5,6,7]∘Yw 8 (he:=by exact fun _ B=>Bp B.bk (hi:=BQ X))∘Gv [9,10,11]∘Yw 12 (he:=by exact fun _ B=>Bp B.bk (hi:=BQ X))) ?_;refine GY 13 Z Be Z Z Z Z Z (hc.call E.drew _ _ o.mo) ?_;rintro _ v3⟨rfl,G⟩;refine⟨m.ext G,fun m=>?_⟩;refine(Gv [14,15]∘Yd) ?_;have I:=o.ext G;refine Zi (fun W=>?_) fun W=>?_
           .rw[aG (fun x=>Bq cf x n[a]!) h0 (AL W)]at C;refine(O 8)<|Lb ((S+1),v3) ?_;exact⟨X,C,I⟩
           .rw[Rm (fun x=>Bq cf x n[a]!) (fun z=>W (AO z.2))]at C;refine(O 1∘Lm (S,v3)) ?_;exact⟨C,I⟩
          .rw[Rm (fun x=>Bq cf x n[a]!) (fun z=>h0 z.1)]at C;refine(Gv [4,5,6,7,8,9,10,11,12,13,14,15]∘Yd∘O 2∘Lm (S,_)) ?_;exact⟨C,o⟩
        .rintro⟨i5,w5⟩⟨bb,bi⟩;rw[<-bb]at y aj af;refine(O 1)<|Lc (fun((j5,D):Y×Ad)=>(j5=scanDown (fun x=>!Bq cf x n[a]!) n (i5) (j)/\RowAt K D g enc n,[(0,.slice (J ⟨g,0,Aa⟩) d.size d.size),(1,U a),(2,U b),(3,U k),(4,.func (.func f) #[P] #[]),(12,U (((i5):Y):H)),(13,U (((j5):Y):H))],D)) ?_ ?_
         .refine(O 1)<|Lo (fun((L,E):Y×Ad)=>(L<=j/\scanDown (fun x=>!Bq cf x n[a]!) n (i5) (L)=scanDown (fun x=>!Bq cf x n[a]!) n (i5) (j)/\RowAt K E g enc n,[(0,.slice (J ⟨g,0,Aa⟩) d.size d.size),(1,U a),(2,U b),(3,U k),(4,.func (.func f) #[P] #[]),(12,U (((i5):Y):H)),(13,U (((L):Y):H))],E,L)) (j,w5) ?_ ?_
          .grind
          .rintro⟨L,E⟩⟨A,C,V⟩;have o:=V.ext (Bf.drew E);refine(O 2∘Yr 17 (fun w'=>RowAt K w' g enc n) o) fun m=>(Gv [0,1,2,3]) ?_;refine Kd 126 Z (fun h0=>?_) (fun h0=>?_)
           .refine(Gv [4,5,6,7]∘Yw 8 (he:=by exact fun _ B=>Bp B.bk (hi:=BQ X))∘Gv [9,10,11]∘Yw 12 (he:=by exact fun _ B=>Bp B.bk (hi:=BQ X))) ?_;refine GY 13 Z Be Z Z Z Z Z (hc.call E.drew _ _ o.mo) ?_;rintro _ v3⟨rfl,G⟩;refine⟨m.ext G,fun m=>?_⟩;refine(Gv [14,15,16]∘Yd) ?_;have I:=o.ext G;refine Zi (fun W=>?_) fun W=>?_
            .rw[aF (fun x=>!Bq cf x n[a]!) h0 X (show(!decide (cf n[L]! n[a]!<0))=Af by rw[AN W];rfl)]at C;refine(O 8)<|Lb ((L-1),v3) ?_;exact⟨X,C,I⟩
            .rw[Rj (fun x=>!Bq cf x n[a]!) (fun z=>W (fun hh=>by have z2:(!decide (cf n[L]! n[a]!<0))=Af:=z.2;rw[AL hh]at z2;cases z2))]at C;refine(O 1∘Lm (L,v3)) ?_;exact⟨C,I⟩
           .rw[Rj (fun x=>!Bq cf x n[a]!) (fun z=>h0 z.1)]at C;refine(Gv [4,5,6,7,8,9,10,11,12,13,14,15,16]∘Yd∘O 2∘Lm (L,_)) ?_;exact⟨C,o⟩
         .rintro⟨j5,D⟩⟨a9,a7⟩;rw[<-a9]at y af;refine(O 7)<|Zi (fun ab=>?_) fun ab=>?_
          .rw[Ai ab]at y;refine(O 1∘Lm (j5,n,D)) ?_;grind
          .rw[Ag ab]at y;have o1:=hc.one n[j5]!;have o2:=hc.one n[i5]!;have ai:=HZ (enc:=enc) n;have l:=a7.ext (Bf.drew D);refine(O 2)<|Lc (fun(w7:Ad)=>(RowAt K w7 g enc (swp n (i5) (j5)),[(0,.slice (J ⟨g,0,Aa⟩) d.size d.size),(1,U a),(2,U b),(3,U k),(4,.func (.func f) #[P] #[]),(12,U (((i5):Y):H)),(13,U (((j5):Y):H))],w7)) ?_ ?_
           .refine(Yr 16 (fun w'=>True) AB) fun m=>(Gv [0,1,2,3,4,5,6,8,9,10])<|Ye 7 11 ?_ ?_
            .refine(Jo 7 (he:=by exact Bp l.bk (hi:=BQ X))) fun m=>(Yo 11 (he:=by exact Bp l.bk (hi:=BQ X))) fun m=>(Gv [12]∘Yt 13 l.bk) ?_;rintro w5 t q;refine⟨AB,fun m=>?_⟩;refine(Gv [14]∘Yt 15 t) ?_;rintro D r p;refine⟨AB,fun m=>?_⟩;refine(Yd∘Lm D) ?_;exact l.swapped q p r
            .refine(Jo 11 (he:=by exact Bp l.bk (hi:=BQ X))) fun m=>(Yo 7 (he:=by exact Bp l.bk (hi:=BQ X))) fun m=>(Gv [12]∘Yt 13 l.bk) ?_;rintro w5 t q;refine⟨AB,fun m=>?_⟩;refine(Gv [14]∘Yt 15 t) ?_;rintro D r p;refine⟨AB,fun m=>?_⟩;refine(Yd∘Lm D) ?_;exact l.swapped q p r
           .rintro w7 al;refine(O 12)<|Lb ((i5+1),(j5-1),(swp n i5 j5),w7) ?_;exact⟨X,X,X,y,by rw[GS];omega,al⟩
      .rintro⟨jr,er,w9⟩⟨rfl,bh,bm,a6⟩;have o1:=hc.one er[a]!;have o2:=hc.one er[jr]!;have ai:=HZ (enc:=enc) er;have l:=a6.ext (Bf.drew w9);refine(O 1)<|Lc (fun(w7:Ad)=>(RowAt K w7 g enc (swp er (jr) (a)),[(0,.slice (J ⟨g,0,Aa⟩) d.size d.size),(1,U a),(2,U b),(3,U k),(4,.func (.func f) #[P] #[]),(13,U jr)],w7)) ?_ ?_
       .refine(Yr 16 (fun w'=>True) AB) fun m=>(Gv [0,1,2,3,4,5,6,8,9,10])<|Ye 7 11 ?_ ?_
        .refine(Jo 7 (he:=by exact Bp l.bk (hi:=BQ X))) fun m=>(Yo 11 (he:=by exact Bp l.bk (hi:=BQ X))) fun m=>(Gv [12]∘Yt 13 l.bk) ?_;rintro w5 t q;refine⟨AB,fun m=>?_⟩;refine(Gv [14]∘Yt 15 t) ?_;rintro D r p;refine⟨AB,fun m=>?_⟩;refine(Yd∘Lm D) ?_;exact l.swapped q p r
        .refine(Jo 11 (he:=by exact Bp l.bk (hi:=BQ X))) fun m=>(Yo 7 (he:=by exact Bp l.bk (hi:=BQ X))) fun m=>(Gv [12]∘Yt 13 l.bk) ?_;rintro w5 t q;refine⟨AB,fun m=>?_⟩;refine(Gv [14]∘Yt 15 t) ?_;rintro D r p;refine⟨AB,fun m=>?_⟩;refine(Yd∘Lm D) ?_;exact l.swapped q p r
       .rintro w7 al;refine(O 6∘BG) ?_;exact⟨Z,al,by rw[GS];omega⟩
end
section
variable{α:Type}[Inhabited α]{enc:α->Ah}{cf:α->α->H}
def RowAt.other{w0 w w':Ad}{g sb:Y}{d:Ap α}(h:RowAt w0 w g enc d)(m:Mo w w' [sb])(hsb:w0.heap.size<=sb)(hne:sb≠g):RowAt w0 w' g enc d:=
 ⟨h.bk.mo m Bg,(((h.mo.mono (fun k hk=>FO sb hk)).trans (m.mono Bi)).fresh (fun k hk hl=>by
  grind))⟩
def ZS{m:Ad}{g f:Y}{A:Ah}(D:CmpAt m g f A enc cf)(d:Ap α)(a b n k:Y)(G:a<d.size)(E:b<d.size)(hk:k<=1000)(hsz:d.size<=1000000000)(o:m.heap.size<=n)(x:n≠g)(w:Ad)(h:RowAt m w g enc d)(C:Bk w n 3 [U (k:H)]):
 Bn prog 324 [.slice (J ⟨g,0,Aa⟩) d.size d.size,U (a:H),U (b:H),.pointer (J ⟨n,0,Aa⟩),.func (.func f) #[A] #[]] w fun v w'=>v=.tuple #[U (((order2 (Bq cf) d a b k).1:Y):H),U (((order2 (Bq cf) d a b k).2.1:Y):H)]/\RowAt m w' g enc d/\Bk w' n 3 [U (((order2 (Bq cf) d a b k).2.2:Y):H)]/\(order2 (Bq cf) d a b k).1<d.size/\(order2 (Bq cf) d a b k).2.1<d.size/\(order2 (Bq cf) d a b k).2.2<=k+1:=by
 have j:=h.ext (Bf.drew w);refine Bw func324 Z ntmps324 Be Z ?_;refine(O 7∘Yr 11 (fun w'=>RowAt m w' g enc d) j) fun B=>(Gv [0,1,2,3]∘Yw 4 (he:=by exact fun _ l=>Bp l.bk (hi:=BQ X))∘Gv [5,6,7]∘Yw 8 (he:=by exact fun _ l=>Bp l.bk (hi:=BQ X))) ?_;refine GY 9 Z Be Z Z Z Z Z (D.call w.drew _ _ j.mo) ?_;rintro _ K⟨rfl,i⟩;refine⟨B.ext i,fun B=>?_⟩;refine(Gv [10]∘Yd) ?_;have r:=j.ext i;have q:=(C.ext (Bf.drew w)).ext i;refine Zi (fun t=>?_) fun t=>?_
 .have e:order2 (Bq cf) d a b k=(b,a,k+1):=Ai (AL t);refine(O 7∘Zt q) ?_;rintro I p y;refine(O 8∘BG) ?_;rw[e];exact⟨Z,r.other y o x,p,E,G,Bv _⟩
 .have e:order2 (Bq cf) d a b k=(a,b,k):=Ag (fun z=>t (AO z));refine(O 8∘BG) ?_;grind
def Zl{m:Ad}{g f:Y}{r:Ah}(o:CmpAt m g f r enc cf)(d:Ap α)(a b c i k:Y)(K:a<d.size)(I:b<d.size)(n:c<d.size)(hk:k<=900)(hsz:d.size<=1000000000)(j:m.heap.size<=i)(l:i≠g)(w:Ad)(h:RowAt m w g enc d)(G:Bk w i 3 [U (k:H)]):
 Bn prog 313 [.slice (J ⟨g,0,Aa⟩) d.size d.size,U (a:H),U (b:H),U (c:H),.pointer (J ⟨i,0,Aa⟩),.func (.func f) #[r] #[]] w fun v w'=>v=U (((median (Bq cf) d a b c k).1:Y):H)/\RowAt m w' g enc d/\Bk w' i 3 [U (((median (Bq cf) d a b c k).2:Y):H)]/\(median (Bq cf) d a b c k).1<d.size/\(median (Bq cf) d a b c k).2<=k+3:=by
 have e:median (Bq cf) d a b c k=((order2 (Bq cf) d (order2 (Bq cf) d a b k).1 (order2 (Bq cf) d (order2 (Bq cf) d a b k).2.1 c (order2 (Bq cf) d a b k).2.2).1 (order2 (Bq cf) d (order2 (Bq cf) d a b k).2.1 c (order2 (Bq cf) d a b k).2.2).2.2).2.1,(order2 (Bq cf) d (order2 (Bq cf) d a b k).1 (order2 (Bq cf) d (order2 (Bq cf) d a b k).2.1 c (order2 (Bq cf) d a b k).2.2).1 (order2 (Bq cf) d (order2 (Bq cf) d a b k).2.1 c (order2 (Bq cf) d a b k).2.2).2.2).2.2):=rfl;rw[e];refine Bw func313 Z ntmps313 (by rfl) Z ?_;refine(O 11∘Zc (ZS o d a b i k K I X hsz j l w h G)) ?_;rintro _ B⟨rfl,N,q,y,x,E⟩;refine(O 13) ?_;generalize order2 (Bq cf) d a b k=r1 at q y x E;refine(Zc (ZS o d r1.2.1 c i r1.2.2 x n X hsz j l B N q)) ?_;rintro _ A⟨rfl,L,p,t,D,C⟩;refine(O 13) ?_;generalize order2 (Bq cf) d r1.2.1 c r1.2.2=r2 at p t D C;refine(Zc (ZS o d r1.1 r2.1 i r2.2.2 y t X hsz j l A L p)) ?_;rintro _ P⟨rfl,W,Q,V,T,S⟩;refine(O 11∘Br) ?_;grind
def Zk{i:Ad}{g f:Y}{m:Ah}(r:CmpAt i g f m enc cf)(d:Ap α)(a e k:Y)(A:1<=a)(t:a+1<d.size)(hk:k<=900)(hsz:d.size<=1000000000)(j:i.heap.size<=e)(l:e≠g)(w:Ad)(h:RowAt i w g enc d)(q:Bk w e 3 [U (k:H)]):
 Bn prog 312 [.slice (J ⟨g,0,Aa⟩) d.size d.size,U (a:H),.pointer (J ⟨e,0,Aa⟩),.func (.func f) #[m] #[]] w fun v w'=>v=U (((medianAdjacent (Bq cf) d a k).1:Y):H)/\RowAt i w' g enc d/\Bk w' e 3 [U (((medianAdjacent (Bq cf) d a k).2:Y):H)]/\(medianAdjacent (Bq cf) d a k).1<d.size/\(medianAdjacent (Bq cf) d a k).2<=k+3:=by
 refine Bw func312 Z ntmps312 (by rfl) Z ?_;refine(O 14∘Zc (Zl r d (a-1) a (a+1) e k X X t hk hsz j l w h q)) ?_;rintro _ y⟨rfl,x,n,p,o⟩;refine(O 2∘Br) ?_;exact⟨Z,x,n,p,o⟩
def OS:Hint->Y
 |.unknown=>0
 |.increasing=>1
 |.decreasing=>2
def zg(lt:α->α->Ar)(d:Ap α)(a b:Y)(r:Y×Y)(e:r=(if b-a≥8 then
 if b-a≥50 then median lt d (medianAdjacent lt d (a+(b-a)/4*1) 0).1 (medianAdjacent lt d (a+(b-a)/4*2) (medianAdjacent lt d (a+(b-a)/4*1) 0).2).1 (medianAdjacent lt d (a+(b-a)/4*3) (medianAdjacent lt d (a+(b-a)/4*2) (medianAdjacent lt d (a+(b-a)/4*1) 0).2).2).1 (medianAdjacent lt d (a+(b-a)/4*3) (medianAdjacent lt d (a+(b-a)/4*2) (medianAdjacent lt d (a+(b-a)/4*1) 0).2).2).2
 else median lt d (a+(b-a)/4*1) (a+(b-a)/4*2) (a+(b-a)/4*3) 0
 else(a+(b-a)/4*2,0))):choosePivot lt d a b=(r.1,if r.2=0 then .increasing else if r.2=12 then .decreasing else .unknown):=by
 subst e;rfl
def zh{D:Ad}{g f:Y}{T:Ah}(C:CmpAt D g f T enc cf)(N:Y)(d:Ap α)(a b:Y)(hN:N=d.size)(ai:a+12<b)(hb:b<=d.size)(hsz:d.size<=1000000000)(w:Ad)(h:RowAt D w g enc d):
 Bn prog 297 [.slice (J ⟨g,0,Aa⟩) N N,U (a:H),U (b:H),.func (.func f) #[T] #[]] w fun v w'=>v=.tuple #[U (((choosePivot (Bq cf) d a b).1:Y):H),U ((OS (choosePivot (Bq cf) d a b).2:Y):H)]/\RowAt D w' g enc d:=by
 subst hN;have e:=zg (Bq cf) d a b;rw[Ai X]at e;have hq:=Nat.div_mul_le_self (b-a) 4;have af:3<=(b-a)/4:=X;have hi:a+(b-a)/4*1+1<d.size:=X;have hj:a+(b-a)/4*2+1<d.size:=X;have hk:a+(b-a)/4*3+1<d.size:=X;have B:1<=a+(b-a)/4*1:=X;have A:1<=a+(b-a)/4*2:=X;have y:1<=a+(b-a)/4*3:=X;refine Bw func297 Z ntmps297 (by rfl) Z ?_;refine(O 14∘Me) ?_;rintro r L ab x I;refine(O 34) ?_;have h1:=h.ext I;have n:D.heap.size<=r:=by have:=h.mo.size;omega
 have p:r≠g:=by have:=h.bk.lt;omega
 generalize a+(b-a)/4*1=i at hi B e ⊢;generalize a+(b-a)/4*2=j at hj A e ⊢;generalize a+(b-a)/4*3=k at hk y e ⊢;refine Zi (fun h8=>?_) fun h8=>?_
 .refine(O 6)<|Zi (fun K=>?_) fun K=>?_
  .rw[Ai X]at e;refine(O 5∘Zc (Zk C d i r 0 B hi X hsz n p L h1 x)) ?_;rintro _ w2⟨rfl,h2,S,l2,m2⟩;refine(O 7) ?_;generalize medianAdjacent (Bq cf) d i 0=r1 at S l2 m2 e;refine(Zc (Zk C d j r r1.2 A hj X hsz n p w2 h2 S)) ?_;rintro _ w3⟨rfl,h3,Q,W,m3⟩;refine(O 6) ?_;generalize medianAdjacent (Bq cf) d j r1.2=r2 at Q W m3 e;refine(Zc (Zk C d k r r2.2 y hk X hsz n p w3 h3 Q)) ?_;rintro _ w4⟨rfl,h4,P,V,m4⟩;refine(O 8) ?_;generalize medianAdjacent (Bq cf) d k r2.2=r3 at P V m4 e;refine(Zc (Zl C d r1.1 r2.1 r3.1 r r3.2 l2 W V X hsz n p w4 h4 P)) ?_;rintro _ w5⟨rfl,t,E,k5,G⟩;refine(O 12) ?_;generalize hm:median (Bq cf) d r1.1 r2.1 r3.1 r3.2=m at E e G;have o:=e _ Z;rw[o];refine Zi (fun q=>?_) fun q=>?_
   .rw[Ai q];refine(O 6∘BG) ?_;exact⟨Z,t⟩
   .refine(O 5)<|Zi (fun l=>?_) fun l=>?_
    .rw[Ag q,Ai l];refine(O 6∘BG) ?_;exact⟨Z,t⟩
    .rw[Ag q,Ag l];refine(O 6∘BG) ?_;exact⟨Z,t⟩
  .rw[Ag X]at e;refine(O 7∘Zc (Zl C d i j k r 0 X X X X hsz n p L h1 x)) ?_;rintro _ w5⟨rfl,t,E,k5,G⟩;refine(O 12) ?_;generalize hm:median (Bq cf) d i j k 0=m at E e G;have o:=e _ Z;rw[o];refine Zi (fun q=>?_) fun q=>?_
   .rw[Ai q];refine(O 6∘BG) ?_;exact⟨Z,t⟩
   .refine(O 5)<|Zi (fun l=>?_) fun l=>?_
    .rw[Ag q,Ai l];refine(O 6∘BG) ?_;exact⟨Z,t⟩
    .rw[Ag q,Ag l];refine(O 6∘BG) ?_;exact⟨Z,t⟩
 .omega
end
section
variable{α:Type}[Inhabited α]{enc:α->Ah}{cf:α->α->H}
def Abw(lt:α->α->Ar){d:Ap α}{b i:Y}(h:i<b)(a:lt d[i]! d[i-1]! =Aj):scanSorted lt d b i=scanSorted lt d b (i+1):=by
 rw[scanSorted,Ai Bg]
def mO(lt:α->α->Ar){d:Ap α}{b i:Y}(h:¬(i<b/\lt d[i]! d[i-1]! =Aj)):scanSorted lt d b i=i:=by
 rw[scanSorted,Ag Bg]
def mS(lt:α->α->Ar){d:Ap α}{j:Y}(h:j=0∨lt d[j]! d[j-1]! =Aj):shiftDown lt j d=d:=by
 cases j with
 |zero=>rfl
 |succ j=>
  rcases h with h|h
  .cases h
  .rw[RW]at h;rw[shiftDown,h];rfl
def Acf(lt:α->α->Ar){d:Ap α}{j:Y}(a:1<=j)(h:lt d[j]! d[j-1]! =Af):shiftDown lt j d=shiftDown lt (j-1) (swp d j (j-1)):=by
 obtain⟨j,rfl⟩:∃k,j=k+1:=⟨j-1,X⟩;rw[RW]at h ⊢;rw[shiftDown,h];rfl
def mT(lt:α->α->Ar){d:Ap α}{b j:Y}(h:¬j<b∨lt d[j]! d[j-1]! =Aj):shiftUp lt b j d=d:=by
 rw[shiftUp];grind
def Acg(lt:α->α->Ar){d:Ap α}{b j:Y}(a:j<b)(h:lt d[j]! d[j-1]! =Af):shiftUp lt b j d=shiftUp lt b (j+1) (swp d j (j-1)):=by
 rw[shiftUp,Ai a,h];rfl
def yT{G:Ad}{g f:Y}{P:Ah}(hc:CmpAt G g f P enc cf)(N:Y)(d:Ap α)(a b:Y)(hN:N=d.size)(bn:a<b)(hb:b<=d.size)(hsz:d.size<=1000000000)(w:Ad)(h:RowAt G w g enc d):
 Bn prog 299 [.slice (J ⟨g,0,Aa⟩) N N,U (a:H),U (b:H),.func (.func f) #[P] #[]] w fun v w'=>v=.bool (partialInsertionSort (Bq cf) d a b).2/\RowAt G w' g enc (partialInsertionSort (Bq cf) d a b).1/\(partialInsertionSort (Bq cf) d a b).1.size=d.size:=by
 subst hN;refine Bw func299 Z ntmps299 Be Z ?_;refine(O 16)<|Lo (fun((j,i,e,wr):Y×Y×(Ap α)×Ad)=>(j<=5/\a+1<=i/\i<=b/\partialIns (Bq cf) a b (5-j) i e=partialInsertionSort (Bq cf) d a b/\e.size=d.size/\RowAt G wr g enc e,[(0,.slice (J ⟨g,0,Aa⟩) d.size d.size),(1,U a),(2,U b),(3,.func (.func f) #[P] #[]),(9,U i),(10,U j)],wr,5-j)) (0,(a+1),d,w) ?_ ?_
 .exact⟨X,Bv _,X,Z,Z,h⟩
 .rintro⟨j,i,e,wr⟩⟨hj,bm,bj,x,a4,hr⟩;generalize partialInsertionSort (Bq cf) d a b=R at x;refine(O 6)<|Zi (fun a2=>?_) fun a2=>?_
  .obtain⟨s,hs⟩:∃s,5-j=s+1:=⟨4-j,X⟩;have bf:s=5-(j+1):=X;rw[hs]at x;have D:(if scanSorted (Bq cf) e b i=b then(e,Af)else if b-a<50 then(e,Aj)else partialIns (Bq cf) a b s (scanSorted (Bq cf) e b i) (if b-scanSorted (Bq cf) e b i≥2 then shiftUp (Bq cf) b (scanSorted (Bq cf) e b i+1) (if scanSorted (Bq cf) e b i-a≥2 then shiftDown (Bq cf) (scanSorted (Bq cf) e b i-1) (swp e (scanSorted (Bq cf) e b i) (scanSorted (Bq cf) e b i-1))else(swp e (scanSorted (Bq cf) e b i) (scanSorted (Bq cf) e b i-1)))else(if scanSorted (Bq cf) e b i-a≥2 then shiftDown (Bq cf) (scanSorted (Bq cf) e b i-1) (swp e (scanSorted (Bq cf) e b i) (scanSorted (Bq cf) e b i-1))else(swp e (scanSorted (Bq cf) e b i) (scanSorted (Bq cf) e b i-1)))))=R:=x;clear x;refine(O 4)<|Lc (fun((n,w2):Y×Ad)=>(n=scanSorted (Bq cf) e b i/\a+1<=n/\n<=b/\RowAt G w2 g enc e,[(0,.slice (J ⟨g,0,Aa⟩) d.size d.size),(1,U a),(2,U b),(3,.func (.func f) #[P] #[]),(9,U n),(10,U j)],w2)) ?_ ?_
   .refine(O 1)<|Lo (fun((i9,C):Y×Ad)=>(a+1<=i9/\i9<=b/\scanSorted (Bq cf) e b i9=scanSorted (Bq cf) e b i/\RowAt G C g enc e,[(0,.slice (J ⟨g,0,Aa⟩) d.size d.size),(1,U a),(2,U b),(3,.func (.func f) #[P] #[]),(9,U i9),(10,U j)],C,b-i9)) (i,wr) ?_ ?_
    .grind
    .rintro⟨i9,C⟩⟨bl,a8,ab,I⟩;have q:=I.ext (Bf.drew C);refine(O 2∘Yr 18 (fun w'=>RowAt G w' g enc e) q) fun m=>(Gv [0,1,2,3]) ?_;refine Kd 22 Z (fun h0=>?_) (fun h0=>?_)
     .refine(Gv [4,5,6,7]∘Yw 8 (he:=by exact fun _ B=>Bp B.bk (hi:=BQ X))∘Gv [9,10,11,12]∘Yw 13 (he:=by exact fun _ B=>Bp B.bk (hi:=BQ X))) ?_;refine GY 14 Z Be Z Z Z Z Z (hc.call C.drew _ _ q.mo) ?_;rintro _ v3⟨rfl,E⟩;refine⟨m.ext E,fun m=>?_⟩;refine(Gv [15,16,17]∘Yd) ?_;have L:=q.ext E;refine Zi (fun T=>?_) fun T=>?_
      .rw[Abw _ h0 (AN T)]at ab;refine(O 8)<|Lb ((i9+1),v3) ?_;grind
      .rw[mO _ (fun z=>T (AR z.2))]at ab;refine(O 1∘Lm (i9,v3)) ?_;grind
     .rw[mO _ (fun z=>h0 z.1)]at ab;refine(Gv [4,5,6,7,8,9,10,11,12,13,14,15,16,17]∘Yd∘O 2∘Lm (i9,_)) ?_;grind
   .rintro⟨n,w2⟩⟨a3,ba,a9,a1⟩;rw[<-a3]at D;refine(O 7)<|Zi (fun V=>?_) fun V=>?_
    .rw[Ai V]at D;refine(O 4∘Br) ?_;grind
    .rw[Ag V]at D;refine(O 9)<|Zi (fun a7=>?_) fun a7=>?_
     .rw[Ai X]at D;refine(O 4∘Br) ?_;grind
     .rw[Ag X]at D;have o1:=hc.one e[n-1]!;have o2:=hc.one e[n]!;have al:=HZ (enc:=enc) e;have l:=a1.ext (Bf.drew w2);refine(O 2)<|Lc (fun(w4:Ad)=>(RowAt G w4 g enc (swp e (n) (n-1)),[(0,.slice (J ⟨g,0,Aa⟩) d.size d.size),(1,U a),(2,U b),(3,.func (.func f) #[P] #[]),(9,U n),(10,U j)],w4)) ?_ ?_
      .refine(Yr 18 (fun w'=>True) AB) fun m=>(Gv [0,1,2,3,4,5,6,7,8,10,11,12])<|Ye 9 13 ?_ ?_
       .refine(Jo 9 (he:=by exact Bp l.bk (hi:=BQ X))) fun m=>(Yo 13 (he:=by exact Bp l.bk (hi:=BQ X))) fun m=>(Gv [14]∘Yt 15 l.bk) ?_;rintro S A t;refine⟨AB,fun m=>?_⟩;refine(Gv [16]∘Yt 17 A) ?_;rintro Q y r;refine⟨AB,fun m=>?_⟩;refine(Yd∘Lm Q) ?_;exact l.swapped t r y
       .refine(Jo 13 (he:=by exact Bp l.bk (hi:=BQ X))) fun m=>(Yo 9 (he:=by exact Bp l.bk (hi:=BQ X))) fun m=>(Gv [14]∘Yt 15 l.bk) ?_;rintro S A t;refine⟨AB,fun m=>?_⟩;refine(Gv [16]∘Yt 17 A) ?_;rintro Q y r;refine⟨AB,fun m=>?_⟩;refine(Yd∘Lm Q) ?_;exact l.swapped t r y
      .rintro w4 a0;have ao:(swp e n (n-1)).size=d.size:=by rw[GS];exact a4
       generalize swp e n (n-1)=e4 at D a0 ao;refine(O 2)<|Ld (fun((e5,S):(Ap α)×Ad)=>(e5=(if n-a≥2 then shiftDown (Bq cf) (n-1) e4 else e4)/\e5.size=d.size/\RowAt G S g enc e5,[(0,.slice (J ⟨g,0,Aa⟩) d.size d.size),(1,U a),(2,U b),(3,.func (.func f) #[P] #[]),(9,U n),(10,U j)],S)) ?_ ?_
       .refine(O 6)<|Zi (fun aj=>?_) fun aj=>?_
        .refine(O 7)<|Lo (fun((k,p,C):Y×(Ap α)×Ad)=>((k<=n)/\shiftDown (Bq cf) (k) p=shiftDown (Bq cf) (n-1) e4/\p.size=d.size/\RowAt G C g enc p,[(0,.slice (J ⟨g,0,Aa⟩) d.size d.size),(1,U a),(2,U b),(3,.func (.func f) #[P] #[]),(9,U n),(10,U j),(11,U k)],C,k)) ((n-1),e4,w4) ?_ ?_
         .grind
         .rintro⟨k,p,C⟩⟨hk,o,K,I⟩;refine(O 6)<|Zi (fun ai=>?_) fun ai=>?_
          .have q:=I.ext (Bf.drew C);refine(O 5∘Yr 13 (fun w'=>RowAt G w' g enc p) q) fun m=>(Gv [0,1,2,3]∘Yw 4 (he:=by exact fun _ B=>Bp B.bk (hi:=BQ X))∘Gv [5,6,7,8]∘Yw 9 (he:=by exact fun _ B=>Bp B.bk (hi:=BQ X))) ?_;refine GY 10 Z Be Z Z Z Z Z (hc.call C.drew _ _ q.mo) ?_;rintro _ v3⟨rfl,E⟩;refine⟨m.ext E,fun m=>?_⟩;refine(Gv [11,12]∘Yd) ?_;have L:=q.ext E;refine Zi (fun T=>?_) fun T=>?_
           .rw[mS _ (.inr (AN T))]at o;refine(O 1∘Lm (p,v3)) ?_;exact⟨by rw[Ai X];exact o,K,L⟩
           .rw[Acf _ X (AL (Dk.1 T))]at o;have o1:=hc.one p[k-1]!;have o2:=hc.one p[k]!;have al:=HZ (enc:=enc) p;have l:=L.ext (Bf.drew v3);refine(O 1)<|Lc (fun(W:Ad)=>(RowAt G W g enc (swp p (k) (k-1)),[(0,.slice (J ⟨g,0,Aa⟩) d.size d.size),(1,U a),(2,U b),(3,.func (.func f) #[P] #[]),(9,U n),(10,U j),(11,U k)],W)) ?_ ?_
            .refine(Yr 18 (fun w'=>True) AB) fun m=>(Gv [0,1,2,3,4,5,6,7,8,10,11,12])<|Ye 9 13 ?_ ?_
             .refine(Jo 9 (he:=by exact Bp l.bk (hi:=BQ X))) fun m=>(Yo 13 (he:=by exact Bp l.bk (hi:=BQ X))) fun m=>(Gv [14]∘Yt 15 l.bk) ?_;rintro S A t;refine⟨AB,fun m=>?_⟩;refine(Gv [16]∘Yt 17 A) ?_;rintro Q y r;refine⟨AB,fun m=>?_⟩;refine(Yd∘Lm Q) ?_;exact l.swapped t r y
             .refine(Jo 13 (he:=by exact Bp l.bk (hi:=BQ X))) fun m=>(Yo 9 (he:=by exact Bp l.bk (hi:=BQ X))) fun m=>(Gv [14]∘Yt 15 l.bk) ?_;rintro S A t;refine⟨AB,fun m=>?_⟩;refine(Gv [16]∘Yt 17 A) ?_;rintro Q y r;refine⟨AB,fun m=>?_⟩;refine(Yd∘Lm Q) ?_;exact l.swapped t r y
            .rintro W af;refine(O 6)<|Lb ((k-1),(swp p k (k-1)),W) ?_;exact⟨X,o,by rw[GS];exact K,af⟩
          .rw[mS _ (.inl X)]at o;refine(O 1∘Lm (p,C)) ?_;exact⟨by rw[Ai X];exact o,K,I⟩
        .refine(O 1∘Lm (e4,w4)) ?_;grind
       .rintro⟨e5,S⟩⟨a6,bc,bi⟩;rw[<-a6]at D;refine(O 1)<|Ld (fun((e7,w8):(Ap α)×Ad)=>(e7=(if b-n≥2 then shiftUp (Bq cf) b (n+1) e5 else e5)/\e7.size=d.size/\RowAt G w8 g enc e7,[(0,.slice (J ⟨g,0,Aa⟩) d.size d.size),(1,U a),(2,U b),(3,.func (.func f) #[P] #[]),(9,U n),(10,U j)],w8)) ?_ ?_
        .refine(O 6)<|Zi (fun aj=>?_) fun aj=>?_
         .refine(O 7)<|Lo (fun((k,p,C):Y×(Ap α)×Ad)=>((n<k/\k<=b)/\shiftUp (Bq cf) b (k) p=shiftUp (Bq cf) b (n+1) e5/\p.size=d.size/\RowAt G C g enc p,[(0,.slice (J ⟨g,0,Aa⟩) d.size d.size),(1,U a),(2,U b),(3,.func (.func f) #[P] #[]),(9,U n),(10,U j),(12,U k)],C,b-k)) ((n+1),e5,S) ?_ ?_
          .grind
          .rintro⟨k,p,C⟩⟨hk,o,K,I⟩;refine(O 7)<|Zi (fun ai=>?_) fun ai=>?_
           .have q:=I.ext (Bf.drew C);refine(O 5∘Yr 13 (fun w'=>RowAt G w' g enc p) q) fun m=>(Gv [0,1,2,3]∘Yw 4 (he:=by exact fun _ B=>Bp B.bk (hi:=BQ X))∘Gv [5,6,7,8]∘Yw 9 (he:=by exact fun _ B=>Bp B.bk (hi:=BQ X))) ?_;refine GY 10 Z Be Z Z Z Z Z (hc.call C.drew _ _ q.mo) ?_;rintro _ v3⟨rfl,E⟩;refine⟨m.ext E,fun m=>?_⟩;refine(Gv [11,12]∘Yd) ?_;have L:=q.ext E;refine Zi (fun T=>?_) fun T=>?_
            .rw[mT _ (.inr (AN T))]at o;refine(O 1∘Lm (p,v3)) ?_;exact⟨by rw[Ai X];exact o,K,L⟩
            .rw[Acg _ X (AL (Dk.1 T))]at o;have o1:=hc.one p[k-1]!;have o2:=hc.one p[k]!;have al:=HZ (enc:=enc) p;have l:=L.ext (Bf.drew v3);refine(O 1)<|Lc (fun(W:Ad)=>(RowAt G W g enc (swp p (k) (k-1)),[(0,.slice (J ⟨g,0,Aa⟩) d.size d.size),(1,U a),(2,U b),(3,.func (.func f) #[P] #[]),(9,U n),(10,U j),(12,U k)],W)) ?_ ?_
             .refine(Yr 18 (fun w'=>True) AB) fun m=>(Gv [0,1,2,3,4,5,6,7,8,10,11,12])<|Ye 9 13 ?_ ?_
              .refine(Jo 9 (he:=by exact Bp l.bk (hi:=BQ X))) fun m=>(Yo 13 (he:=by exact Bp l.bk (hi:=BQ X))) fun m=>(Gv [14]∘Yt 15 l.bk) ?_;rintro S A t;refine⟨AB,fun m=>?_⟩;refine(Gv [16]∘Yt 17 A) ?_;rintro Q y r;refine⟨AB,fun m=>?_⟩;refine(Yd∘Lm Q) ?_;exact l.swapped t r y
              .refine(Jo 13 (he:=by exact Bp l.bk (hi:=BQ X))) fun m=>(Yo 9 (he:=by exact Bp l.bk (hi:=BQ X))) fun m=>(Gv [14]∘Yt 15 l.bk) ?_;rintro S A t;refine⟨AB,fun m=>?_⟩;refine(Gv [16]∘Yt 17 A) ?_;rintro Q y r;refine⟨AB,fun m=>?_⟩;refine(Yd∘Lm Q) ?_;exact l.swapped t r y
             .rintro W af;refine(O 6)<|Lb ((k+1),(swp p k (k-1)),W) ?_;exact⟨X,o,by rw[GS];exact K,af⟩
           .rw[mT _ (.inl X)]at o;refine(O 1∘Lm (p,C)) ?_;exact⟨by rw[Ai X];exact o,K,I⟩
         .refine(O 1∘Lm (e5,S)) ?_;grind
        .rintro⟨e7,w8⟩⟨a5,bb,bh⟩;rw[<-a5]at D;refine(O 6)<|Lb ((j+1),n,e7,w8) ?_;grind
  .obtain rfl:j=5:=X;have D:(e,Aj)=R:=x;refine(O 5∘Br) ?_;grind
end
def x13(r:UInt64):(r ^^^ (r<<<13)).toNat=r.toNat ^^^ (r.toNat*2 ^ 13%18446744073709551616):=by
 rw[UInt64.toNat_xor,UInt64.toNat_shiftLeft,Nat.shiftLeft_eq];rfl
def x7(r:UInt64):(r ^^^ (r>>>7)).toNat=r.toNat ^^^ (r.toNat/2 ^ 7):=by
 rw[UInt64.toNat_xor,UInt64.toNat_shiftRight,Nh];rfl
def x17(r:UInt64):(r ^^^ (r<<<17)).toNat=r.toNat ^^^ (r.toNat*2 ^ 17%18446744073709551616):=by
 rw[UInt64.toNat_xor,UInt64.toNat_shiftLeft,Nat.shiftLeft_eq];rfl
def Afz(i:Y)(r:UInt64)(w:Ad)(h:Bk w i 285 [.int .u64 (r.toNat:H)]):
 Bn prog 188 [.pointer (J ⟨i,0,Aa⟩)] w fun v w'=>v=.int .u64 (((xorNext r).toNat:Y):H)/\Bk w' i 285 [.int .u64 (((xorNext r).toNat:Y):H)]/\Mo w w' [i]:=by
 have G:=r.toNat_lt;refine Bw func188 Z ntmps188 Be Z ?_;refine(O 5)<|Lc (fun(l:Ad)=>(Bk l i 285 [.int .u64 ((((r ^^^ (r<<<13))).toNat:Y):H)]/\Mo w l [i],[(0,.pointer (J ⟨i,0,Aa⟩))],l)) ?_ ?_
 .have f:=h.drew;rw[x13];have n:=r.toNat_lt;refine(Yr 10 (fun w'=>True) AB) fun g=>(Gv [0,1,3,4])<|Ye 2 5 ?_ ?_
  .refine(Jo 2 (he:=by exact Bp f)) fun g=>(Yo 5 (he:=by exact Bp f)) fun g=>(Yw 6 (he:=fun _ _=>by first|exact Ho (s:=13) (p:=8192) (m:=18446744073709551615) Z Z Bc Bc Z X|exact IH (s:=13) (p:=8192) (m:=18446744073709551616) Z Z Bc Bc Z Bc)∘Yw 7 (he:=by exact fun _ _=>Jr (m:=18446744073709551615) Z Z Z X)∘Gv [8]∘Yt 9 f) ?_;rintro j d a;refine⟨AB,fun g=>?_⟩;refine(Yd∘Lm j) ?_;exact⟨d,(Mo.Agk (Bf.drew w) _).trans a⟩
  .refine(Jo 5 (he:=by exact Bp f)) fun g=>(Yw 6 (he:=fun _ _=>by first|exact Ho (s:=13) (p:=8192) (m:=18446744073709551615) Z Z Bc Bc Z X|exact IH (s:=13) (p:=8192) (m:=18446744073709551616) Z Z Bc Bc Z Bc)∘Yo 2 (he:=by exact Bp f)) fun g=>(Yw 7 (he:=by exact fun _ _=>Jr (m:=18446744073709551615) Z Z Z X)∘Gv [8]∘Yt 9 f) ?_;rintro j d a;refine⟨AB,fun g=>?_⟩;refine(Yd∘Lm j) ?_;exact⟨d,(Mo.Agk (Bf.drew w) _).trans a⟩
 .rintro l⟨E,B⟩;have L:(r ^^^ (r<<<13))=(r ^^^ (r<<<13)):=rfl;generalize x:(r ^^^ (r<<<13))=q1 at E;refine(O 1)<|Lc (fun(k:Ad)=>(Bk k i 285 [.int .u64 ((((q1 ^^^ (q1>>>7))).toNat:Y):H)]/\Mo l k [i],[(0,.pointer (J ⟨i,0,Aa⟩))],k)) ?_ ?_
  .have f:=E.drew;rw[x7];have n:=q1.toNat_lt;refine(Yr 10 (fun w'=>True) AB) fun g=>(Gv [0,1,3,4])<|Ye 2 5 ?_ ?_
   .refine(Jo 2 (he:=by exact Bp f)) fun g=>(Yo 5 (he:=by exact Bp f)) fun g=>(Yw 6 (he:=by exact fun _ _=>II (s:=7) (p:=128) Z Z Bc Bc)∘Yw 7 (he:=by exact fun _ _=>Jr (m:=18446744073709551615) Z Z Z X)∘Gv [8]∘Yt 9 f) ?_;rintro j d a;refine⟨AB,fun g=>?_⟩;refine(Yd∘Lm j) ?_;exact⟨d,(Mo.Agk (Bf.drew l) _).trans a⟩
   .refine(Jo 5 (he:=by exact Bp f)) fun g=>(Yw 6 (he:=by exact fun _ _=>II (s:=7) (p:=128) Z Z Bc Bc)∘Yo 2 (he:=by exact Bp f)) fun g=>(Yw 7 (he:=by exact fun _ _=>Jr (m:=18446744073709551615) Z Z Z X)∘Gv [8]∘Yt 9 f) ?_;rintro j d a;refine⟨AB,fun g=>?_⟩;refine(Yd∘Lm j) ?_;exact⟨d,(Mo.Agk (Bf.drew l) _).trans a⟩
  .rintro k⟨D,A⟩;have K:(q1 ^^^ (q1>>>7))=(q1 ^^^ (q1>>>7)):=rfl;generalize t:(q1 ^^^ (q1>>>7))=q2 at D;refine(O 1)<|Lc (fun(o:Ad)=>(Bk o i 285 [.int .u64 ((((q2 ^^^ (q2<<<17))).toNat:Y):H)]/\Mo k o [i],[(0,.pointer (J ⟨i,0,Aa⟩))],o)) ?_ ?_
   .have f:=D.drew;rw[x17];have n:=q2.toNat_lt;refine(Yr 10 (fun w'=>True) AB) fun g=>(Gv [0,1,3,4])<|Ye 2 5 ?_ ?_
    .refine(Jo 2 (he:=by exact Bp f)) fun g=>(Yo 5 (he:=by exact Bp f)) fun g=>(Yw 6 (he:=fun _ _=>by first|exact Ho (s:=17) (p:=131072) (m:=18446744073709551615) Z Z Bc Bc Z X|exact IH (s:=17) (p:=131072) (m:=18446744073709551616) Z Z Bc Bc Z Bc)∘Yw 7 (he:=by exact fun _ _=>Jr (m:=18446744073709551615) Z Z Z X)∘Gv [8]∘Yt 9 f) ?_;rintro j d a;refine⟨AB,fun g=>?_⟩;refine(Yd∘Lm j) ?_;exact⟨d,(Mo.Agk (Bf.drew k) _).trans a⟩
    .refine(Jo 5 (he:=by exact Bp f)) fun g=>(Yw 6 (he:=fun _ _=>by first|exact Ho (s:=17) (p:=131072) (m:=18446744073709551615) Z Z Bc Bc Z X|exact IH (s:=17) (p:=131072) (m:=18446744073709551616) Z Z Bc Bc Z Bc)∘Yo 2 (he:=by exact Bp f)) fun g=>(Yw 7 (he:=by exact fun _ _=>Jr (m:=18446744073709551615) Z Z Z X)∘Gv [8]∘Yt 9 f) ?_;rintro j d a;refine⟨AB,fun g=>?_⟩;refine(Yd∘Lm j) ?_;exact⟨d,(Mo.Agk (Bf.drew k) _).trans a⟩
   .rintro o⟨C,y⟩;have I:(q2 ^^^ (q2<<<17))=(q2 ^^^ (q2<<<17)):=rfl;generalize q:(q2 ^^^ (q2<<<17))=q3 at C;refine(O 7∘Br) ?_
    have e:xorNext r=q3:=by
     subst x t q;rfl
    rw[e];exact⟨Z,C,(B.trans A).trans y⟩
end
section
open Go.Shelf
def Tryz.Ahv:Go.Shelf.Ren:=⟨fun|156=>126|165=>165|166=>49|169=>51|240=>83|241=>218|276=>111|277=>259|n=>n,fun|31=>97|9=>9|3=>3|4=>4|0=>0|20=>20|72=>102|76=>106|70=>100|37=>23|75=>105|127=>157|164=>201|5=>5|80=>109|n=>n,fun|n=>n⟩
def Tryz.Ahp:Go.Proofs.Lays.n156 prog Tryz.Ahv:={
 mixed:=Be
 f156:=func126.trans (Av J Be)
 f165:=func165.trans (Av J Be)
 f166:=func49.trans (Av J Be)
 f169:=func51.trans (Av J Be)
 f240:=func83.trans (Av J Be)
 f241:=func218.trans (Av J Be)
 f276:=func111.trans (Av J Be)
 f277:=func259.trans (Av J Be)
 t0:=underlying0
 a0:=Tryz.isAgg0
 z0:=Tryz.sizeOf0
 v0:=Tryz.zeroValue0
 t3:=underlying3
 a3:=Tryz.isAgg3
 z3:=Tryz.sizeOf3
 v3:=Tryz.zeroValue3
 t4:=underlying4
 a4:=Tryz.isAgg4
 z4:=Tryz.sizeOf4
 v4:=Tryz.zeroValue4
 t9:=underlying9
 a9:=Tryz.isAgg9
 z9:=Tryz.sizeOf9
 v9:=Tryz.zeroValue9
 t20:=underlying20
 a20:=Tryz.isAgg20
 z20:=Tryz.sizeOf20
 v20:=Tryz.zeroValue20
 t31:=underlying97
 a31:=Tryz.isAgg97
 z31:=Tryz.sizeOf97
 v31:=Tryz.zeroValue97
 t37:=underlying23
 a37:=Tryz.isAgg23
 z37:=Tryz.sizeOf23
 v37:=Tryz.zeroValue23
 t70:=underlying100
 a70:=Tryz.isAgg100
 z70:=Tryz.sizeOf100
 v70:=Tryz.zeroValue100
 t72:=underlying102
 a72:=Tryz.isAgg102
 z72:=Tryz.sizeOf102
 v72:=Tryz.zeroValue102
 t75:=underlying105
 a75:=Tryz.isAgg105
 z75:=Tryz.sizeOf105
 v75:=Tryz.zeroValue105
 t76:=underlying106
 a76:=Tryz.isAgg106
 z76:=Tryz.sizeOf106
 v76:=Tryz.zeroValue106
 t127:=underlying157
 a127:=Tryz.isAgg157
 z127:=Tryz.sizeOf157
 v127:=Tryz.zeroValue157
 t164:=underlying201
 a164:=Tryz.isAgg201
 z164:=Tryz.sizeOf201
 v164:=Tryz.zeroValue201 }
def Tryz.Aho:Builder.Extra prog Tryz.Ahv:={
 sizeBuilder:=Be
 liesBuilder:=Be
 t5:=underlying5
 a5:=Tryz.isAgg5
 z5:=Tryz.sizeOf5
 v5:=Tryz.zeroValue5
 infoByte:=Be
 cellsByte:=Be
 sizeByte:=Be
 neB5:=by decide }
open Go.RowKit in
def Tryz.strings_Join_none(a:Aw AC)(c:Y)(sep:ByteArray)(w:Ad):
 Calls prog 126 #[.slice a 0 c,.string sep] w fun e w'=>e=.returned (.string ⟨#[]⟩)/\w'=w:=Any.strings_Join_none Tryz.Ahp Tryz.Aho a c sep w
open Go.RowKit in
def Tryz.strings_Join(bk o c:Y)(xs:Ae ByteArray)(sep:ByteArray)(w:Ad)(hcells:∀(j:Y) x,xs[j]? =J x->w.cell? ⟨bk,o+j,Aa⟩=J (.string x))(hbk:bk<w.heap.size)(hN:Ajb xs<=140737488355328)(hcap:Ajb xs<=c)(hlen:Ajb (Lib.join (xs.map (·.data.toList)) sep.data.toList)<=140737488355328):
 Calls prog 126 #[.slice (J ⟨bk,o,Aa⟩) (Ajb xs) c,.string sep] w fun e w'=>e=.returned (.string ⟨(Lib.join (xs.map (·.data.toList)) sep.data.toList).toArray⟩)/\Below w.heap.size w w':=Any.strings_Join Tryz.Ahp Tryz.Aho bk o c xs sep w hcells hbk hN hcap hlen
def Tryz.Aij:Go.Shelf.Ren:=⟨fun|125=>109|128=>150|129=>151|n=>n,fun|46=>180|3=>3|51=>58|53=>211|4=>4|5=>5|9=>9|n=>n,fun|n=>n⟩
def Tryz.Aiy:Go.Proofs.Lays.n125 prog Tryz.Aij:={
 mixed:=Be
 f125:=func109.trans (Av J Be)
 f128:=func150.trans (Av J Be)
 f129:=func151.trans (Av J Be)
 t3:=underlying3
 a3:=Tryz.isAgg3
 z3:=Tryz.sizeOf3
 v3:=Tryz.zeroValue3
 t4:=underlying4
 a4:=Tryz.isAgg4
 z4:=Tryz.sizeOf4
 v4:=Tryz.zeroValue4
 t5:=underlying5
 a5:=Tryz.isAgg5
 z5:=Tryz.sizeOf5
 v5:=Tryz.zeroValue5
 t9:=underlying9
 a9:=Tryz.isAgg9
 z9:=Tryz.sizeOf9
 v9:=Tryz.zeroValue9
 t46:=underlying180
 a46:=Tryz.isAgg180
 z46:=Tryz.sizeOf180
 v46:=Tryz.zeroValue180
 t51:=underlying58
 a51:=Tryz.isAgg58
 z51:=Tryz.sizeOf58
 v51:=Tryz.zeroValue58
 t53:=underlying211
 a53:=Tryz.isAgg211
 z53:=Tryz.sizeOf211
 v53:=Tryz.zeroValue211 }
def Tryz.bits_Len(x:H)(w:Ad)(h0:0<=x)(h1:x<=18446744073709551615):
 Calls prog 109 #[.int .u64 x] w fun e w'=>e=.returned (.int .i64 (Lib.bitLen x.toNat))/\w'=w:=Any.bits_Len Tryz.Aiy x w h0 h1
def Tryz.Aid:Go.Shelf.Ren:=⟨fun|106=>103|213=>140|265=>185|n=>n,fun|9=>9|3=>3|n=>n,fun|n=>n⟩
def Tryz.Aic:Go.Proofs.Lays.n106 prog Tryz.Aid:={
 mixed:=Be
 f106:=func103.trans (Av J Be)
 f213:=func140.trans (Av J Be)
 f265:=func185.trans (Av J Be)
 t3:=underlying3
 a3:=Tryz.isAgg3
 z3:=Tryz.sizeOf3
 v3:=Tryz.zeroValue3
 t9:=underlying9
 a9:=Tryz.isAgg9
 z9:=Tryz.sizeOf9
 v9:=Tryz.zeroValue9 }
open Go.RowKit in
def Tryz.strings_Compare(a b:ByteArray)(w:Ad):
 Calls prog 103 #[.string a,.string b] w fun e w'=>e=.returned (.int .i64 (Lib.compareBytes a.data.toList b.data.toList))/\w'=w:=Any.strings_Compare Tryz.Aic a b w
def Tryz.Ahy:Go.Shelf.Ren:=⟨fun|137=>192|217=>245|266=>276|n=>n,fun|9=>9|5=>5|3=>3|n=>n,fun|n=>n⟩
def Tryz.Aio:Go.Proofs.Lays.n137 prog Tryz.Ahy:={
 mixed:=Be
 f137:=func192.trans (Av J Be)
 f217:=func245.trans (Av J Be)
 f266:=func276.trans (Av J Be)
 t3:=underlying3
 a3:=Tryz.isAgg3
 z3:=Tryz.sizeOf3
 v3:=Tryz.zeroValue3
 t5:=underlying5
 a5:=Tryz.isAgg5
 z5:=Tryz.sizeOf5
 v5:=Tryz.zeroValue5
 t9:=underlying9
 a9:=Tryz.isAgg9
 z9:=Tryz.sizeOf9
 v9:=Tryz.zeroValue9 }
open Go.RowKit in
def Tryz.strings_IndexByte(s:ByteArray)(c:H)(w:Ad):
 Calls prog 192 #[.string s,.int .u8 c] w fun e w'=>e=.returned (.int .i64 (Lib.indexByte s.data.toList c.toNat.toUInt8))/\w'=w:=Any.strings_IndexByte Tryz.Aio s c w
def Tryz.Aik:Go.Shelf.Ren:=⟨fun|171=>224|243=>261|246=>281|283=>290|284=>291|285=>292|286=>293|129=>151|317=>307|318=>308|319=>309|320=>310|337=>322|338=>323|n=>n,fun|3=>3|9=>9|2=>2|4=>4|171=>381|0=>0|53=>211|37=>23|5=>5|173=>383|212=>399|51=>58|20=>20|213=>400|46=>180|232=>411|233=>412|n=>n,fun|17=>3|18=>4|19=>5|n=>n⟩
def Tryz.Aix:Go.Proofs.LaysM.n171 prog Tryz.Aik:={
 mixed:=Be
 f129:=func151.trans (Av J Be)
 f171:=func224.trans (Av J Be)
 f243:=func261.trans (Av J Be)
 f246:=func281.trans (Av J Be)
 f283:=func290.trans (Av J Be)
 f284:=func291.trans (Av J Be)
 f285:=func292.trans (Av J Be)
 f286:=func293.trans (Av J Be)
 f317:=func307.trans (Av J Be)
 f318:=func308.trans (Av J Be)
 f319:=func309.trans (Av J Be)
 f320:=func310.trans (Av J Be)
 f337:=func322.trans (Av J Be)
 f338:=func323.trans (Av J Be)
 t0:=underlying0
 a0:=Tryz.isAgg0
 z0:=Tryz.sizeOf0
 v0:=Tryz.zeroValue0
 t2:=underlying2
 a2:=Tryz.isAgg2
 z2:=Tryz.sizeOf2
 v2:=Tryz.zeroValue2
 t3:=underlying3
 a3:=Tryz.isAgg3
 z3:=Tryz.sizeOf3
 v3:=Tryz.zeroValue3
 t4:=underlying4
 a4:=Tryz.isAgg4
 z4:=Tryz.sizeOf4
 v4:=Tryz.zeroValue4
 t5:=underlying5
 a5:=Tryz.isAgg5
 z5:=Tryz.sizeOf5
 v5:=Tryz.zeroValue5
 t9:=underlying9
 a9:=Tryz.isAgg9
 z9:=Tryz.sizeOf9
 v9:=Tryz.zeroValue9
 t20:=underlying20
 a20:=Tryz.isAgg20
 z20:=Tryz.sizeOf20
 v20:=Tryz.zeroValue20
 t37:=underlying23
 a37:=Tryz.isAgg23
 z37:=Tryz.sizeOf23
 v37:=Tryz.zeroValue23
 t46:=underlying180
 a46:=Tryz.isAgg180
 z46:=Tryz.sizeOf180
 v46:=Tryz.zeroValue180
 t51:=underlying58
 a51:=Tryz.isAgg58
 z51:=Tryz.sizeOf58
 v51:=Tryz.zeroValue58
 t53:=underlying211
 a53:=Tryz.isAgg211
 z53:=Tryz.sizeOf211
 v53:=Tryz.zeroValue211
 t171:=underlying381
 a171:=Tryz.isAgg381
 z171:=Tryz.sizeOf381
 v171:=Tryz.zeroValue381
 t173:=underlying383
 a173:=Tryz.isAgg383
 z173:=Tryz.sizeOf383
 v173:=Tryz.zeroValue383
 t212:=underlying399
 a212:=Tryz.isAgg399
 z212:=Tryz.sizeOf399
 v212:=Tryz.zeroValue399
 t213:=underlying400
 a213:=Tryz.isAgg400
 z213:=Tryz.sizeOf400
 t232:=underlying411
 a232:=Tryz.isAgg411
 z232:=Tryz.sizeOf411
 v232:=Tryz.zeroValue411
 t233:=underlying412
 a233:=Tryz.isAgg412
 z233:=Tryz.sizeOf412
 v233:=Tryz.zeroValue412
 g17:=Be
 g18:=Be
 g19:=Be
 i0:=Be
 i2:=Be
 i3:=Be
 i4:=Be
 i5:=Be
 i9:=Be
 i20:=Be
 i37:=Be
 i46:=Be
 i51:=Be
 i53:=Be
 i171:=Be
 i173:=Be
 i212:=Be
 i232:=Be
 i233:=Be
 m17:=Be
 m18:=Be
 m19:=by kernel_rfl }
open Go.RowKit Go.Sort Go.Lib in
def Tryz.strconv_Itoa (n:H) (h0:-9223372036854775808<=n) (h1:n<=9223372036854775807) (w:Ad) (htab:Lib.TabIs prog w "internal/strconv.uint64pow10" .u64 Lib.pow10Tab):
 Calls prog 224 #[.int .i64 n] w fun e w'=>e=.returned (.string ⟨(Lib.itoa n).toArray⟩)/\∃k os,w'=grow (w.drewN k) os:=Any.strconv_Itoa Tryz.Aix n h0 h1 w htab
def Tryz.Aia:Go.Shelf.Ren:=⟨fun|144=>168|143=>223|219=>193|217=>245|225=>246|224=>247|267=>248|266=>276|314=>277|n=>n,fun|9=>9|4=>4|3=>3|5=>5|46=>180|146=>327|51=>58|n=>n,fun|1=>0|n=>n⟩
def Tryz.Aig:Go.Proofs.Lays.n144 prog Tryz.Aia:={
 mixed:=Be
 f143:=func223.trans (Av J Be)
 f144:=func168.trans (Av J Be)
 f217:=func245.trans (Av J Be)
 f219:=func193.trans (Av J Be)
 f224:=func247.trans (Av J Be)
 f225:=func246.trans (Av J Be)
 f266:=func276.trans (Av J Be)
 f267:=func248.trans (Av J Be)
 f314:=func277.trans (Av J Be)
 t3:=underlying3
 a3:=Tryz.isAgg3
 z3:=Tryz.sizeOf3
 v3:=Tryz.zeroValue3
 t4:=underlying4
 a4:=Tryz.isAgg4
 z4:=Tryz.sizeOf4
 v4:=Tryz.zeroValue4
 t5:=underlying5
 a5:=Tryz.isAgg5
 z5:=Tryz.sizeOf5
 v5:=Tryz.zeroValue5
 t9:=underlying9
 a9:=Tryz.isAgg9
 z9:=Tryz.sizeOf9
 v9:=Tryz.zeroValue9
 t46:=underlying180
 a46:=Tryz.isAgg180
 z46:=Tryz.sizeOf180
 v46:=Tryz.zeroValue180
 t51:=underlying58
 a51:=Tryz.isAgg58
 z51:=Tryz.sizeOf58
 v51:=Tryz.zeroValue58
 t146:=underlying327
 a146:=Tryz.isAgg327
 z146:=Tryz.sizeOf327
 v146:=Tryz.zeroValue327
 g1:=by kernel_rfl }
open Go.RowKit Go.Lib in
def Tryz.strings_Contains_one(s:ByteArray)(c:AH)(w:Ad):
 Calls prog 168 #[.string s,.string ⟨#[c]⟩] w fun e w'=>e=.returned (.bool (decide (0<=Lib.indexByte s.data.toList c)))/\w'=w:=Any.strings_Contains_one Tryz.Aig s c w
def Tryz.Aim:Go.Shelf.Ren:=⟨fun|145=>114|220=>156|219=>193|217=>245|225=>246|224=>247|267=>248|266=>276|314=>277|n=>n,fun|9=>9|4=>4|59=>206|3=>3|5=>5|46=>180|146=>327|51=>58|n=>n,fun|1=>0|n=>n⟩
def Tryz.Ait:Go.Proofs.Lays.n145 prog Tryz.Aim:={
 mixed:=Be
 f145:=func114.trans (Av J Be)
 f217:=func245.trans (Av J Be)
 f219:=func193.trans (Av J Be)
 f220:=func156.trans (Av J Be)
 f224:=func247.trans (Av J Be)
 f225:=func246.trans (Av J Be)
 f266:=func276.trans (Av J Be)
 f267:=func248.trans (Av J Be)
 f314:=func277.trans (Av J Be)
 t3:=underlying3
 a3:=Tryz.isAgg3
 z3:=Tryz.sizeOf3
 v3:=Tryz.zeroValue3
 t4:=underlying4
 a4:=Tryz.isAgg4
 z4:=Tryz.sizeOf4
 v4:=Tryz.zeroValue4
 t5:=underlying5
 a5:=Tryz.isAgg5
 z5:=Tryz.sizeOf5
 v5:=Tryz.zeroValue5
 t9:=underlying9
 a9:=Tryz.isAgg9
 z9:=Tryz.sizeOf9
 v9:=Tryz.zeroValue9
 t46:=underlying180
 a46:=Tryz.isAgg180
 z46:=Tryz.sizeOf180
 v46:=Tryz.zeroValue180
 t51:=underlying58
 a51:=Tryz.isAgg58
 z51:=Tryz.sizeOf58
 v51:=Tryz.zeroValue58
 t59:=underlying206
 a59:=Tryz.isAgg206
 z59:=Tryz.sizeOf206
 v59:=Tryz.zeroValue206
 t146:=underlying327
 a146:=Tryz.isAgg327
 z146:=Tryz.sizeOf327
 v146:=Tryz.zeroValue327
 g1:=by kernel_rfl }
open Go.RowKit Go.Lib in
def Tryz.strings_Cut(s sep:ByteArray)(m:H)(w:Ad)(hs:s.size<4294967281)(hm:w.cell? ⟨0,0,Aa⟩=J (.int .i64 m)):
 Calls prog 114 #[.string s,.string sep] w fun e w'=>e=.returned (.tuple #[.string ⟨(Lib.cut s.data.toList sep.data.toList).1.toArray⟩,.string ⟨(Lib.cut s.data.toList sep.data.toList).2.1.toArray⟩,.bool (Lib.cut s.data.toList sep.data.toList).2.2])/\∃n,w'=w.drewN n:=Any.strings_Cut Tryz.Ait s sep m w hs hm
def Tryz.Aiw:Go.Shelf.Ren:=⟨fun|219=>193|217=>245|225=>246|224=>247|267=>248|266=>276|314=>277|n=>n,fun|9=>9|3=>3|4=>4|5=>5|46=>180|146=>327|51=>58|n=>n,fun|1=>0|n=>n⟩
def Tryz.Ail:Go.Proofs.LaysM.n219 prog Tryz.Aiw:={
 mixed:=Be
 f217:=func245.trans (Av J Be)
 f219:=func193.trans (Av J Be)
 f224:=func247.trans (Av J Be)
 f225:=func246.trans (Av J Be)
 f266:=func276.trans (Av J Be)
 f267:=func248.trans (Av J Be)
 f314:=func277.trans (Av J Be)
 t3:=underlying3
 a3:=Tryz.isAgg3
 z3:=Tryz.sizeOf3
 v3:=Tryz.zeroValue3
 t4:=underlying4
 a4:=Tryz.isAgg4
 z4:=Tryz.sizeOf4
 v4:=Tryz.zeroValue4
 t5:=underlying5
 a5:=Tryz.isAgg5
 z5:=Tryz.sizeOf5
 v5:=Tryz.zeroValue5
 t9:=underlying9
 a9:=Tryz.isAgg9
 z9:=Tryz.sizeOf9
 v9:=Tryz.zeroValue9
 t46:=underlying180
 a46:=Tryz.isAgg180
 z46:=Tryz.sizeOf180
 v46:=Tryz.zeroValue180
 t51:=underlying58
 a51:=Tryz.isAgg58
 z51:=Tryz.sizeOf58
 v51:=Tryz.zeroValue58
 t146:=underlying327
 a146:=Tryz.isAgg327
 z146:=Tryz.sizeOf327
 v146:=Tryz.zeroValue327
 g1:=Be
 i3:=Be
 i4:=Be
 i5:=Be
 i9:=Be
 i46:=Be
 i51:=Be
 i146:=Be
 m1:=Be
 s1_3:=fun w h=>Go.Proofs.cell_of_shapedOpen_int (zero:=#[.int .i64 0]) (t:=3) h (AO Be) Be Z Be Be underlying3 }
def Tryz.Aif:Go.Shelf.Ren:=⟨fun|99=>93|206=>121|n=>n,fun|9=>9|4=>4|3=>3|n=>n,fun|n=>n⟩
def Tryz.Aib:Go.Proofs.Lays.n99 prog Tryz.Aif:={
 mixed:=Be
 f99:=func93.trans (Av J Be)
 f206:=func121.trans (Av J Be)
 t3:=underlying3
 a3:=Tryz.isAgg3
 z3:=Tryz.sizeOf3
 v3:=Tryz.zeroValue3
 t4:=underlying4
 a4:=Tryz.isAgg4
 z4:=Tryz.sizeOf4
 v4:=Tryz.zeroValue4
 t9:=underlying9
 a9:=Tryz.isAgg9
 z9:=Tryz.sizeOf9
 v9:=Tryz.zeroValue9 }
open Go.RowKit Go.Lib in
def Tryz.strings_HasPrefix(s p:ByteArray)(w:Ad):
 Calls prog 93 #[.string s,.string p] w fun e w'=>e=.returned (.bool (Lib.hasPrefix s.data.toList p.data.toList))/\w'=w:=Any.strings_HasPrefix Tryz.Aib s p w
def Tryz.Aiq:Go.Shelf.Ren:=⟨fun|146=>139|221=>184|268=>238|138=>239|143=>223|195=>273|197=>274|218=>275|219=>193|260=>289|217=>245|225=>246|224=>247|267=>248|266=>276|314=>277|n=>n,fun|9=>9|31=>97|3=>3|4=>4|0=>0|105=>360|21=>21|5=>5|46=>180|119=>394|139=>397|138=>396|146=>327|51=>58|n=>n,fun|1=>0|3=>1|4=>2|n=>n⟩
def Tryz.Ahx:Go.Proofs.Lays.n146 prog Tryz.Aiq:={
 mixed:=Be
 f138:=func239.trans (Av J Be)
 f143:=func223.trans (Av J Be)
 f146:=func139.trans (Av J Be)
 f195:=func273.trans (Av J Be)
 f197:=func274.trans (Av J Be)
 f217:=func245.trans (Av J Be)
 f218:=func275.trans (Av J Be)
 f219:=func193.trans (Av J Be)
 f221:=func184.trans (Av J Be)
 f224:=func247.trans (Av J Be)
 f225:=func246.trans (Av J Be)
 f260:=func289.trans (Av J Be)
 f266:=func276.trans (Av J Be)
 f267:=func248.trans (Av J Be)
 f268:=func238.trans (Av J Be)
 f314:=func277.trans (Av J Be)
 t0:=underlying0
 a0:=Tryz.isAgg0
 z0:=Tryz.sizeOf0
 v0:=Tryz.zeroValue0
 t3:=underlying3
 a3:=Tryz.isAgg3
 z3:=Tryz.sizeOf3
 v3:=Tryz.zeroValue3
 t4:=underlying4
 a4:=Tryz.isAgg4
 z4:=Tryz.sizeOf4
 v4:=Tryz.zeroValue4
 t5:=underlying5
 a5:=Tryz.isAgg5
 z5:=Tryz.sizeOf5
 v5:=Tryz.zeroValue5
 t9:=underlying9
 a9:=Tryz.isAgg9
 z9:=Tryz.sizeOf9
 v9:=Tryz.zeroValue9
 t21:=underlying21
 a21:=Tryz.isAgg21
 z21:=Tryz.sizeOf21
 v21:=Tryz.zeroValue21
 t31:=underlying97
 a31:=Tryz.isAgg97
 z31:=Tryz.sizeOf97
 v31:=Tryz.zeroValue97
 t46:=underlying180
 a46:=Tryz.isAgg180
 z46:=Tryz.sizeOf180
 v46:=Tryz.zeroValue180
 t51:=underlying58
 a51:=Tryz.isAgg58
 z51:=Tryz.sizeOf58
 v51:=Tryz.zeroValue58
 t105:=underlying360
 a105:=Tryz.isAgg360
 z105:=Tryz.sizeOf360
 v105:=Tryz.zeroValue360
 t119:=underlying394
 a119:=Tryz.isAgg394
 z119:=Tryz.sizeOf394
 t138:=underlying396
 a138:=Tryz.isAgg396
 z138:=Tryz.sizeOf396
 v138:=Tryz.zeroValue396
 t139:=underlying397
 a139:=Tryz.isAgg397
 z139:=Tryz.sizeOf397
 v139:=Tryz.zeroValue397
 t146:=underlying327
 a146:=Tryz.isAgg327
 z146:=Tryz.sizeOf327
 v146:=Tryz.zeroValue327
 g1:=Be
 g3:=Be
 g4:=by kernel_rfl }
open Go.RowKit Go.Lib in
def Tryz.strings_Split(s sep:ByteArray)(m:H)(w:Ad)(hs:s.size<4294967281)(hm:w.cell? ⟨0,0,Aa⟩=J (.int .i64 m))(h1:1<=sep.size):
 Calls prog 139 #[.string s,.string sep] w fun e w'=>
  e=.returned (.slice (J ⟨w.heap.size,0,Aa⟩) (Lib.countB s sep+1) (Lib.countB s sep+1))/\w'=w.alloc (.cells ((Lib.splitB sep 0 (Lib.countB s sep) s).map Value.string).toArray 9):=Any.strings_Split Tryz.Ahx Be s sep m w hs hm h1
def Tryz.Ahr:Go.Shelf.Ren:=⟨fun|105=>138|212=>183|99=>93|165=>165|166=>49|170=>63|169=>51|263=>236|264=>237|206=>121|240=>83|241=>218|276=>111|277=>259|n=>n,fun|9=>9|3=>3|4=>4|20=>20|0=>0|46=>180|109=>282|5=>5|72=>102|76=>106|51=>58|146=>327|53=>211|148=>329|70=>100|37=>23|75=>105|127=>157|164=>201|80=>109|n=>n,fun|n=>n⟩
def Tryz.Ain:Go.Proofs.Lays.n105 prog Tryz.Ahr:={
 mixed:=Be
 f99:=func93.trans (Av J Be)
 f105:=func138.trans (Av J Be)
 f165:=func165.trans (Av J Be)
 f166:=func49.trans (Av J Be)
 f169:=func51.trans (Av J Be)
 f170:=func63.trans (Av J Be)
 f206:=func121.trans (Av J Be)
 f212:=func183.trans (Av J Be)
 f240:=func83.trans (Av J Be)
 f241:=func218.trans (Av J Be)
 f263:=func236.trans (Av J Be)
 f264:=func237.trans (Av J Be)
 f276:=func111.trans (Av J Be)
 f277:=func259.trans (Av J Be)
 t0:=underlying0
 a0:=Tryz.isAgg0
 z0:=Tryz.sizeOf0
 v0:=Tryz.zeroValue0
 t3:=underlying3
 a3:=Tryz.isAgg3
 z3:=Tryz.sizeOf3
 v3:=Tryz.zeroValue3
 t4:=underlying4
 a4:=Tryz.isAgg4
 z4:=Tryz.sizeOf4
 v4:=Tryz.zeroValue4
 t5:=underlying5
 a5:=Tryz.isAgg5
 z5:=Tryz.sizeOf5
 v5:=Tryz.zeroValue5
 t9:=underlying9
 a9:=Tryz.isAgg9
 z9:=Tryz.sizeOf9
 v9:=Tryz.zeroValue9
 t20:=underlying20
 a20:=Tryz.isAgg20
 z20:=Tryz.sizeOf20
 v20:=Tryz.zeroValue20
 t37:=underlying23
 a37:=Tryz.isAgg23
 z37:=Tryz.sizeOf23
 v37:=Tryz.zeroValue23
 t46:=underlying180
 a46:=Tryz.isAgg180
 z46:=Tryz.sizeOf180
 v46:=Tryz.zeroValue180
 t51:=underlying58
 a51:=Tryz.isAgg58
 z51:=Tryz.sizeOf58
 v51:=Tryz.zeroValue58
 t53:=underlying211
 a53:=Tryz.isAgg211
 z53:=Tryz.sizeOf211
 v53:=Tryz.zeroValue211
 t70:=underlying100
 a70:=Tryz.isAgg100
 z70:=Tryz.sizeOf100
 v70:=Tryz.zeroValue100
 t72:=underlying102
 a72:=Tryz.isAgg102
 z72:=Tryz.sizeOf102
 v72:=Tryz.zeroValue102
 t75:=underlying105
 a75:=Tryz.isAgg105
 z75:=Tryz.sizeOf105
 v75:=Tryz.zeroValue105
 t76:=underlying106
 a76:=Tryz.isAgg106
 z76:=Tryz.sizeOf106
 v76:=Tryz.zeroValue106
 t109:=underlying282
 a109:=Tryz.isAgg282
 z109:=Tryz.sizeOf282
 v109:=Tryz.zeroValue282
 t127:=underlying157
 a127:=Tryz.isAgg157
 z127:=Tryz.sizeOf157
 v127:=Tryz.zeroValue157
 t146:=underlying327
 a146:=Tryz.isAgg327
 z146:=Tryz.sizeOf327
 v146:=Tryz.zeroValue327
 t148:=underlying329
 a148:=Tryz.isAgg329
 z148:=Tryz.sizeOf329
 v148:=Tryz.zeroValue329
 t164:=underlying201
 a164:=Tryz.isAgg201
 z164:=Tryz.sizeOf201
 v164:=Tryz.zeroValue201 }
def Tryz.Aiv:Builder.Extra prog Tryz.Ahr:={
 sizeBuilder:=Be
 liesBuilder:=Be
 t5:=underlying5
 a5:=Tryz.isAgg5
 z5:=Tryz.sizeOf5
 v5:=Tryz.zeroValue5
 infoByte:=Be
 cellsByte:=Be
 sizeByte:=Be
 neB5:=by decide }
open Go.RowKit Go.Lib in
def Tryz.strings_Repeat(s:ByteArray)(c:Y)(w:Ad)(hc:c<=9223372036854775807)(hlen:s.size*c<=140737488355328):
 Calls prog 138 #[.string s,.int .i64 c] w fun e w'=>e=.returned (.string ⟨(Lib.repeatL s.data.toList c).toArray⟩)/\Below w.heap.size w w':=Any.strings_Repeat Tryz.Ain Tryz.Aiv s c w hc hlen
end
section
attribute [local irreducible] OW KW QW EX GW NV
open Go.Sort
section
variable{α:Type}[Inhabited α]{enc:α->Ah}{cf:α->α->H}
def xY(n:Y)(h1:1<=n)(h:n<=1000000000)(w:Ad):
 Bn prog 187 [U (n:H)] w fun v w'=>v=.int .u64 ((2 ^ (Ea n+1):Y):H)/\w=w':=by
 have d:Ea n+1<=31:=by
  have:=Ub (n:=n) (k:=31) X;have:=this.2 X;omega
 have e:Go.Lib.bitLen (n:H).toNat=Ea n+1:=by
  rw[TD,Go.Proofs.bitLen_eq n X];exact Ag X
 have g:2 ^ (Ea n+1)<=2 ^ 31:=Gb Bc d;refine Bw func187 Z ntmps187 Be Z ?_;refine(O 8∘Zc (Hc func109 Be (Tryz.bits_Len (n:H) w X X))) ?_;rintro _ f⟨rfl,rfl⟩;rw[e];refine(Zv (by exact Oj (a:=1) (s:=Ea n+1) (m:=18446744073709551615) Z Z (by show _<=64;omega) Z X)∘O 2∘Br) ?_;simp
def IR(d:Ap α)(a l:Y):Y->UInt64×Ap α
 |0=>(UInt64.ofNat l,d)
 |t+1=>breakStep a l (1<<<bitsLen l) (IR d a l t) (a+(l/4)*2-1+t)
def rA(d:Ap α)(a b:Y)(h:8<=b-a):breakPatterns d a b=(IR d a (b-a) 3).2:=by
 unfold breakPatterns;simp only[ge_iff_le,h,if_true];rfl
def Po(l:Y)(r:UInt64):Y:=if(xorNext r).toNat%2 ^ (Ea l+1)≥l then(xorNext r).toNat%2 ^ (Ea l+1)-l else(xorNext r).toNat%2 ^ (Ea l+1)
def yJ{l:Y}(h:1<=l)(r:UInt64):Po l r<l:=by
 have a:(xorNext r).toNat%2 ^ (Ea l+1)<2 ^ (Ea l+1):=Ng _ (Nat.two_pow_pos _);have d:=Nat.log2_self_le (n:=l) X;rw[Kt]at a;unfold Po;grind
def rC(d:Ap α)(a l t:Y)(h:1<=l):IR d a l (t+1)=(xorNext (IR d a l t).1,swp (IR d a l t).2 (a+(l/4)*2-1+t) (a+Po l (IR d a l t).1)):=by
 have e:(1<<<bitsLen l)-1=2 ^ (Ea l+1)-1:=by
  unfold bitsLen;rw[Ag X,Nat.one_shiftLeft]
 show breakStep a l (1<<<bitsLen l) (IR d a l t) (a+(l/4)*2-1+t)=_;unfold breakStep Po;simp_all
def rB{B:Ad}{g f:Y}{E:Ah}(hc:CmpAt B g f E enc cf)(N:Y)(d:Ap α)(a b:Y)(hN:N=d.size)(bj:a+12<b)(hb:b<=d.size)(hsz:d.size<=1000000000)(w:Ad)(h:RowAt B w g enc d):
 Bn prog 296 [.slice (J ⟨g,0,Aa⟩) N N,U (a:H),U (b:H),.func (.func f) #[E] #[]] w fun v w'=>v=.tuple #[]/\RowAt B w' g enc (breakPatterns d a b)/\(breakPatterns d a b).size=d.size:=by
 subst hN;rw[rA d a b X];have bi:=Nat.div_mul_le_self (b-a) 4;have ba:3<=(b-a)/4:=X
 have S:(UInt64.ofNat (b-a)).toNat=b-a:=by
  rw[UInt64.toNat_ofNat'];exact Jz X
 have a9:Ea (b-a)+1<=31:=by
  have:=(Ub (n:=b-a) (k:=31) X).2 X;omega
 have a3:2 ^ (Ea (b-a)+1)<=2 ^ 31:=Gb Bc a9;have a4:1<=2 ^ (Ea (b-a)+1):=Nat.two_pow_pos _;refine Bw func296 Z ntmps296 Be Z ?_;refine(O 12)<|Zi (fun h8=>?_) fun h8=>?_
 .refine(O 4∘Me) ?_;rintro q w1 bc a0 ab;refine(Zt a0) ?_;rintro V ao a7;refine(O 4) ?_;have I:B.heap.size<=q:=by have:=h.mo.size;omega
  have Q:q≠g:=by have:=h.bk.lt;omega
  have h2:=(h.ext ab).other a7 I Q;refine(Zc (xY (b-a) X X V)) ?_;rintro _ _⟨rfl,rfl⟩;refine(O 13) ?_;generalize K:2 ^ (Ea (b-a)+1)=pk at a3 a4
  have al:Bk V q 285 [.int .u64 (((IR d a (b-a) 0).1.toNat:Y):H)]:=by
   show Bk V q _ [.int .u64 (((UInt64.ofNat (b-a)).toNat:Y):H)];rw[S];exact ao
  refine Lo (fun((t,wr):Y×Ad)=>(t<=3/\(IR d a (b-a) t).2.size=d.size/\RowAt B wr g enc (IR d a (b-a) t).2/\Bk wr q 285 [.int .u64 (((IR d a (b-a) t).1.toNat:Y):H)],[(0,.slice (J ⟨g,0,Aa⟩) d.size d.size),(1,U a),(2,U b),(3,.func (.func f) #[E] #[]),(8,U (((b-a):Y):H)),(9,.pointer (J ⟨q,0,Aa⟩)),(10,.int .u64 (pk:H)),(11,U (((a+(b-a)/4*2-1+t):Y):H))],wr,3-t)) (0,V) ?_ ?_
  .exact⟨X,Z,h2,al⟩
  .rintro⟨t,wr⟩⟨ht,af,hr,G⟩;have x:=rC d a (b-a) t X;have P:=yJ (l:=b-a) X (IR d a (b-a) t).1;generalize hR:IR d a (b-a) t=R at af hr G x P;refine(O 12)<|Zi (fun a8=>?_) fun a8=>?_
   .have T:(xorNext R.1).toNat &&& (pk-1)=(xorNext R.1).toNat%pk:=by rw[<-K,Nat.and_two_pow_sub_one_eq_mod]
    have bf:=(xorNext R.1).toNat_lt;have bb:(xorNext R.1).toNat%pk<pk:=Ng _ X
    have bh:Po (b-a) R.1=if(xorNext R.1).toNat%pk≥b-a then(xorNext R.1).toNat%pk-(b-a)else(xorNext R.1).toNat%pk:=by
     unfold Po;rw[K]
    refine(O 5∘Zc (Afz q R.1 wr G)) ?_;rintro _ D⟨rfl,aj,a6⟩;refine(O 1∘Zv (by exact Kc (b:=1) (m:=18446744073709551615) Z Z Z X)∘Zv (by exact Wj (m:=18446744073709551615) Z Z Z X)∘O 5) ?_;have a2:=hr.other a6 I Q;refine Ld (fun(j:Y)=>(j=Po (b-a) R.1,[(0,.slice (J ⟨g,0,Aa⟩) d.size d.size),(1,U a),(2,U b),(3,.func (.func f) #[E] #[]),(8,U (((b-a):Y):H)),(9,.pointer (J ⟨q,0,Aa⟩)),(10,.int .u64 (pk:H)),(11,U (((a+(b-a)/4*2-1+t):Y):H)),(12,U j)],D)) ?_ ?_
    .refine(Cs 12 (U ((((xorNext R.1).toNat%pk):Y):H)) (e:=by exact Av (Value.int .i64) (Av Nd T))∘O 5)<|Zi (fun ho=>?_) fun ho=>?_
     .refine(O 6∘Lm ((xorNext R.1).toNat%pk-(b-a))) ?_;grind
     .refine(O 1∘Lm ((xorNext R.1).toNat%pk)) ?_;grind
    .rintro j L;rw[<-L]at x P;have o1:=hc.one R.2[a+j]!;have o2:=hc.one R.2[a+(b-a)/4*2-1+t]!;have ba:=HZ (enc:=enc) R.2;have i:=a2.ext (Bf.drew D);refine Lc (fun(C:Ad)=>(RowAt B C g enc (swp R.2 (a+(b-a)/4*2-1+t) (a+j))/\Mo D C [g],[(0,.slice (J ⟨g,0,Aa⟩) d.size d.size),(1,U a),(2,U b),(3,.func (.func f) #[E] #[]),(8,U (((b-a):Y):H)),(9,.pointer (J ⟨q,0,Aa⟩)),(10,.int .u64 (pk:H)),(11,U (((a+(b-a)/4*2-1+t):Y):H))],C)) ?_ ?_
     .refine(Yr 20 (fun w'=>True) AB) fun r=>(Gv [0,1,2,3,4,5,6,7,8,9,10,12,13,14])<|Ye 11 15 ?_ ?_
      .refine(Jo 11 (he:=by exact Bp i.bk (hi:=BQ X))) fun r=>(Yo 15 (he:=by exact Bp i.bk (hi:=BQ X))) fun r=>(Gv [16]∘Yt 17 i.bk) ?_;rintro w5 A p;refine⟨AB,fun r=>?_⟩;refine(Gv [18]∘Yt 19 A) ?_;rintro W y o;refine⟨AB,fun r=>?_⟩;refine(Yd∘Lm W) ?_;exact⟨i.swapped p o y,((Mo.Agk (Bf.drew D) _).trans p).trans o⟩
      .refine(Jo 15 (he:=by exact Bp i.bk (hi:=BQ X))) fun r=>(Yo 11 (he:=by exact Bp i.bk (hi:=BQ X))) fun r=>(Gv [16]∘Yt 17 i.bk) ?_;rintro w5 A p;refine⟨AB,fun r=>?_⟩;refine(Gv [18]∘Yt 19 A) ?_;rintro W y o;refine⟨AB,fun r=>?_⟩;refine(Yd∘Lm W) ?_;exact⟨i.swapped p o y,((Mo.Agk (Bf.drew D) _).trans p).trans o⟩
     .rintro C⟨a1,a5⟩;have ai:=aj.mo a5 Bg;refine(O 6)<|Lb ((t+1),C) ?_;dsimp only;rw[x];exact⟨X,by rw[GS];omega,a1,ai⟩
   .obtain rfl:t=3:=X;refine(O 1) ?_;refine KW.done<|HX Z ?_;grind
 .omega
end
section
variable{α:Type}[Inhabited α]{enc:α->Ah}{cf:α->α->H}
def vD{e:Ad}{g f:Y}{j:Ah}(k:CmpAt e g f j enc cf)(N:Y)(d:Ap α)(a b:Y)(m:N=d.size)(i:a<=b)(l:b<=d.size)(hsz:d.size<=1000000000)(w:Ad)(h:RowAt e w g enc d):
 Bn prog 294 [.slice (J ⟨g,0,Aa⟩) N N,U (a:H),U (b:H),.func (.func f) #[j] #[]] w fun v w'=>v=.tuple #[]/\RowAt e w' g enc (insertionSort (Bq cf) d a b)/\(insertionSort (Bq cf) d a b).size=d.size:=by
 subst m;exact vE k d a b i l hsz w h
def Aae{e:Ad}{g f:Y}{j:Ah}(k:CmpAt e g f j enc cf)(N:Y)(d:Ap α)(a b:Y)(m:N=d.size)(i:a<b)(l:b<=d.size)(hsz:d.size<=1000000000)(w:Ad)(h:RowAt e w g enc d):
 Bn prog 298 [.slice (J ⟨g,0,Aa⟩) N N,U (a:H),U (b:H),.func (.func f) #[j] #[]] w fun v w'=>v=.tuple #[]/\RowAt e w' g enc (reverseRange d a b)/\(reverseRange d a b).size=d.size:=by
 subst m;exact Aaf k d a b i l hsz w h
def pdq_s{P:Ad}{g f:Y}{rv:Ah}(T:CmpAt P g f rv enc cf)(hO:SWO (Bq cf))(N:Y)(hsz:N<=1000000000):∀(m a b limit:Y) (d:Ap α) (w:Ad),b-a<m->N=d.size->a<=b->b<=d.size->limit<=1000->Below (Bq cf) a b d->RowAt P w g enc d->
 Bn prog 282 [.slice (J ⟨g,0,Aa⟩) N N,U (a:H),U (b:H),U (limit:H),.func (.func f) #[rv] #[]] w fun v w'=>v=.tuple #[]/\RowAt P w' g enc (pdq (Bq cf) d a b limit Af Af)/\(pdq (Bq cf) d a b limit Af Af).size=d.size:=by
 intro m
 induction m with
 |zero=>
  simp
 |succ m ih=>
  intro a b limit d w hm hN b4 hb bs hB h;subst hN;refine Bw func282 Z ntmps282 Be Z ?_;refine(O 9)<|Lo (fun((x,y,i,pr,e,wr):Y×Y×Y×(Ar×Ar)×(Ap α)×Ad)=>(y-x<m+1/\x<=y/\y<=d.size/\i<=1000/\Below (Bq cf) x y e/\e.size=d.size/\pdq (Bq cf) e x y i pr.1 pr.2=pdq (Bq cf) d a b limit Af Af/\RowAt P wr g enc e,[(0,.slice (J ⟨g,0,Aa⟩) d.size d.size),(1,U x),(2,U y),(3,U i),(4,.func (.func f) #[rv] #[]),(10,.bool pr.1),(11,.bool pr.2)],wr,y-x)) (a,b,limit,(Af,Af),d,w) ?_ ?_
  .grind
  .rintro⟨x,y,i,⟨l,k⟩,e,wr⟩⟨b1,a7,bx,b2,bn,a0,he,hr⟩;generalize pdq (Bq cf) d a b limit Af Af=R at he;refine(O 14)<|Zi (fun bq=>?_) fun bq=>?_
   .rw[pdq_small X]at he;refine(O 6∘Zc (vD T d.size e x y a0.symm a7 X X wr hr)) ?_;rintro _ w2⟨rfl,E,a3⟩;refine(O 1) ?_;refine Gh<|HX Z ?_;grind
   .refine(O 7)<|Zi (fun h0=>?_) fun h0=>?_
    .rw[pdq_heap X h0]at he;refine(O 6∘Zc (vj T d.size e x y a0.symm X X X wr hr)) ?_;rintro _ w2⟨rfl,E,a3⟩;refine(O 1) ?_;refine Gh<|HX Z ?_;grind
    .have G:x+12<y:=X;have F:=rd_facts (wb:=l) (wp:=k) (limit:=i) hO partialInsertionSort_holds reverseRange_holds (show x<y by omega) (show y<=e.size by omega) bn;refine(O 3)<|Ld (fun((j,V,w1):Y×(Ap α)×Ad)=>(V=(rd (Bq cf) e x y i l k).d1/\j=(rd (Bq cf) e x y i l k).lim/\RowAt P w1 g enc V,[(0,.slice (J ⟨g,0,Aa⟩) d.size d.size),(1,U x),(2,U y),(3,U j),(4,.func (.func f) #[rv] #[]),(10,.bool l),(11,.bool k),(12,U (((y-x):Y):H))],w1)) ?_ ?_
     .rcases l with _|_
      .refine(O 11∘Zc (rB T d.size e x y a0.symm G X X wr hr)) ?_;rintro _ w2⟨rfl,E,a3⟩;refine(O 6∘Lm ((i-1),(breakPatterns e x y),w2)) ?_;exact⟨Z,Z,E⟩
      .refine(O 6∘Lm (i,e,wr)) ?_;exact⟨Z,Z,hr⟩
     .rintro⟨j,V,w1⟩⟨a1,I,bc⟩;have F1:=F.1;rw[<-a1]at F1;refine(O 6∘Zc (zh T d.size V x y X G X X w1 bc)) ?_;rintro _ w2⟨rfl,E⟩;refine(O 8) ?_;have bm:(rd (Bq cf) e x y i l k).c=choosePivot (Bq cf) V x y:=by rw[a1];rfl
      rw[<-bm];have F3:=F.2.2.1
      have a5:OS (rd (Bq cf) e x y i l k).c.2=2↔(rd (Bq cf) e x y i l k).c.2=.decreasing:=by
       cases(rd (Bq cf) e x y i l k).c.2<;>simp[OS]
      refine Ld (fun((ph,e2,L):(Y×Y)×(Ap α)×Ad)=>(e2=(rd (Bq cf) e x y i l k).d2/\ph.1=(rd (Bq cf) e x y i l k).pivot/\ph.2=OS (rd (Bq cf) e x y i l k).hint/\RowAt P L g enc e2,[(0,.slice (J ⟨g,0,Aa⟩) d.size d.size),(1,U x),(2,U y),(3,U j),(4,.func (.func f) #[rv] #[]),(10,.bool l),(11,.bool k),(12,U (((y-x):Y):H)),(13,U ((ph.1:Y):H)),(14,U ((ph.2:Y):H))],L)) ?_ ?_
      .refine(O 4)<|Zi (fun hh=>?_) fun hh=>?_
       .have hD:=rd_dec (a5.1 X);refine(O 6∘Zc (Aae T d.size V x y X X X X w2 E)) ?_;rintro _ L⟨rfl,A,b0⟩;refine(O 14∘Lm ((y-1-((rd (Bq cf) e x y i l k).c.1-x),1),(reverseRange V x y),L)) ?_;exact⟨by rw[hD.1,a1],by rw[hD.2.1],by rw[hD.2.2];rfl,A⟩
       .have hD:=rd_not (fun z=>hh (by have:=a5.2 z;omega));refine(O 1∘Lm (((rd (Bq cf) e x y i l k).c.1,OS (rd (Bq cf) e x y i l k).c.2),V,w2)) ?_;grind
      .rintro⟨⟨pv,hn⟩,e2,L⟩⟨r,ai,bl,A⟩;have F4:=F.2.2.2.1;rw[<-r]at F4
       have b3:hn=1↔(rd (Bq cf) e x y i l k).hint=.increasing:=by
        rw[show hn=OS (rd (Bq cf) e x y i l k).hint from bl];cases(rd (Bq cf) e x y i l k).hint<;>simp[OS]
       refine(O 2)<|Ld (fun((o,w4):(Ap α)×Ad)=>(o=(rd (Bq cf) e x y i l k).pi.1/\(rd (Bq cf) e x y i l k).pi.2=Aj/\RowAt P w4 g enc o,[(0,.slice (J ⟨g,0,Aa⟩) d.size d.size),(1,U x),(2,U y),(3,U j),(4,.func (.func f) #[rv] #[]),(10,.bool l),(11,.bool k),(12,U (((y-x):Y):H)),(13,U pv),(14,U hn)],w4)) ?_ ?_
       .rcases l with _|_
        .have B:=rd_pi_no (lt:=Bq cf) (d:=e) (a:=x) (b:=y) (limit:=i) (wb:=Aj) (wp:=k) Z;refine(O 12∘Lm (e2,L)) ?_;exact⟨by rw[B];exact r,by rw[B],A⟩
        .rcases k with _|_
         .have B:=rd_pi_no (lt:=Bq cf) (d:=e) (a:=x) (b:=y) (limit:=i) (wb:=Af) (wp:=Aj) Z;refine(O 12∘Lm (e2,L)) ?_;exact⟨by rw[B];exact r,by rw[B],A⟩
         .refine(O 10)<|Zi (fun h1=>?_) fun h1=>?_
          .have B:=rd_pi_yes (lt:=Bq cf) (d:=e) (a:=x) (b:=y) (limit:=i) (wb:=Af) (wp:=Af) Bg;refine(O 6∘Zc (yT T d.size e2 x y X X X X L A)) ?_;rintro _ K⟨rfl,D,a9⟩;refine(O 1) ?_;rw[r,<-B]at D a9;refine HD Z (fun S=>?_) (fun S=>?_)
           .rw[r,<-B]at S;rw[pdq_done X X S]at he;refine Gh<|HX Z ?_;grind
           .rw[r,<-B]at S;refine(O 1∘Lm (((rd (Bq cf) e x y i Af Af).pi.1),K)) ?_;grind
          .have B:=rd_pi_no (lt:=Bq cf) (d:=e) (a:=x) (b:=y) (limit:=i) (wb:=Af) (wp:=Af) Bg;refine(O 1∘Lm (e2,L)) ?_;exact⟨by rw[B];exact r,by rw[B],A⟩
       .rintro⟨o,w4⟩⟨q,aj,bb⟩;have F6:=F.2.2.2.2.2.1;have F7:=F.2.2.2.2.2.2;rw[<-q]at F7;rw[<-(show pv=(rd (Bq cf) e x y i l k).pivot from ai)]at F6;have t:=bb.ext (Bf.drew w4);refine(O 2)<|Ld (fun(K:Ad)=>((decide (x>0) && !Bq cf o[x-1]! o[pv]!)=Aj/\RowAt P K g enc o,[(0,.slice (J ⟨g,0,Aa⟩) d.size d.size),(1,U x),(2,U y),(3,U j),(4,.func (.func f) #[rv] #[]),(10,.bool l),(11,.bool k),(12,U (((y-x):Y):H)),(13,U pv),(14,U hn)],K)) ?_ ?_
        .refine(Yr 17 (fun w'=>RowAt P w' g enc o) t) fun hS=>(Gv [0,1,2]) ?_;refine Kd 83 Z (fun a6=>?_) (fun a6=>?_)
         .refine(Gv [3,4,5,6,7]∘Yw 8 (he:=by exact fun _ a2=>Bp a2.bk (hi:=BQ X))∘Gv [9,10,11]∘Yw 12 (he:=by exact fun _ a2=>Bp a2.bk (hi:=BQ X))) ?_;refine GY 13 Z Be Z Z Z Z Z (T.call w4.drew _ _ t.mo) ?_;rintro _ K⟨rfl,ab⟩;refine⟨hS.ext ab,fun hS=>?_⟩;refine(Gv [14,15,16]∘Yd)<|Zi (fun hq=>?_) fun hq=>?_
          .have bh:Bq cf o[x-1]! o[pv]! =Aj:=AN hq;have RE:=round_eq (mid:=(partitionEqual (Bq cf) o x y pv).1) (d4:=(partitionEqual (Bq cf) o x y pv).2) hO (partitionEqual_holds (Bq cf)) a6 F6.1 F6.2 X F7.2 bh (Z:partitionEqual (Bq cf) o x y pv=((partitionEqual (Bq cf) o x y pv).1,(partitionEqual (Bq cf) o x y pv).2));have bf:=pdq_eq (lt:=Bq cf) (d:=e) (a:=x) (b:=y) (limit:=i) (wb:=l) (wp:=k) X h0 aj Bg Bg;rw[<-q,<-(show pv=(rd (Bq cf) e x y i l k).pivot from ai),<-I]at bf;have R1:=RE.1;have R2:=RE.2.1;have R3:=RE.2.2.1;have F71:=F7.1;have bj:=rd_lim_le (lt:=Bq cf) (d:=e) (a:=x) (b:=y) (limit:=i) (wb:=l) (wp:=k);have D:=t.ext ab;refine(O 7∘Zc (yS T d.size o x y pv X F6.1 F6.2 X X K D)) ?_;rintro _ w6⟨rfl,C,af⟩;refine(O 8)<|Lb (((partitionEqual (Bq cf) o x y pv).1),y,j,(l,k),((partitionEqual (Bq cf) o x y pv).2),w6) ?_;grind
          .refine(O 1∘Lm K) ?_;exact⟨by rw[show Bq cf o[x-1]! o[pv]! =Af from AL (Dk.1 hq)];simp,t.ext ab⟩
         .refine(Gv [3,4,5,6,7,8,9,10,11,12,13,14,15,16]∘Yd∘O 2∘Lm _) ?_;grind
        .rintro K⟨a4,D⟩;have RP:=round_part (mid:=(partition (Bq cf) o x y pv).1) (ap:=(partition (Bq cf) o x y pv).2.1) (d4:=(partition (Bq cf) o x y pv).2.2) hO (partition_holds (Bq cf)) F6.1 F6.2 X F7.2 Z;have bj:=rd_lim_le (lt:=Bq cf) (d:=e) (a:=x) (b:=y) (limit:=i) (wb:=l) (wp:=k);have p:pv=(rd (Bq cf) e x y i l k).pivot:=ai;have ao:=pdq_left (lt:=Bq cf) (d:=e) (a:=x) (b:=y) (limit:=i) (wb:=l) (wp:=k) X h0 aj (by rw[<-q,<-p];exact a4) (by rw[<-q,<-p];exact⟨RP.1,RP.2.1⟩);have al:=pdq_right (lt:=Bq cf) (d:=e) (a:=x) (b:=y) (limit:=i) (wb:=l) (wp:=k) X h0 aj (by rw[<-q,<-p];exact a4) (by rw[<-q,<-p];exact⟨RP.1,RP.2.1⟩);rw[<-q,<-p,<-I]at ao al;have F71:=F7.1;refine(O 7∘Zc (yR T d.size o x y pv X F6.1 F6.2 X X K D)) ?_;rintro _ w6⟨rfl,C,af⟩;refine(O 34) ?_;generalize partition (Bq cf) o x y pv=Q at RP ao al C af;obtain⟨n,ap,W⟩:=Q;obtain⟨P1,P2,P3,P4,P5,P6,P7⟩:=RP;simp only at P1 P2 P3 P4 P5 P6 P7 ao al C af;refine Zi (fun bi=>?_) fun bi=>?_
         .have PL:=pdq_sorts (Bq cf) hO W x n j Af Af X X P4;refine(O 14∘Zc (ih x n j W w6 X X X X X P4 C)) ?_;rintro _ w7⟨rfl,ba,a8⟩;refine(O 7)<|Lb ((n+1),y,j,(decide (n-x≥(y-x)/8),ap),(pdq (Bq cf) W x n j Af Af),w7) ?_;grind
         .have PL:=pdq_sorts (Bq cf) hO W (n+1) y j Af Af X X P5;refine(O 15∘Zc (ih (n+1) y j W w6 X X X X X P5 C)) ?_;rintro _ w7⟨rfl,ba,a8⟩;refine(O 6)<|Lb (x,n,j,(decide (y-n≥(y-x)/8),ap),(pdq (Bq cf) W (n+1) y j Af Af),w7) ?_;grind
end
end
section
attribute [local irreducible] OW KW QW EX GW NV
open Go.Sort Bz
section
variable{α:Type}[Inhabited α]{enc:α->Ah}{cf:α->α->H}
def Acq{a:Ad}{g f:Y}{k:Ah}(r:CmpAt a g f k enc cf)(l:SWO (Bq cf))(d:Ap α)(h0:0<d.size)(hsz:d.size<=1000000000)(w:Ad)(h:RowAt a w g enc d):
 Bn prog 264 [.slice (J ⟨g,0,Aa⟩) d.size d.size,.func (.func f) #[k] #[]] w fun v w'=>v=.tuple #[]/\∃d':Ap α,d'.toList.Perm d.toList/\d'.size=d.size/\(∀i j,i<j->j<d'.size->Bq cf d'[j]! d'[i]! =Aj)/\RowAt a w' g enc d':=by
 have q:Ea d.size<64:=(Ub X).2 X
 have t:Go.Lib.bitLen (d.size:H).toNat=Ea d.size+1:=by
  rw[TD,Go.Proofs.bitLen_eq _ X];unfold bitsLen;rw[Ag X]
 refine Bw Bi Z ntmps264 Be Z ?_;refine(O 11∘Zc (Hc func109 Be (Tryz.bits_Len (d.size:H) w X X))) ?_;rintro _ A⟨rfl,rfl⟩;refine(O 1) ?_;rw[t];refine(Zc (pdq_s r l d.size hsz (d.size+1) 0 d.size (Ea d.size+1) d _ X Z X X X (.inl Z) h)) ?_;rintro _ y⟨rfl,p,C⟩;refine(O 1) ?_;refine KW.done<|HX Z ?_;obtain⟨n,m⟩:=pdq_sorts (Bq cf) l d 0 d.size (Ea d.size+1) Af Af X X (.inl Z);obtain⟨o,_,B⟩:=n;refine⟨Z,_,?_,o,fun i j e D=>m i j X e X,p⟩;have E:∀x:Ap α,x.size=d.size->x.extract 0 d.size=x:=Bg;grind
end
abbrev Plc(n:Y):={i:Y//i<n}
def QX{n:Y}(x:Plc n):Ah:=U (x.1:H)
section
variable{s:Bh}{K b:Y}{rank:Bj}
def Aas(hk:Key s K rank b):SWO (Bq fun x y:Plc (Ajb s)=>Mj rank b x.1 y.1):=by
 have e:=hk.neg;refine⟨fun x=>AN fun h=>?_,fun x y z d a=>AL ?_,fun x y z d a=>AN fun h=>?_⟩
 .rcases(e _ _ x.2 x.2).1 h with q|q
  .exact xl q
  .omega
 .have d:=(e _ _ x.2 y.2).1 (AO d);have a:=(e _ _ y.2 z.2).1 (AO a);refine(e _ _ x.2 z.2).2 ?_;rcases d with d|⟨m,j⟩
  .rcases a with a|⟨l,i⟩
   .exact .inl (jU d a)
   .grind
  .grind
 .have d:=fun q=>AR d ((e _ _ x.2 y.2).2 q);have a:=fun q=>AR a ((e _ _ y.2 z.2).2 q);have f:=(e _ _ x.2 z.2).1 h;rcases Zh (pre s K x.1) (pre s K y.1)with q|q|q
  .grind
  .grind
  .rcases f with f|⟨k,g⟩
   .exact a (.inl (jU q f))
   .grind
def mu(hk:Key s K rank b)(p:Ajb rank=Ajb s)(h0:0<Ajb s)(hn:Ajb s<=1000000000)(hb:b<=1000000000)(L:∀x∈rank,x<=1000000000)(g k:Y)(P:k≠g)(o:Bj)(C:o.Perm (BF (Ajb s)))(w:Ad)(hg:Bk w g 3 (BD .i64 o))(q:Bk w k 3 (BD .i64 rank)):
 Bn prog 264 [.slice (J ⟨g,0,Aa⟩) (Ajb s) (Ajb s),.func (.func 265) #[.agg (NJ (J ⟨k,0,Aa⟩) (Ajb s) (Ajb s) b).toArray] #[]] w fun v w'=>v=.tuple #[]/\∃o',Sd s K o'/\Bk w' g 3 (BD .i64 o')/\Mo w w' [g]:=by
 haveI:Inhabited (Plc _):=⟨⟨0,h0⟩⟩
 have V:CmpAt w g 265 (.agg (NJ (J ⟨k,0,Aa⟩) (Ajb s) (Ajb s) b).toArray) (QX (n:=Ajb s)) (fun x y=>Mj rank b x.1 y.1):=by
  refine⟨fun W x y Q=>?_,fun _=>rfl,⟨_,Z⟩⟩;have hW:=q.mo Q Bg;have:=sk _ (Ajb s) b _ x.1 y.1 X X X hb L _ W hW.sl;rw[p]at this;exact this
 have t:Ajb o=Ajb s:=by rw[C.length_eq,Hp]
 have f:∀i∈o,i<Ajb s:=Bg
 have hd:∀l,(D:∀i∈l,i<Ajb s)->Jd QX (l.pmap (fun i h=>(⟨i,h⟩)) D).toArray=BD .i64 l:=fun l D=>by
  unfold Jd BD QX;rw[WH];simp
 have I:(o.pmap (fun i h=>(⟨i,h⟩:Plc _)) f).toArray.size=Ajb s:=by simp[t]
 have a:RowAt w w g (QX) (o.pmap (fun i h=>(⟨i,h⟩)) f).toArray:=⟨Bg,Mo.Agk (Bf.refl w) _⟩;have E:=Acq V (Aas hk) _ X X w a;rw[I]at E;refine E.mono ?_;rintro v w'⟨e,B,N,G,m,d⟩
 have r:(B.toList.map (·.1)).Perm o:=by
  have:=N.map (fun x:Plc (Ajb s)=>x.1);rwa[WH,List.pmap_eq_map,List.map_id']at this
 refine⟨e,_,Sd.Aja hk (r.trans C) (fun i j T S A=>?_),?_,d.mo⟩
 .simp at T S;have:=AR (m i j A X);grind
 .have:BD .i64 (B.toList.map (·.1))=Jd QX B:=by simp[BD,Jd,QX]
  rw[this];exact d.bk
end
end
end Go.Proofs.YtkmlafmjaeeanaaGreatDoor
