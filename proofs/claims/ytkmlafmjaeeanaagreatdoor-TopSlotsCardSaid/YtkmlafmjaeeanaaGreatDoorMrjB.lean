/- TopSlots, part B: plain facts and functions of fields, bits, runs, rotations and sorting. -/
import Derived.Test.YtkmlafmjaeeanaaGreatDoorMrjA
set_option linter.all false
set_option maxHeartbeats 2000000
set_option maxRecDepth 20000
open Go Go.RowKit Go.Proofs.Tryz
open _root_ renaming rfl→Z,Nat→Y,Int→H,List→Ae,if_neg→Ag,if_pos→Ai,Array→Ap,congrArg→Ar,Option→Av,Bool→Aw,trivial→AB,UInt8→AH,String→AJ,absurd→AK,decide_eq_true→AM,decide_eq_false→AN,of_decide_eq_true→AO,dif_pos→AQ,of_decide_eq_false→AR
open _root_.Array renaming replicate→JW
open _root_.Bool renaming true→Af,false→Aj
open _root_.Go renaming World→Ad,Value→Ah,TypeId→Ay,Addr→AC,Operand→AD,Program→AE,Act→AF,Oper→AG,IntKind→AI,Code→AL,Exit→AP
open _root_.List renaming range→BE,replicate→BG,length→DW,Pairwise→GS,range'→GX,toArray→Lg,Perm→Nf,cons→Qc,getD→TK,length→Aim
open _root_.Nat renaming blt→BL,log2→DL,beq→Jw,reducePow→Lh,cast→Mf,strongRecOn→Ub
open _root_.Option renaming some→Ns,some→X,none→Aa
open _root_.Prod renaming mk→Qq
open _root_.UInt8 renaming ofNat→BS
namespace Go.Proofs.YtkmlafmjaeeanaaGreatDoor
namespace Fld
open Go.Proofs.YtkmlafmjaeeanaaGreatDoor
def Fi(c:AH):Aw:=decide (48<=c.toNat) && decide (c.toNat<=55)
def DM(c:AH):Aw:=decide (48<=c.toNat) && decide (c.toNat<=57)
def HR(a b:Y)(c:AH):Aw:=decide (c.toNat=a)||decide (c.toNat=b)
def Fh(base:Y):Y->Bg->Y
 |n,[]=>n
 |n,c::l=>Fh base (if n<=9007199254740992 then base*n+(c.toNat-48)else n) l
def gM(base:Y):∀(l m:Bg) (n:Y),Fh base n (l++m)=Fh base (Fh base n l) m
 |[],_,_=>rfl
 |c::l,m,n=>by simp only[FM,Fh];exact gM base l m _
def YC(base:Y)(l:Bg)(c:AH)(n:Y):Fh base n (l++[c])=if Fh base n l<=9007199254740992 then base*Fh base n l+(c.toNat-48)else Fh base n l:=by
 rw[gM];rfl
def num(s:Bg):Y×Y:=
 let s1:=s.dropWhile (HR 32 32)
 if(s1.dropWhile Fi).dropWhile (HR 32 0)≠[]then(0,150)
 else if 9007199254740992<Fh 8 0 (s1.takeWhile Fi)then(0,3)else(Fh 8 0 (s1.takeWhile Fi),0)
def dec(s:Bg):Y×Y:=
 if s=[]∨(s.head? =X 48/\s≠[48])then(0,150)
 else if s.all DM then(if 9007199254740992<Fh 10 0 s then(0,3)else(Fh 10 0 s,0))else(0,150)
def Lr(d:Y):AH:=BS (48+d)
def Dk(n:Y):Y->Bg
 |0=>[]
 |k+1=>Dk (n/8) k++[Lr (n%8)]
def QT:∀(k n:Y),Aim (Dk n k)=k
 |0,_=>rfl
 |k+1,n=>by simp[Dk,QT k]
def Ei(n width:H):Bg×Y:=
 if width<2∨20<width then([],2)
 else if n<0∨n/8 ^ (width.toNat-1)≠0 then([],150)
 else(Dk n.toNat (width.toNat-1)++[0],0)
def Ve:∀(k n:Y),Dk n (k+1)=Lr (n/8 ^ k%8)::Dk n k
 |0,n=>by simp[Dk]
 |k+1,n=>by
  rw[Dk,Ve k (n/8)];simp only[Dk,FM,Qc.injEq,and_true];rw[WP,IQ,OD 8]
def Cx(n:Y):Bg:=BG n 0
def cut(s:Bg):Bg:=s.takeWhile (· !=0)
def text(s:Bg)(width:H):Bg×Y:=
 if width<0∨512<width then([],2)
 else if width<Aim s∨cut s≠s then([],150)
 else(s++Cx (width.toNat-Aim s),0)
def Pb:∀(s:Bg) (c:AH),Lib.indexByte s c=-1/\c∉s∨∃i:Y,Lib.indexByte s c=i/\i<Aim s/\s.takeWhile (· !=c)=s.take i/\c∈s
 |[],c=>.inl ⟨Z,Bl⟩
 |b::s,c=>by
  unfold Lib.indexByte;by_cases h:b=c
  .simp_all
  .rcases Pb s c with⟨h1,h2⟩|⟨i,h1,h2,h3,h4⟩
   .grind
   .right;refine⟨i+1,?_,Bh,by simp_all,Bh⟩;grind
def Uv(s:Bg):cut s=s↔(0:AH)∉s:=by
 unfold cut
 induction s with
 |nil=>simp
 |cons b s ih=>
  by_cases h:b=0
  .simp_all
  .simp[h,ih,Ne.symm h]
def fx(s:Bg):Aim (cut s)<=Aim s:=by
 unfold cut;exact(List.takeWhile_prefix _).length_le
def Uw{s:Bg}(h:(0:AH)∉s):cut s=s:=(Uv s).2 h
def Fk(s:Bg):Y->Y
 |0=>0
 |i+1=>Fk s i+if 148<=i/\i<156 then 32 else(s.getD i 0).toNat
def VH(s:Bg):∀i,Fk s i<=255*i
 |0=>by simp[Fk]
 |i+1=>by
  have:=VH s i;have hc:(s.getD i 0).toNat<256:=(s.getD i 0).toNat_lt;simp only[Fk];grind
def sum(s:Bg):Y×Y:=if Aim s≠512 then(0,2)else(Fk s 512,0)
def OQ{x:Y}(h:¬x<10):Lib.decDigits x=Lib.decDigits (x/10)++[Lr (x%10)]:=by
 rw[Lib.decDigits,dif_neg h];rfl
def Lq{x:Y}(h:x<10):Lib.decDigits x=[Lr x]:=by rw[Lib.decDigits,AQ h];rfl
def QA(n:H):Bg:=if n<0 then[]else Lib.decDigits n.toNat
def nN(s:Bg)(k:Y)(h:k<Aim s):s.take (k+1)=s.take k++[s[k]]:=by
 simp
def XV(s:Bg)(k:Y)(h:k<Aim s):s.drop k=s[k]::s.drop (k+1):=Ds h
end Fld
namespace Fld
open Go.Proofs.YtkmlafmjaeeanaaGreatDoor
def NC{d:Y}(h:d<10):(Lr d).toNat=48+d:=by simp[Lr];omega
def SN:∀(k n:Y) (c:AH),c∈Dk n k->Fi c=Af
 |0,n,c,h=>by simp[Dk]at h
 |k+1,n,c,h=>by
  simp only[Dk,Dz,CG]at h;rcases h with h|rfl
  .exact SN k _ c h
  .simp only[Fi,Bool.and_eq_true,decide_eq_true_eq];rw[NC J];omega
def YB:∀(k n:Y),n/8 ^ k=0->n<=9007199254740992->Fh 8 0 (Dk n k)=n
 |0,n,h,hn=>by simp at h;simp[Dk,Fh,h]
 |k+1,n,h,hn=>by
  have ih:=YB k (n/8) (by simp_all;omega) J;rw[Dk,YC,ih,Ai J,NC J];omega
def yh{k n:Y}(hk:1<=k)(h:n/8 ^ k=0)(e:n<=9007199254740992):num (Dk n k++[0])=(n,0):=by
 obtain⟨j,rfl⟩:∃j,k=j+1:=⟨k-1,J⟩
 have i:(Dk n (j+1)++[0]).dropWhile (HR 32 32)=Dk n (j+1)++[0]:=by
  rw[Ve,FM,cY];simp only[HR,PP,decide_eq_true_eq];rw[NC J];omega
 have g:(Dk n (j+1)++[0]).takeWhile Fi=Dk n (j+1):=by
  rw[dh (fun a d=>SN _ _ a d)];simp[Fi]
 have f:(Dk n (j+1)++[0]).dropWhile Fi=[0]:=by
  rw[List.dropWhile_append_of_pos (fun a d=>SN _ _ a d)];decide
 unfold num;simp only[i,g,f,YB _ _ h e];rw[Ag Bc,Ag J]
def uW{l m:Bg}(h:l≠[]):(l++m).head? =l.head?:=by
 cases l with
 |nil=>grind
 |cons a l=>rfl
def XP(n:Y):Lib.decDigits n≠[]:=by
 by_cases h:n<10
 .rw[Lq h];simp
 .rw[OQ h];simp
def fI(n:Y):∀c∈Lib.decDigits n,DM c=Af:=by
 induction n using Ub with
 |ind n ih=>
  intro c e
  have a:∀d,d<10->DM (Lr d)=Af:=fun d a=>by
   simp only[DM,Bool.and_eq_true,decide_eq_true_eq];rw[NC a];omega
  by_cases h:n<10
  .rw[Lq h,CG]at e;grind
  .rw[OQ h,Dz,CG]at e;grind
def sY(n:Y)(d:0<n):(Lib.decDigits n).head?≠X 48:=by
 induction n using Ub with
 |ind n ih=>
  by_cases h:n<10
  .rw[Lq h];simp only[List.head?_cons,ne_eq,Ns.injEq];intro e;have:=NC h;simp_all
  .rw[OQ h];have a:=XP (n/10);rw[uW a];grind
def uw(n:Y)(a:n<=9007199254740992):Fh 10 0 (Lib.decDigits n)=n:=by
 induction n using Ub with
 |ind n ih=>
  by_cases h:n<10
  .rw[Lq h];simp only[Fh];rw[Ai J,NC h];omega
  .rw[OQ h,YC,ih _ J J,Ai J,NC J];omega
def sV(n:Y)(d:n<=9007199254740992):dec (Lib.decDigits n)=(n,0):=by
 unfold dec;rw[Ag,Ai (Ng.2 (fI n)),uw n d,Ag J];rintro(h|⟨f,e⟩)
 .exact XP n h
 .rcases Jy n with rfl|a
  .exact e (by rw[Lq Bl];rfl)
  .exact sY n a f
def fy{s:Bg}(h:cut s=s)(k:Y):cut (s++Cx k)=s:=by
 have a:=(Uv s).1 h;unfold cut Cx
 rw[dh (by
  grind)]
 simp
end Fld
section
def good(p:Bg)(i:Y):Prop:=p[i]? =X 47/\1<=i/\i<=155/\i+2<=Aim p/\Aim p<=i+101
instance(p:Bg)(i:Y):Decidable (good p i):=by unfold good;infer_instance
def RI(p:Bg)(r:Bg×Bg×Aw):Prop:=
 (Aim p<=100/\r=([],p,Af))∨(100<Aim p/\∃i,good p i/\(∀j,j<i->¬good p j)/\r=(p.take i,p.drop (i+1),Af))∨(100<Aim p/\(∀j,¬good p j)/\r=([],[],Aj))
def Aco{p:Bg}{r f:Bg×Bg×Aw}(h:RI p r)(e:RI p f):r=f:=by
 rcases h with⟨g,rfl⟩|⟨g,i,l,m,rfl⟩|⟨g,l,rfl⟩
 .rcases e with⟨_,rfl⟩|⟨a,_⟩|⟨a,_⟩
  .rfl
  .omega
  .omega
 .rcases e with⟨a,_⟩|⟨_,j,d,k,rfl⟩|⟨_,d,_⟩
  .omega
  .grind
  .grind
 .rcases e with⟨a,_⟩|⟨_,j,d,_⟩|⟨_,_,rfl⟩
  .omega
  .grind
  .rfl
def uM{p:Bg}{i:Y}(h:i<Aim p):good p i↔p[i].toNat=47/\1<=i/\i<=155/\i+2<=Aim p/\Aim p<=i+101:=by
 unfold good;rw[BN h,Ns.injEq];constructor
 .simp_all
 .rintro⟨d,a⟩;exact⟨Ll.1 d,a⟩
def BP(p:Bg):Bg×Bg×Aw:=
 if Aim p<=100 then([],p,Af)else match (BE (Aim p)).find? (fun i=>decide (good p i))with
  |some i=>(p.take i,p.drop (i+1),Af)
  |none=>([],[],Aj)
def nk(p:Bg):RI p (BP p):=by
 unfold BP;split
 .rename_i h;exact .inl ⟨h,Z⟩
 .rename_i h;split
  .rename_i i e;refine .inr (.inl ⟨J,i,?_,?_,Z⟩)
   .grind
   .simp_all
  .rename_i a;refine .inr (.inr ⟨J,?_,Z⟩);intro j d;rw[List.find?_range_eq_none]at a;have:=a j (by have:=d.2.2;omega);grind
def nt{p:Bg}{r:Bg×Bg×Aw}(h:RI p r):r=BP p:=Aco h (nk p)
def aI{p:Bg}(h:(BP p).2.2=Af)(m:p≠[]):
 Aim (BP p).2.1<=100/\(BP p).2.1≠[]/\Aim (BP p).1<=155/\(∀c∈(BP p).1,c∈p)/\(∀c∈(BP p).2.1,c∈p)/\(if(BP p).1≠[]then(BP p).1++[47]++(BP p).2.1 else(BP p).2.1)=p/\Aim p<=256:=by
 rcases nk p with⟨j,e⟩|⟨j,i,g,n,e⟩|⟨j,g,e⟩
 .grind
 .rw[e];obtain⟨k,t,r,q,o⟩:=g;have a:i<Aim p:=J;rw[BN a,Ns.injEq]at k
  have d:p.take i≠[]:=fun l=>by
   simp_all
  refine⟨Bx,fun l=>?_,Bx,fun c f=>HH f,fun c f=>TR f,?_,J⟩
  .simp_all;omega
  .simp only;rw[Ai d];have:=Ho i p;rw[Ds a,k]at this;grind
 .grind
end
namespace Ust
open Fld
abbrev By:=Bg
structure Hd where
 path:By
 size:H
 kind:Y
 mode:H
 time:H
 link:By
 n0:By
 n1:By
 i0:H
 i1:H
 deriving DecidableEq
def IT:Hd:=⟨[],0,0,0,0,[],[],[],0,0⟩
def sl(s:By)(k n:Y):By:=(s.drop k).take n
def DO(s:By)(n:Y):By:=s++Cx (n-Aim s)
def oc(n:H)(k:Y):By:=Dk n.toNat k++[0]
def magic:By:=[117,115,116,97,114,0,48,48]
def SL(n:Y):Aim (Cx n)=n:=by simp[Cx]
def SG{s:By}{n:Y}(h:Aim s<=n):Aim (DO s n)=n:=by unfold DO;rw[BA,SL];omega
def kV(n:H)(k:Y):Aim (oc n k)=k+1:=by unfold oc;rw[BA,QT];rfl
def Hv(h:Hd)(name:By):Ae By:=[DO name 100,oc h.mode 7,oc h.i0 7,oc h.i1 7,oc h.size 11,oc h.time 11]
def HV(h:Hd)(pre:By):Ae By:=[[BS h.kind],DO h.link 100,magic,DO h.n0 32,DO h.n1 32,oc 0 7++oc 0 7,DO pre 155,Cx 12]
def MV(h:Hd)(pre name s:By):By:=(Hv h name).flatten++s++(HV h pre).flatten
def Iq(h:Hd):Y:=Fk (MV h (BP h.path).1 (BP h.path).2.1 (Cx 8)) 512
def Rr(n:Y):By:=Dk n 6++[0,32]
def CW(h:Hd):By:=MV h (BP h.path).1 (BP h.path).2.1 (Rr (Iq h))
def IU(k:Y):Prop:=k=48∨k=53∨k=120∨k=103
instance(k:Y):Decidable (IU k):=by unfold IU;infer_instance
def CH(n:H)(m:H):Prop:=0<=n/\n<=m
instance(n m:H):Decidable (CH n m):=by unfold CH;infer_instance
def KE(s:By)(m:Y):Prop:=Aim s<=m/\(0:AH)∉s
instance(s:By)(m:Y):Decidable (KE s m):=by unfold KE;infer_instance
structure May(h:Hd):Prop where
 kind:IU h.kind
 path:(0:AH)∉h.path
 link:KE h.link 100
 n0:KE h.n0 31
 n1:KE h.n1 31
 mode:CH h.mode 2097151
 i0:CH h.i0 2097151
 i1:CH h.i1 2097151
 size:CH h.size 8589934591
 time:CH h.time 8589934591
def vZ(h:Hd):May h↔IU h.kind/\(0:AH)∉h.path/\KE h.link 100/\KE h.n0 31/\KE h.n1 31/\CH h.mode 2097151/\CH h.i0 2097151/\CH h.i1 2097151/\CH h.size 8589934591/\CH h.time 8589934591:=
 ⟨fun⟨a,b,c,d,e,f,g,i,j,k⟩=>⟨a,b,c,d,e,f,g,i,j,k⟩,fun⟨a,b,c,d,e,f,g,i,j,k⟩=>⟨a,b,c,d,e,f,g,i,j,k⟩⟩
instance(h:Hd):Decidable (May h):=decidable_of_iff _ (vZ h).symm
def JJ(h:Hd):By×Y:=
 if(BP h.path).2.2=Aj∨h.path=[]then([],140)else if May h then(CW h,0)else([],160)
def LG(s:By):By:=if cut (sl s 345 155)≠[]then cut (sl s 345 155)++[47]++cut (sl s 0 100)else cut (sl s 0 100)
def Pd(s:By):Y:=if(s.getD 156 0).toNat=0 then 48 else(s.getD 156 0).toNat
def QK(s:By):Hd:=⟨LG s,(num (sl s 124 12)).1,Pd s,(num (sl s 100 8)).1,(num (sl s 136 12)).1,cut (sl s 157 100),cut (sl s 265 32),cut (sl s 297 32),(num (sl s 108 8)).1,(num (sl s 116 8)).1⟩
structure OkD(s:By):Prop where
 len:Aim s=512
 magic:sl s 257 8=magic
 mode:(num (sl s 100 8)).2=0
 i0:(num (sl s 108 8)).2=0
 i1:(num (sl s 116 8)).2=0
 size:(num (sl s 124 12)).2=0
 time:(num (sl s 136 12)).2=0
 sum:(num (sl s 148 8)).2=0
 sums:(num (sl s 148 8)).1=Fk s 512
 path:LG s≠[]
def yq(s:By):OkD s↔Aim s=512/\sl s 257 8=magic/\(num (sl s 100 8)).2=0/\(num (sl s 108 8)).2=0/\(num (sl s 116 8)).2=0/\(num (sl s 124 12)).2=0/\(num (sl s 136 12)).2=0/\(num (sl s 148 8)).2=0/\(num (sl s 148 8)).1=Fk s 512/\LG s≠[]:=
 ⟨fun⟨a,b,c,d,e,f,g,i,j,k⟩=>⟨a,b,c,d,e,f,g,i,j,k⟩,fun⟨a,b,c,d,e,f,g,i,j,k⟩=>⟨a,b,c,d,e,f,g,i,j,k⟩⟩
instance(s:By):Decidable (OkD s):=decidable_of_iff _ (yq s).symm
def He(s:By):Hd×Y:=if OkD s then(QK s,0)else(IT,160)
def nd:∀(L:Ae By) (i k n:Y) (h:i<Aim L),((L.map DW).take i).sum=k->Aim (L[i])=n->sl L.flatten k n=L[i]
 |[],i,k,n,h,_,_=>by simp at h
 |a::L,0,k,n,h,hk,hn=>by
  simp at hk hn;subst hk hn;simp[sl]
 |a::L,i+1,k,n,h,hk,hn=>by
  simp only[Cp,Qi,List.sum_cons]at hk;have ih:=nd L i (k-Aim a) n (by simpa using h) J Bh;have hle:Aim a<=k:=J;simp only[List.getElem_cons_succ];rw[<-ih];unfold sl;rw[Nj,List.drop_append,Ot hle,Ev]
def nC{s t:By}:∀i,(∀k,k<i->¬(148<=k/\k<156)->s.getD k 0=t.getD k 0)->Fk s i=Fk t i
 |0,_=>rfl
 |i+1,h=>by
  simp only[Fk];rw[nC i (fun k hk=>h k J)];grind
def Adc{a b d c:By}(g:Aim a=148)(f:Aim b=8)(e:Aim d=8)(i:Y):Fk (a++b++c) i=Fk (a++d++c) i:=by
 apply nC;grind
def yi{n:Y}(h:n/8 ^ 6=0):num (Rr n)=(n,0):=by
 have i:(Dk n 6++[0,32]).dropWhile (HR 32 32)=Dk n 6++[0,32]:=by
  rw[Ve,FM,cY];simp only[HR,PP,decide_eq_true_eq];rw[NC J];omega
 have g:(Dk n 6++[0,32]).takeWhile Fi=Dk n 6:=by
  rw[dh (fun a d=>SN _ _ a d)];simp[Fi]
 have f:(Dk n 6++[0,32]).dropWhile Fi=[0,32]:=by
  rw[List.dropWhile_append_of_pos (fun a d=>SN _ _ a d)];decide
 unfold num Rr
 have e:n<=9007199254740992:=by
  have:=Nat.div_eq_zero_iff.1 h;omega
 simp only[i,g,f,YB _ _ h e];rw[Ag Bc,Ag J]
def SM{n:H}{k:Y}(hk:1<=k)(h0:0<=n)(h:n.toNat/8 ^ k=0)(hn:n<=9007199254740992):num (oc n k)=(n.toNat,0):=yh hk h J
def YP(h:Hd){a:By}(d:Aim a<=100):(Hv h a).map DW=[100,8,8,8,12,12]:=by
 simp only[Hv,Cp,EO,SG d,kV]
def nJ(h:Hd){pre:By}(a:Aim pre<=155)(h1:Aim h.link<=100)(h2:Aim h.n0<=32)(d:Aim h.n1<=32):(HV h pre).map DW=[1,100,8,32,32,16,155,12]:=by
 simp only[HV,Cp,EO,SG a,SG h1,SG h2,SG d,BA,kV,SL];rfl
def oO(h:Hd)(pre a s:By):MV h pre a s=(Hv h a++[s]++HV h pre).flatten:=by simp[MV]
def Sr{s:By}(h:(0:AH)∉s)(n:Y):cut (DO s n)=s:=fy (Uw h) _
def nD(s:By):Fk s 512/8 ^ 6=0:=by
 have:=VH s 512;omega
def aL(n:Y):Aim (Rr n)=8:=by rfl
def gv{h:Hd}{pre a s:By}(hm:May h)(m:Aim a<=100)(l:Aim pre<=155)(j:Aim s=8):
 Aim (MV h pre a s)=512/\∀(i k n:Y),i<15->(([100,8,8,8,12,12,8,1,100,8,32,32,16,155,12]:Bi).take i).sum=k->([100,8,8,8,12,12,8,1,100,8,32,32,16,155,12]:Bi)[i]? =X n->∃x,(Hv h a++[s]++HV h pre)[i]? =X x/\sl (MV h pre a s) k n=x:=by
 have o:=hm.link.1;have t:=hm.n0.1;have r:=hm.n1.1
 have f:(Hv h a++[s]++HV h pre).map DW=[100,8,8,8,12,12,8,1,100,8,32,32,16,155,12]:=by
  rw[DX,DX,YP h m,nJ h l o J J];simp[j]
 refine⟨?_,fun i k n q p g=>?_⟩
 .rw[oO,WB,f];rfl
 .have e:Aim (Hv h a++[s]++HV h pre)=15:=by simp[Hv,HV]
  have d:i<Aim (Hv h a++[s]++HV h pre):=J;refine⟨_,BN d,?_⟩;rw[oO];refine nd _ i k n d Bh ?_;rw[<-f,DP,BN d]at g;grind
def QB{n:H}{k:Y}{m:H}(h:CH n m)(hm:m<((8 ^ k:Y):H)):n.toNat/8 ^ k=0:=Nat.div_eq_zero_iff.2 (.inr (by have:=h.1;have:=h.2;omega))
def uE{s:By}{k:Y}{x:AH}(h:sl s k 1=[x]):s.getD k 0=x:=by
 unfold sl at h;rw[BX];by_cases a:k<Aim s
 .rw[Ds a,Qi,Ox]at h;grind
 .rw[Ot J]at h;grind
def uT{h:Hd}(hm:May h)(e:(BP h.path).2.2=Af)(f:h.path≠[]):Aim (CW h)=512:=by
 obtain⟨d,l,a,k,j,i,g⟩:=aI e f;exact(gv hm d a (aL _)).1
def NB{h:Hd}(hm:May h)(hs:(BP h.path).2.2=Af)(hp:h.path≠[]):He (CW h)=(h,0):=by
 obtain⟨G,s2,S,Q,P,N,s7⟩:=aI hs hp;obtain⟨i,a⟩:=gv (s:=Rr (Iq h)) hm G S (aL _);have v:=a 0 0 100 Bc Z Z;have t:=a 1 100 8 Bc Z Z;have r:=a 2 108 8 Bc Z Z;have p:=a 3 116 8 Bc Z Z;have o:=a 4 124 12 Bc Z Z;have n:=a 5 136 12 Bc Z Z;have m:=a 6 148 8 Bc Z Z;have l:=a 7 156 1 Bc Z Z;have k:=a 8 157 100 Bc Z Z;have j:=a 9 257 8 Bc Z Z;have g:=a 10 265 32 Bc Z Z;have f:=a 11 297 32 Bc Z Z;have d:=a 13 345 155 Bc Z Z;change ∃x,X _=X x/\_ at v t r p o n m l k j g f d;obtain⟨_,e,v⟩:=v;cases e;obtain⟨_,e,t⟩:=t;cases e;obtain⟨_,e,r⟩:=r;cases e;obtain⟨_,e,p⟩:=p;cases e;obtain⟨_,e,o⟩:=o;cases e;obtain⟨_,e,n⟩:=n;cases e;obtain⟨_,e,m⟩:=m;cases e;obtain⟨_,e,l⟩:=l;cases e;obtain⟨_,e,k⟩:=k;cases e;obtain⟨_,e,j⟩:=j;cases e;obtain⟨_,e,g⟩:=g;cases e;obtain⟨_,e,f⟩:=f;cases e;obtain⟨_,e,d⟩:=d;cases e;change sl (CW h) _ _=_ at v t r p o n m l k j g f d;change (Aim (CW h))=512 at i;have L:(0:AH)∉(BP h.path).2.1:=fun q=>hm.path (P _ q);have K:(0:AH)∉(BP h.path).1:=fun q=>hm.path (Q _ q);have C:=hm.mode;have B:=hm.i0;have A:=hm.i1;have y:=hm.size;have w:=hm.time;have n1:num (sl (CW h) 100 8)=(h.mode.toNat,0):=by rw[t];exact SM Bc C.1 (QB C Bc) (by have:=C.2;omega)
 have n2:num (sl (CW h) 108 8)=(h.i0.toNat,0):=by rw[r];exact SM Bc B.1 (QB B Bc) (by have:=B.2;omega)
 have W:num (sl (CW h) 116 8)=(h.i1.toNat,0):=by rw[p];exact SM Bc A.1 (QB A Bc) (by have:=A.2;omega)
 have V:num (sl (CW h) 124 12)=(h.size.toNat,0):=by rw[o];exact SM Bc y.1 (QB y Bc) (by have:=y.2;omega)
 have T:num (sl (CW h) 136 12)=(h.time.toNat,0):=by rw[n];exact SM Bc w.1 (QB w Bc) (by have:=w.2;omega)
 have n6:num (sl (CW h) 148 8)=(Iq h,0):=by rw[m];exact yi (nD _)
 have I:Fk (CW h) 512=Iq h:=by
  unfold CW Iq MV;refine Adc ?_ (aL _) (SL 8) _;rw[WB,YP h G];rfl
 have hk:Pd (CW h)=h.kind:=by
  unfold Pd;rw[uE l];have:=hm.kind;unfold IU at this;rcases this with e|e|e|e<;>rw[e]<;>rfl
 have D:LG (CW h)=h.path:=by
  unfold LG;rw[v,d,Sr L,Sr K];exact N
 have E:OkD (CW h):=⟨i,j,Bh,Bh,Bh,Bh,Bh,Bh,Bh,Bh⟩;unfold He;rw[Ai E];unfold QK;rw[D,hk,n1,n2,W,V,T,k,g,f,Sr hm.link.2,Sr hm.n0.2,Sr hm.n1.2];simp only[TD C.1,TD B.1,TD A.1,TD y.1,TD w.1]
end Ust
namespace Pax
open Fld
abbrev By:=Bg
structure Pr where
 key:By
 val:By
 deriving DecidableEq
def CN(s:By)(c:AH):By×By×Aw:=if c∈s then(s.takeWhile (· !=c),(s.dropWhile (· !=c)).drop 1,Af)else(s,[],Aj)
def ft(s:By)(c:AH):Aim (CN s c).1<=Aim s:=by
 unfold CN;split
 .exact(List.takeWhile_prefix _).length_le
 .simp
def Kz(s:By):Av (Pr×Y):=
 let d:=CN s 32
 let n:=(dec d.1).1
 if d.2.2=Af/\(dec d.1).2=0/\n<=Aim s/\Aim d.1+2<=n/\s.getD (n-1) 0=10 then
  let e:=CN ((s.drop (Aim d.1+1)).take (n-1-(Aim d.1+1))) 61
  if e.2.2=Af/\e.1≠[]then X (⟨e.1,e.2.1⟩,n)else Aa
 else Aa
def Fe:Y->By->Ae Pr->Ae Pr×Y
 |0,_,_=>([],170)
 |f+1,s,out=>if s=[]then(out,0)else match Kz s with
  |some (p,n)=>Fe f (s.drop n) (out++[p])
  |none=>([],170)
def GH(s:By):Ae Pr×Y:=if 262144<Aim s then([],3)else Fe (Aim s+1) s []
def tJ{s:By}{p:Pr}{n:Y}(h:Kz s=X (p,n)):2<=n/\n<=Aim s:=by
 unfold Kz at h;grind
def XM:∀(f:Y) (s:By) (out:Ae Pr),Aim s<f->Fe f s out=((if(Fe f s []).2=0 then out++(Fe f s []).1 else[]),(Fe f s []).2)/\∀f',Aim s<f'->Fe f' s out=Fe f s out
 |0,s,out,h=>by omega
 |f+1,s,out,h=>by
  by_cases hs:s=[]
  .subst hs;refine⟨by simp[Fe],fun f' h'=>?_⟩;obtain⟨g,rfl⟩:∃g,f'=g+1:=⟨f'-1,J⟩;simp[Fe]
  .rcases hd:Kz s with _|⟨p,n⟩
   .refine⟨by simp[Fe,hs,hd],fun f' h'=>?_⟩;obtain⟨g,rfl⟩:∃g,f'=g+1:=⟨f'-1,J⟩;simp[Fe,hs,hd]
   .obtain⟨n2,nl⟩:=tJ hd;have hl:Aim (s.drop n)<f:=by rw[CK];omega
    obtain⟨d,_⟩:=XM f (s.drop n) (out++[p]) hl;obtain⟨a,_⟩:=XM f (s.drop n) ([]++[p]) hl;refine⟨?_,fun f' h'=>?_⟩
    .rw[Fe,Ag hs,hd,Fe,Ag hs,hd];grind
    .obtain⟨g,rfl⟩:∃g,f'=g+1:=⟨f'-1,J⟩;rw[Fe,Ag hs,hd,Fe,Ag hs,hd];grind
def dl(n:Y):Y:=Aim (Lib.decDigits n)
def JH(r:Y):Y:=((BE 40).find? (fun d=>decide (1<=d/\dl (d+r)=d))).getD 0
def IsD(r d:Y):Prop:=1<=d/\d<40/\dl (d+r)=d/\∀d',1<=d'->d'<d->dl (d'+r)≠d'
def vE{r d:Y}(h:IsD r d):d=JH r:=by
 obtain⟨k,i,g,f⟩:=h;unfold JH
 have:(BE 40).find? (fun d=>decide (1<=d/\dl (d+r)=d))=X d:=by
  rw[List.find?_range_eq_some];refine⟨Bh,Bh,fun j e=>?_⟩;simp only[Bool.not_eq_true',decide_eq_false_iff_not,not_and];exact fun a=>f j a e
 grind
def rest(p:Pr):Y:=Aim p.key+Aim p.val+3
def CP(p:Pr):Y:=JH (rest p)+rest p
def Di(p:Pr):By:=Lib.decDigits (CP p)++[32]++p.key++[61]++p.val++[10]
def MC(k:By):Aw:=decide (k≠[]/\(61:AH)∉k)
def Ls:Ae Pr->Y->By->By×Y
 |[],_,out=>(out,0)
 |p::l,n,out=>if 262144<n+CP p then([],3)else Ls l (n+CP p) (out++Di p)
def NE(l:Ae Pr):By×Y:=if l.all (fun p=>MC p.key)then Ls l 0 []else([],170)
def fT:∀(n m:Y),n<=m->dl n<=dl m:=by
 intro n
 induction n using Ub with
 |ind n ih=>
  intro m h;unfold dl;by_cases d:m<10
  .rw[Lq d,Lq (by omega:n<10)];simp
  .rw[OQ d];by_cases a:n<10
   .rw[Lq a];simp
   .rw[OQ a];have:=ih (n/10) J (m/10) J;unfold dl at this;grind
def fU(n:Y):1<=dl n:=Kg.2 (XP n)
def fS:∀(k n:Y),n<10 ^ k->1<=k->dl n<=k
 |0,n,_,h=>by omega
 |1,n,h,_=>by
  unfold dl;rw[Lq J];simp
 |k+2,n,h,_=>by
  by_cases hn:n<10
  .unfold dl;rw[Lq hn];simp
  .have:=fS (k+1) (n/10) Bh J;unfold dl at this ⊢;rw[OQ hn];grind
end Pax
namespace Pth
abbrev Cl:=Ae (Bg)
def BO:Bg->Cl
 |[]=>[[]]
 |c::s=>if c=47 then[]::BO s else match BO s with
  |p::r=>(c::p)::r
  |[]=>[[c]]
def ZP(c:AH)(s:Bg):BO (c::s)=if c=47 then[]::BO s else match BO s with
 |p::r=>(c::p)::r
 |[]=>[[c]]:=rfl
def Vi:∀s,BO s≠[]
 |[]=>by simp[BO]
 |c::s=>by
  unfold BO;grind
def ZR:∀a b:Bg,(∀c∈a,c≠47)->BO (a++47::b)=a::BO b
 |[],b,_=>by rfl
 |c::a,b,h=>by
  have hc:c≠47:=h c Bl;rw[FM,ZP,Ag hc,ZR a b (fun x hx=>h x Bh)]
def ZS:∀a:Bg,(∀c∈a,c≠47)->BO a=[a]
 |[],_=>rfl
 |c::a,h=>by
  have hc:c≠47:=h c Bl;rw[ZP,Ag hc,ZS a (fun x hx=>h x Bh)]
def wt:Cl->Y
 |[]=>0
 |x::l=>Aim x+1+wt l
def Tt:∀s,wt (BO s)=Aim s+1
 |[]=>rfl
 |c::s=>by
  have ih:=Tt s;unfold BO;split
  .simp[wt,ih];omega
  .split
   .rename_i p r e;rw[e]at ih;simp[wt]at ih ⊢;omega
   .rename_i e;exact AK e (Vi s)
def VV:∀l:Cl,Aim l<=wt l
 |[]=>by simp[wt]
 |x::l=>by have:=VV l;simp[wt];omega
def bI:∀a b:Cl,wt (a++b)=wt a+wt b
 |[],b=>by simp[wt]
 |x::a,b=>by simp[wt,bI a b];omega
def bJ(q:Bg->Aw):∀l:Cl,wt (l.filter q)<=wt l
 |[]=>by simp[wt]
 |x::l=>by
  have:=bJ q l;rw[LY];split<;>simp[wt]<;>omega
def Is:Cl->Bg
 |[]=>[]
 |[x]=>x
 |x::y::l=>x++47::Is (y::l)
def YU:∀l:Cl,Go.Lib.join l [47]=Is l
 |[]=>rfl
 |[x]=>by simp[Go.Lib.join,List.intercalate,Is]
 |x::y::l=>by
  have ih:=YU (y::l);simp only[Go.Lib.join,List.intercalate,Is]at ih ⊢;simp_all
def jD:∀l:Cl,Aim (Is l)<=wt l
 |[]=>by simp[Is]
 |[x]=>by simp[Is,wt]
 |x::y::l=>by
  have:=jD (y::l);simp[Is,wt]at this ⊢;omega
def Pc(x:Bg):Aw:=decide (x≠[]/\x≠[46])
def kept(l:Cl):Cl:=l.filter Pc
def jF(l:Cl)(x:Bg):kept (l++[x])=if Pc x=Af then kept l++[x]else kept l:=by
 unfold kept;grind
def dd:Bg:=[46,46]
def fits(s:Bg):Prop:=∀c∈s,32<=c.toNat/\c.toNat<=126
instance(s:Bg):Decidable (fits s):=by unfold fits;infer_instance
def GF(s:Bg):Bg×Y:=
 if fits s/\dd∉BO s/\Is (kept (BO s))≠[]/\Aim (Is (kept (BO s)))<=120 then(Is (kept (BO s)),0)else([],140)
def Cy(s:Bg):Y:=if GF s=(s,0)then 0 else 140
end Pth
namespace Tar
open Fld Ust Pax Pth
abbrev By:=Bg
structure En where
 path:By
 data:By
 deriving DecidableEq
def Gj(n:Y):Y:=(n+511)/512*512
def Yk(n:Y):n<=Gj n:=by unfold Gj;omega
def SA(n:Y):Gj n<=n+511:=by unfold Gj;omega
def CM(path:By)(kind n:Y):Hd:=⟨path,(n:H),kind,420,0,[],[],[],0,0⟩
def FU(path:By)(kind:Y)(data:By):By:=CW (CM path kind (Aim data))++data++Cx (Gj (Aim data)-Aim data)
def Ec:By:=[112,97,116,104]
def Hh:By:=[112,97,120]
def JM(x:En):By:=if(BP x.path).2.2=Af then FU x.path 48 x.data else FU Hh 120 (Di ⟨Ec,x.path⟩)++FU (x.path.take 100) 48 x.data
def JL(x:En):By×Y:=if Cy x.path≠0 then([],140)else if 262144<Aim x.data then([],3)else(JM x,0)
def Qx{s:By}(h:Cy s=0):GF s=(s,0)/\s≠[]/\Aim s<=120/\(0:AH)∉s:=by
 unfold Cy at h;split at h
 .rename_i e;refine⟨e,?_⟩;unfold GF at e;split at e
  .rename_i a;simp only[Qq.injEq,and_true]at e;rw[e]at a;refine⟨a.2.2.1,a.2.2.2,fun d=>?_⟩;have:=(a.1 0 d).1;grind
  .grind
 .omega
def aB{p:By}(h:Aim p<=100):(BP p).2.2=Af:=by unfold BP;grind
def xU{p:By}(h:¬(BP p).2.2=Af):100<Aim p:=by
 apply Nat.lt_of_not_le;intro q;exact h (aB q)
def YM{p:By}{k n:Y}(h0:(0:AH)∉p)(hk:IU k)(hn:n<=8589934591):May (CM p k n):=
 ⟨hk,h0,⟨BD _,by simp[CM]⟩,⟨BD _,by simp[CM]⟩,⟨BD _,by simp[CM]⟩,⟨by show(0:H)<=420;decide,by show(420:H)<=2097151;decide⟩,⟨PX _,by show(0:H)<=2097151;decide⟩,⟨PX _,by show(0:H)<=2097151;decide⟩,⟨by show(0:H)<=(n:H);omega,by show(n:H)<=8589934591;omega⟩,⟨PX _,by show(0:H)<=8589934591;decide⟩⟩
structure Good(p:By)(k n:Y):Prop where
 ne:p≠[]
 zero:(0:AH)∉p
 split:(BP p).2.2=Af
 kind:IU k
 size:n<=8589934591
def Good.enc{p:By}{k n:Y}(h:Good p k n):JJ (CM p k n)=(CW (CM p k n),0):=by
 unfold JJ
 have a:¬((BP (CM p k n).path).2.2=Aj∨(CM p k n).path=[]):=by
  rintro(q|q)
  .rw[show(CM p k n).path=p from Z,h.split]at q;grind
  .exact h.ne q
 rw[Ag a,Ai (YM h.zero h.kind h.size)]
def Good.len{p:By}{k n:Y}(h:Good p k n):Aim (CW (CM p k n))=512:=uT (YM h.zero h.kind h.size) h.split h.ne
def Good.dec{p:By}{k n:Y}(h:Good p k n):He (CW (CM p k n))=(CM p k n,0):=NB (YM h.zero h.kind h.size) h.split h.ne
def YG{x:En}(h:Cy x.path=0)(f:Aim x.data<=262144)(a:(BP x.path).2.2=Af):Good x.path 48 (Aim x.data):=by
 obtain⟨_,e,_,d⟩:=Qx h;exact⟨e,d,a,.inl Z,J⟩
def YH{n:Y}(h:n<=8589934591):Good Hh 120 n:=⟨by simp[Hh],Bc,aB Bc,.inr (.inr (.inl Z)),h⟩
def YF{x:En}(h:Cy x.path=0)(d:Aim x.data<=262144):Good (x.path.take 100) 48 (Aim x.data):=by
 obtain⟨_,e,_,a⟩:=Qx h;refine⟨fun q=>?_,fun q=>a (HH q),aB Bh,.inl Z,J⟩;simp_all
def SC:∀r,r<200->dl (JH r+r)=JH r/\1<=JH r/\JH r<=3:=by decide+kernel
def fq{a b:By}{c:AH}(h:c∉a):CN (a++c::b) c=(a,b,Af):=by
 have f:c∈a++c::b:=Bl;have d:∀x∈a,(x !=c)=Af:=fun x e=>by grind
 unfold CN;simp_all
def ad{p:Pr}(h:rest p<200):Aim (Di p)=CP p:=by
 have a:=(SC (rest p) h).1;unfold Di;simp only[BA,CJ];have e:Aim (Lib.decDigits (CP p))=JH (rest p):=a;rw[e];unfold CP rest;omega
def zF{p:Pr}(h:rest p<200)(hk:(61:AH)∉p.key)(n:p.key≠[]):GH (Di p)=([p],0):=by
 have x:=SC (rest p) h;have y:=ad h;have j:CP p<=9007199254740992:=by unfold CP;omega
 have t:Aim (Lib.decDigits (CP p))=JH (rest p):=x.1
 have g:(32:AH)∉Lib.decDigits (CP p):=fun q=>by
  have:=fI _ _ q;exact AK this Bc
 have w:Di p=Lib.decDigits (CP p)++32::(p.key++61::(p.val++[10])):=by simp[Di]
 have v:=fq (b:=p.key++61::(p.val++[10])) g;rw[<-w]at v;have o:=sV (CP p) j;have m:rest p=Aim p.key+Aim p.val+3:=rfl;have l:CP p=JH (rest p)+rest p:=rfl
 have d:(Di p).getD (CP p-1) 0=10:=by
  rw[BX];have e:Di p=(Lib.decDigits (CP p)++[32]++p.key++[61]++p.val)++[10]:=rfl;rw[e,Hl (by simp only[BA,CJ];rw[t];omega)];have:CP p-1-Aim (Lib.decDigits (CP p)++[32]++p.key++[61]++p.val)=0:=by simp only[BA,CJ];rw[t];omega
  rw[this];rfl
 have i:((Di p).drop (Aim (Lib.decDigits (CP p))+1)).take (CP p-1-(Aim (Lib.decDigits (CP p))+1))=p.key++61::p.val:=by
  have e:Di p=(Lib.decDigits (CP p)++[32])++((p.key++61::p.val)++[10]):=by simp[Di]
  rw[e,RN Bl,Hp Bh]
 have r:=fq (b:=p.val) hk
 have a:Kz (Di p)=X (p,CP p):=by
  unfold Kz;rw[v];simp only;rw[o];simp only;rw[Ai ⟨AB,AB,J,by rw[t];omega,d⟩,i,r];simp only;rw[Ai ⟨AB,n⟩]
 have f:Di p≠[]:=fun q=>by grind
 have A:Fe (Aim (Di p)+1) (Di p) []=([p],0):=by
  rw[Fe,Ag f,a];simp only;rw[Ot J];have:∃k,Aim (Di p)=k+1:=⟨Aim (Di p)-1,J⟩;obtain⟨k,hk⟩:=this;rw[hk,Fe,Ai Z];rfl
 unfold GH;simp_all;omega
def Pu{s:By}(h:Aim s<=120):rest ⟨Ec,s⟩<200:=by unfold rest Ec;grind
def yP{s:By}(h:Aim s<=120):NE [⟨Ec,s⟩]=(Di ⟨Ec,s⟩,0):=by
 have a:=SC _ (Pu h);have e:=Pu h;have d:CP ⟨Ec,s⟩<=262144:=by unfold CP;omega
 unfold NE;rw[Ai (by rfl),Ls,Ag J,Ls];rfl
def yO{s:By}(h:Aim s<=120):GH (Di ⟨Ec,s⟩)=([⟨Ec,s⟩],0):=zF (Pu h) (show(61:AH)∉Ec by decide) (show Ec≠[] by decide)
def az{p:By}{k:Y}{d:By}(h:Good p k (Aim d)):Aim (FU p k d)=512+Gj (Aim d):=by
 have:=Yk (Aim d);unfold FU;rw[BA,BA,h.len,SL];omega
end Tar
namespace Dsk
open Go.Proofs.YtkmlafmjaeeanaaGreatDoor
inductive Ch where
 |write (i:Y) (s:Bg)
 |cut (n:Y)
def EN(n:Y):Bg:=BG n 0
def Ch.ap:Ch->Bg->Bg
 |.write i s,all=>
  (all++EN ((i+1)*512-Aim all)).take (i*512)++s++(all++EN ((i+1)*512-Aim all)).drop (i*512+Aim s)
 |.cut n,all=>all.take (min (Aim all) (n*512))
def Ch.ok(cap:Y):Ch->Prop
 |.write i s=>i<cap/\Aim s=512
 |.cut n=>n<=cap
def PO(n:Y):Aim (EN n)=n:=by simp[EN]
def Ui{cap:Y}{c:Ch}(h:c.ok cap){all:Bg}(a:Aim all<=512*cap):Aim (c.ap all)<=512*cap:=by
 cases c with
 |write i s=>
  obtain⟨e,d⟩:=h;simp only[Ch.ap,BA,BY,CK,PO];omega
 |cut n=>simp only[Ch.ap,BY];omega
def Xh{cap:Y}{c:Ch}(h:c.ok cap){all:Bg}(a:Aim all%512=0):Aim (c.ap all)%512=0:=by
 cases c with
 |write i s=>
  obtain⟨e,d⟩:=h;simp only[Ch.ap,BA,BY,CK,PO];omega
 |cut n=>simp only[Ch.ap,BY];omega
structure Dv where
 cap:Y
 kept:Bg
 now:Bg
 pend:Ae Ch
 at_:Y
 keep:Ae Aw
 dead:Aw
 calls:Y
structure Dv.Ok(D:Dv):Prop where
 cap:1<=D.cap/\D.cap<=4096
 kept:Aim D.kept<=512*D.cap
 now:Aim D.now<=512*D.cap
 keptM:Aim D.kept%512=0
 nowM:Aim D.now%512=0
 pend:∀c∈D.pend,c.ok D.cap
def Er:Ae Ch->Ae Aw->Bg->Bg
 |[],_,all=>all
 |c::cs,[],all=>all
 |c::cs,b::bs,all=>Er cs bs (if b then c.ap all else all)
def Dv.Agg(D:Dv)(c:Av Ch):Dv:=match c with
 |some c=>{ D with pend:=D.pend++[c] }
 |none=>D
def Dv.done(D:Dv)(c:Av Ch):Dv:=match c with
 |some c=>{ D with now:=c.ap D.now,calls:=D.calls+1 }
 |none=>{ D with kept:=D.now,pend:=[],calls:=D.calls+1 }
def Dv.Agi(D:Dv)(c:Av Ch):Dv×Y:=
 let E:=D.Agg c
 if E.at_=0 then(E.done c,0)
 else if E.at_=1 then({ E with kept:=Er E.pend E.keep E.kept,now:=Er E.pend E.keep E.kept,pend:=[],at_:=0,keep:=[],dead:=Af },190)
 else(Dv.done { E with at_:=E.at_-1 } c,0)
def Yi{cap:Y}:∀(cs:Ae Ch) (bs:Ae Aw) (all:Bg),(∀c∈cs,c.ok cap)->Aim all<=512*cap->Aim all%512=0->Aim (Er cs bs all)<=512*cap/\Aim (Er cs bs all)%512=0
 |[],_,all,_,h1,h2=>⟨h1,h2⟩
 |c::cs,[],all,_,h1,h2=>⟨h1,h2⟩
 |c::cs,b::bs,all,h,h1,h2=>by
  simp only[Er];refine Yi cs bs _ (fun c' hc=>h c' Bh) ?_ ?_
  .split
   .exact Ui (h c Bl) h1
   .omega
  .split
   .exact Xh (h c Bl) h2
   .omega
def gr:∀(cs:Ae Ch) (c:Ch) (bs:Ae Aw) (all:Bg),Er (cs++[c]) bs all=if bs.getD (Aim cs) Aj then c.ap (Er cs bs all)else Er cs bs all
 |[],c,[],all=>by simp[Er]
 |[],c,b::bs,all=>by simp[Er]
 |d::cs,c,[],all=>by simp[Er]
 |d::cs,c,b::bs,all=>by
  simp only[FM,Er,gr cs c bs _,Cv,List.getD_cons_succ]
def lN{D:Dv}(h:D.Ok){c:Av Ch}(e:∀d,c=X d->d.ok D.cap):(D.Agg c).Ok:=by
 cases c with
 |none=>exact h
 |some c=>
  refine⟨h.cap,h.kept,h.now,h.keptM,h.nowM,fun d a=>?_⟩;simp only[Dv.Agg,Dz,CG]at a;rcases a with a|rfl
  .exact h.pend d a
  .exact e _ Z
def fY{D:Dv}(h:D.Ok){c:Av Ch}(a:∀d,c=X d->d.ok D.cap):(D.done c).Ok:=by
 cases c with
 |none=>exact⟨h.cap,h.now,h.now,h.nowM,h.nowM,fun d e=>by simp[Dv.done]at e⟩
 |some c=>exact⟨h.cap,h.kept,Ui (a c Z) h.now,h.keptM,Xh (a c Z) h.nowM,h.pend⟩
def lM(D:Dv)(c:Av Ch):(D.Agg c).cap=D.cap:=by cases c<;>rfl
def XT{D:Dv}(h:D.Ok){c:Av Ch}(j:∀d,c=X d->d.ok D.cap):(D.Agi c).1.Ok:=by
 have a:=lN h j;have e:∀d,c=X d->d.ok (D.Agg c).cap:=fun d i=>by rw[lM];grind
 unfold Dv.Agi;simp only;split
 .exact fY a e
 .split
  .obtain⟨g,f⟩:=Yi (cap:=(D.Agg c).cap) (D.Agg c).pend (D.Agg c).keep (D.Agg c).kept a.pend a.kept a.keptM;exact⟨a.cap,g,g,f,f,fun d i=>by grind⟩
  .exact fY (D:={ D.Agg c with at_:=(D.Agg c).at_-1 }) ⟨a.cap,a.kept,a.now,a.keptM,a.nowM,a.pend⟩ e
end Dsk
namespace Bz
abbrev Bs:=Ae Aw
abbrev By:=Bg
def nb(n v:Y):Bs:=(BE n).map fun k=>v.testBit (n-1-k)
def nb_length(n v:Y):Aim (nb n v)=n:=by simp[nb]
def UY{n v k:Y}(h:k<n):(nb n v)[k]? =X (v.testBit (n-1-k)):=by simp[nb,h]
def xJ{n v k:Y}(h:k<n):(nb n v).take (k+1)=(nb n v).take k++[v.testBit (n-1-k)]:=by
 rw[Me,UY h];rfl
def num:Bs->Y:=List.foldl (fun v b=>2*v+b.toNat) 0
def ZE(l:Bs)(b:Aw):num (l++[b])=2*num l+b.toNat:=by simp[num]
def aG{α:Type}{p:Ae α->Prop}(h0:p [])(h1:∀l a,p l->p (l++[a]))(l:Ae α):p l:=by
 have:∀r:Ae α,p r.reverse:=fun r=>by
  induction r with
  |nil=>grind
  |cons a r ih=>grind
 simpa using this l.reverse
def Pq(l:Bs):num l<2 ^ Aim l:=by
 induction l using aG with
 |h0=>simp[num]
 |h1 l b ih=>
  rw[ZE,BA,CJ,IQ];have:=PR b;omega
def QR(l:Bs):∀k,(num l).testBit k=l.reverse.getD k Aj:=by
 induction l using aG with
 |h0=>intro k;simp[num]
 |h1 l b ih=>
  intro k;rw[ZE,List.reverse_append];cases k with
  |zero=>cases b<;>simp[Nat.testBit_zero]<;>omega
  |succ k=>
   rw[Nat.testBit_succ,show(2*num l+b.toNat)/2=num l by have:=PR b;omega,ih k];simp
def kK(l:Bs):nb (Aim l) (num l)=l:=by
 apply GU;intro k;rcases Db k (Aim l)with h|h
 .rw[UY h,QR,BX,TM J,show Aim l-1-(Aim l-1-k)=k by omega,BN h];rfl
 .rw[IM (by rw[nb_length];omega),IM h]
def yg{n v:Y}(h:v<2 ^ n):num (nb n v)=v:=by
 apply TV;intro k;rw[QR,BX];rcases Db k n with a|a
 .rw[TM (by rw[nb_length];exact a),nb_length,UY J,show n-1-(n-1-k)=k by omega];rfl
 .rw[IM (by rw[List.length_reverse,nb_length];exact a),Qm (Kj h (FN Bl a))];rfl
def Co(s:By)(i:Y):Aw:=(s.getD (i/8) 0).toNat.testBit (7-i%8)
def bitsOf(s:By):Bs:=(BE (8*Aim s)).map (Co s)
def bitsOf_length(s:By):Aim (bitsOf s)=8*Aim s:=by simp[bitsOf]
def ru{s:By}{i:Y}(h:i<8*Aim s):(bitsOf s)[i]? =X (Co s i):=by simp[bitsOf,h]
def Fs(l:Bs)(j:Y):Y:=num ((BE 8).map fun k=>l.getD (8*j+k) Aj)
def Qu(l:Bs)(j:Y):Fs l j<256:=by
 have:=Pq ((BE 8).map fun k=>l.getD (8*j+k) Aj);simpa[Fs]using this
def Un(l:Bs)(j k:Y)(h:k<8):(Fs l j).testBit (7-k)=l.getD (8*j+k) Aj:=by
 unfold Fs;rw[QR,BX,TM Bh];grind
def pack(l:Bs):By:=(BE ((Aim l+7)/8)).map fun j=>BS (Fs l j)
def pack_length(l:Bs):Aim (pack l)=(Aim l+7)/8:=by simp[pack]
def SQ{l:Bs}{j:Y}(h:j<(Aim l+7)/8):(pack l)[j]? =X (BS (Fs l j)):=by simp[pack,h]
def dP{l:Bs}{i:Y}(h:i<8*((Aim l+7)/8)):Co (pack l) i=l.getD i Aj:=by
 unfold Co;rw[BX,SQ J];have:=Qu l (i/8);simp only[Option.getD_some,WY];rw[IP J,Un l _ _ J,show 8*(i/8)+i%8=i by omega]
def rm{s r:By}{i:Y}(h:i<8*Aim s):Co (s++r) i=Co s i:=by
 unfold Co;grind
def Xn(l:Bs)(j:Y):Fs (l++[Aj]) j=Fs l j:=by
 unfold Fs;grind
def yI(l:Bs):pack (l++[Aj])=if Aim l%8=0 then pack l++[0]else pack l:=by
 have e:∀j,BS (Fs (l++[Aj]) j)=BS (Fs l j):=fun j=>by rw[Xn]
 unfold pack;rw[BA,CJ];split
 .rename_i h;rw[show(Aim l+1+7)/8=(Aim l+7)/8+1 by omega,FV,DX,Ju fun j _=>e j];congr 1
  have:Fs l ((Aim l+7)/8)=0:=by
   unfold Fs
   have:((BE 8).map fun k=>l.getD (8*((Aim l+7)/8)+k) Aj)=BG 8 Aj:=by
    apply GU;intro k;rcases Db k 8 with q|q
    .rw[DP,Nk q,List.getElem?_replicate,Ai q,FO,BX,IM J];rfl
    .grind
   rw[this];rfl
  simp_all
 .grind
def rI(l:Bs)(j:Y):Fs (l++[Af]) j=if j=Aim l/8 then Fs l j|||(128>>>(Aim l%8))else Fs l j:=by
 apply TV;intro i;rcases Db i 8 with a|a
 .have d:=Un (l++[Af]) j (7-i) J;have f:=Un l j (7-i) J;rw[show 7-(7-i)=i by omega]at d f
  have e:(l++[Af]).getD (8*j+(7-i)) Aj=(l.getD (8*j+(7-i)) Aj||decide (8*j+(7-i)=Aim l)):=by
   rw[BX,BX,List.getElem?_append];split
   .grind
   .grind
  rw[d,e];split
  .rename_i h;subst h
   have k:(128>>>(Aim l%8)).testBit i=decide (8*(Aim l/8)+(7-i)=Aim l):=by
    rw[Nat.testBit_shiftRight,show(128:Y)=2 ^ 7 by decide,Nat.testBit_two_pow];apply decide_eq_decide.2;omega
   grind
  .grind
 .have o:=Qu (l++[Af]) j;have m:=Qu l j
  have g:(256:Y)<=2 ^ i:=by
   have:=FN (n:=2) Bc a;omega
  rw[Qm J];split
  .rw[Nat.testBit_or,Qm J,Nat.testBit_shiftRight,show(128:Y)=2 ^ 7 by decide,Nat.testBit_two_pow,AN J];rfl
  .rw[Qm J]
def rH(l:Bs)(j:Y):Fs l j|||(128>>>(Aim l%8))<=255:=by
 have d:=Qu l j
 have a:128>>>(Aim l%8)<2 ^ 8:=by
  rw[Np];exact WQ (Oz _ _) Bl
 have:=Mg (n:=8) d a;omega
def yJ(l:Bs):pack (l++[Af])=(pack (l++[Aj])).set (Aim l/8) (BS (Fs l (Aim l/8)|||(128>>>(Aim l%8)))):=by
 apply GU;intro j;have d:Aim (pack (l++[Af]))=(Aim l+8)/8:=by rw[pack_length,BA,CJ]
 have a:Aim (pack (l++[Aj]))=(Aim l+8)/8:=by rw[pack_length,BA,CJ]
 rcases Db j ((Aim l+8)/8)with h|h
 .rw[SQ (by rw[BA,CJ];exact h),rI,Wy,a];by_cases e:j=Aim l/8
  .grind
  .rw[Ag e,Ag (fun q=>e q.symm),SQ (by rw[BA,CJ];exact h),Xn]
 .grind
def yG(l:Bs):(pack (l++[Aj]))[Aim l/8]? =X (BS (Fs l (Aim l/8))):=by
 rw[SQ Bh,Xn]
def Dt(s:By)(at_:Y)(l:Bs):Prop:=at_+Aim l<=8*Aim s/\∀i,i<Aim l->Co s (at_+i)=l.getD i Aj
def Dt.left{s:By}{a:Y}{l r:Bs}(h:Dt s a (l++r)):Dt s a l:=by
 have e:=h.1;rw[BA]at e;refine⟨J,fun i d=>?_⟩;rw[h.2 i Bh,BX,BX,FA d]
def Dt.right{s:By}{a:Y}{l r:Bs}(h:Dt s a (l++r)):Dt s (a+Aim l) r:=by
 have d:=h.1;rw[BA]at d;refine⟨J,fun i e=>?_⟩;have:=h.2 (Aim l+i) Bh;grind
def Dt.pack(l:Bs):Dt (pack l) 0 l:=by
 refine⟨by rw[pack_length];omega,fun i a=>?_⟩;rw[FW,dP J]
def Dt.more{s:By}{a:Y}{l:Bs}(h:Dt s a l)(r:By):Dt (s++r) a l:=
 ⟨by rw[BA];have:=h.1;omega,fun i hi=>by rw[rm (by have:=h.1;omega)];exact h.2 i hi⟩
def rn(r s:By)(i:Y):Co (r++s) (8*Aim r+i)=Co s i:=by
 unfold Co;grind
def Dt.behind{s:By}{a:Y}{l:Bs}(h:Dt s a l)(r:By):Dt (r++s) (8*Aim r+a) l:=
 ⟨by rw[BA];have:=h.1;omega,fun i hi=>by rw[No,rn];exact h.2 i hi⟩
def BW(s:By)(a n:Y):Bs:=(BE n).map fun i=>Co s (a+i)
def Sf(s:By)(a n:Y):Aim (BW s a n)=n:=by simp[BW]
def rr(s:By)(a n:Y):BW s a (n+1)=BW s a n++[Co s (a+n)]:=by simp[BW,FV]
def Dt.bits{s:By}{a:Y}{l:Bs}(h:Dt s a l):BW s a (Aim l)=l:=by
 apply GU;intro i;rcases Db i (Aim l)with q|q
 .simp only[BW,DP,Nk q,FO];rw[h.2 i q,BX,BN q];rfl
 .rw[IM (by rw[Sf];omega),IM q]
end Bz
namespace Bz
def FK(b:AH):Y->By->Y
 |m+1,x::r=>if x=b then FK b m r+1 else 0
 |_,_=>0
def Dy:By->Y
 |[]=>0
 |b::r=>1+FK b 254 r
def mC(b:AH):∀m (r:By),FK b m r<=m/\FK b m r<=Aim r
 |0,r=>by cases r<;>simp[FK]
 |m+1,[]=>by simp[FK]
 |m+1,x::r=>by
  have:=mC b m r;unfold FK;grind
def mE(b:AH):∀m (r:By),r.take (FK b m r)=BG (FK b m r) b
 |0,r=>by rfl
 |m+1,[]=>by rfl
 |m+1,x::r=>by
  have:=mE b m r;unfold FK;grind
def mD(b:AH):∀m (r:By),FK b m r<m->(r.drop (FK b m r)).head?≠X b
 |0,r=>by simp
 |m+1,[]=>by simp
 |m+1,x::r=>by
  have:=mD b m r;unfold FK;grind
def an(s:By):Dy s<=255/\Dy s<=Aim s:=by
 cases s with
 |nil=>simp[Dy]
 |cons b r=>
  have:=mC b 254 r;simp only[Dy,Cv];omega
def Tb{s:By}(h:s≠[]):1<=Dy s:=by
 cases s with
 |nil=>grind
 |cons b r=>simp only[Dy];omega
def mG(b:AH)(r:By):(b::r).take (Dy (b::r))=BG (Dy (b::r)) b:=by
 simp only[Dy];rw[RU,Qi,mE,HI]
def Abc(b:AH)(r:By)(h:Dy (b::r)<255):((b::r).drop (Dy (b::r))).head?≠X b:=by
 simp only[Dy]at h ⊢;rw[RU,RO];exact mD b 254 r J
def runT(n:Y)(b:AH):By:=if n<4 then BG n b else BG 4 b++[BS (n-4)]
def enc(s:By):By:=match s with
 |[]=>[]
 |b::r=>runT (Dy (b::r)) b++enc ((b::r).drop (Dy (b::r)))
termination_by (Aim s)
decreasing_by
 have:=Tb (s:=b::r) Bl;grind
def XY:enc []=[]:=by rw[enc]
def UG(b:AH)(r:By):enc (b::r)=runT (Dy (b::r)) b++enc ((b::r).drop (Dy (b::r))):=by rw[enc]
def mH(n:Y)(b:AH):Aim (runT n b)<=2*n:=by
 unfold runT;grind
def enc_len:∀n (s:By),Aim s<=n->Aim (enc s)<=2*Aim s
 |_,[],_=>by rw[XY];simp
 |0,b::r,h=>by grind
 |n+1,b::r,h=>by
  have hp:=Tb (s:=b::r) Bl;have hl:=(an (b::r)).2;have ih:=enc_len n ((b::r).drop (Dy (b::r))) Bh;have:=mH (Dy (b::r)) b;rw[UG,BA];grind
def enc_ne{s:By}(h:s≠[]):enc s≠[]:=by
 cases s with
 |nil=>grind
 |cons b r=>
  have a:=Tb (s:=b::r) Bl;rw[UG];unfold runT;split
  .simp;omega
  .simp
def HP(same:Y)(out:By)(x:AH):Y:=if 0<same/\out.getLast? =X x then same+1 else 1
def dec:Y->By->By->By×Y
 |same,out,[]=>if same=4 then([],30)else(out,0)
 |same,out,x::r=>
  if same=4 then(if 262144<Aim out+x.toNat then([],3)else dec 0 (out++BG x.toNat (out.getLastD 0)) r)
  else if Aim out=262144 then([],3)else dec (HP same out x) (out++[x]) r
def Ends(same:Y)(out:By):Prop:=same<=4/\same<=Aim out/\∃b o,out=o++BG same b
def Ends.zero(out:By):Ends 0 out:=⟨J,J,0,out,Bl⟩
def Ends.next{same:Y}{out:By}(h:Ends same out)(e:same≠4)(x:AH):Ends (HP same out x) (out++[x]):=by
 obtain⟨g,f,b,o,rfl⟩:=h;unfold HP;split
 .rename_i q;obtain⟨d,a⟩:=q;refine⟨J,by simp only[BA,Cm,CJ];omega,b,o,?_⟩;obtain⟨k,rfl⟩:∃k,same=k+1:=⟨same-1,J⟩;rw[Ow,<-Cq,WA]at a;injection a with a;subst a;rw[Ow (n:=k+1),Cq]
 .exact⟨J,by simp only[BA,Cm,CJ];omega,x,_,Z⟩
def fM(b:AH)(rest:By):∀(k same:Y) (out:By),same+k<=4->(0<same->out.getLast? =X b)->Aim out+k<=262144->dec same out (BG k b++rest)=dec (same+k) (out++BG k b) rest
 |0,same,out,_,_,_=>by simp
 |k+1,same,out,h4,hl,hm=>by
  rw[HI,FM,dec,Ag J,Ag J]
  have e:HP same out b=same+1:=by
   unfold HP;split
   .rfl
   .grind
  rw[e,fM b rest k (same+1) (out++[b]) J (fun _=>WA) Bh,Cq,RT,show same+1+k=same+(k+1) by omega]
def fN(b:AH)(rest:By)(k same:Y)(out:By)(g:same<4)(h:k<=4)(hk:1<=k)(a:same=0∨out.getLast?≠X b)(hm:Aim out+k<=262144):dec same out (BG k b++rest)=dec k (out++BG k b) rest:=by
 obtain⟨j,rfl⟩:∃j,k=j+1:=⟨k-1,J⟩;rw[HI,FM,dec,Ag J,Ag J]
 have e:HP same out b=1:=by
  unfold HP;rw[Ag];rintro⟨f,d⟩;rcases a with z|z
  .omega
  .grind
 rw[e,fM b rest j 1 (out++[b]) J (fun _=>WA) Bh,Cq,RT,show 1+j=j+1 by omega]
def NB:∀n (s out:By) (same:Y),Aim s<=n->same<4->(same=0∨∀b,s.head? =X b->out.getLast?≠X b)->Aim out+Aim s<=262144->dec same out (enc s)=(out++s,0)
 |_,[],out,same,_,h4,_,_=>by
  rw[XY,dec,Ag J,List.append_nil]
 |0,b::r,_,_,h,_,_,_=>by grind
 |n+1,b::r,out,same,h,h4,hn,hm=>by
  have hp:=Tb (s:=b::r) Bl;have hl:=an (b::r);have ht:=mG b r;have hx:=Abc b r;have hsplit:=Ho (Dy (b::r)) (b::r);have hdl:Aim ((b::r).drop (Dy (b::r)))=Aim (b::r)-Dy (b::r):=CK;rw[UG];generalize Dy (b::r)=k at hp hl ht hx hsplit hdl;rw[ht]at hsplit;have hn':same=0∨out.getLast?≠X b:=hn.imp id fun q=>q b Z;unfold runT;split
  .rename_i hk;rw[fN b _ k same out h4 J hp hn' J]
   have hlast:(out++BG k b).getLast? =X b:=by
    obtain⟨j,rfl⟩:∃j,k=j+1:=⟨k-1,J⟩;rw[Ow,<-Cq,WA]
   rw[NB n _ _ k J J (.inr fun c d e=>by
    grind) (by rw[BA,Cm];omega),Cq,hsplit]
  .rename_i hk;rw[Cq,fN b _ 4 same out h4 J J hn' J,RT,dec,Ai Z];have a:(BS (k-4)).toNat=k-4:=Bx
   have hlast:(out++BG 4 b).getLastD 0=b:=by
    rw[show BG 4 b=BG 3 b++[b]from Z,<-Cq,List.getLastD_concat]
   rw[a,hlast,Ag (by rw[BA,Cm];omega),NB n _ _ 0 J J (.inl Z) Bh];rw[Cq,Cq,<-Cq (BG 4 b),List.replicate_append_replicate,show 4+(k-4)=k by omega,hsplit]
def Aah(s:By)(h:Aim s<=262144):dec 0 [] (enc s)=(s,0):=by
 have:=NB (Aim s) s [] 0 (Bq _) Bl (.inl Z) Bh;grind
end Bz
section
attribute [local irreducible] OW KW QW EX GW NV
open Dsk
def eO(A:Av AC)(c:Y)(xs:Bm)(B:Y)(w:Ad)(h:Sl w B A xs)(hA:A=Aa->xs=[])(h1:∀u∈xs,u.oneCell'=Af)(hl:Aim xs<=140737488351232):
 Bn prog 74 [.slice A (Aim xs) c] w fun v w'=>Bp w' w.heap.size 5 1 v (Aim xs) xs/\Bf w w':=by
 refine Bw func74 Z ntmps74 (by rfl) Z ?_;rcases A with _|a
 .obtain rfl:=hA Z;refine(O 15∘Bu) ?_;exact⟨Bp.nil _ _ _ _,Bf.refl _⟩
 .refine(O 14) ?_;refine Li 0 Z Z underlying23 CD Z Z Z Z (by rfl) Bc ?_;rintro b j d i e;refine(O 1) ?_;refine Ie Z Z underlying23 CD Z Bc Z Z (e) (Bp.Agf (l:=[]) i d Z Bc) (Src.Agh underlying23 (h.ext e) Bl h1 Bc) CE J ?_;rintro k w' f g _ _;refine(O 2∘Bu) ?_;grind
def Chd(w w':Ad)(v v':Ah)(all:Bg):Prop:=
 Bp w' 0 5 1 v' (Aim all) (BI all)/\Mo w w' v.ownBlock.toList/\(v'.ownBlock=v.ownBlock∨∃g,v'.ownBlock=X g/\w.heap.size<=g)
def sD(b n:Y)(v:Ah)(all:Bg)(w:Ad)(j:Bk w b 3 [U (n:H)])(a:Bp w 0 5 1 v (Aim all) (BI all))(i:n<=1000000)(hl:Aim all<=100000000):
 Bn prog 97 [v,.pointer (X ⟨b,0,Aa⟩)] w fun v' w'=>w=w'/\Chd w w' v v' ((Ch.cut n).ap all):=by
 obtain⟨A,c,rfl,h,g⟩:=a.slice;refine Bw func97 Z ntmps97 (by rfl) Z ?_;refine(O 12) ?_;refine qy Z Z underlying23 CD Z Z (a) J ?_;rintro v' d f;refine(O 2∘Bu) ?_;refine⟨Z,?_,Mo.refl _ _,.inl f⟩;have e:(BI all).take (min (Aim all) (n*512))=BI ((Ch.cut n).ap all):=by simp[BI,Ch.ap,TP]
 have k:Aim ((Ch.cut n).ap all)=min (Aim all) (n*512):=by simp only[Ch.ap,BY];omega
 grind
def rJ(n:Y):BI (EN n)=BG n (.int .u8 0):=by simp[BI,EN]
def Afp(I bs i:Y)(s:Bg)(v:Ah)(all:Bg)(w:Ad)(r:Bk w I 3 [U (i:H)])(p:Bk w bs 9 [Bj s])(a:Bp w 0 5 1 v (Aim all) (BI all))(hi:i<=1000000)(hs:Aim s=512)(hl:Aim all<=1000000000):
 Bn prog 37 [v,.pointer (X ⟨I,0,Aa⟩),.pointer (X ⟨bs,0,Aa⟩)] w fun v' w'=>Chd w w' v v' ((Ch.write i s).ap all):=by
 obtain⟨A,c,rfl,S,N⟩:=a.slice;refine Bw func37 Z ntmps37 Be Z ?_;refine(O 19)<|Lc (fun((j,f):Ah×Ad)=>(Bp f 0 5 1 j (Aim (all++EN ((i+1)*512-Aim all))) (BI (all++EN ((i+1)*512-Aim all)))/\Mo w f (Value.slice A (Aim all) c).ownBlock.toList/\(j.ownBlock=(Value.slice A (Aim all) c).ownBlock∨∃g,j.ownBlock=X g/\w.heap.size<=g),[(0,j),(1,.pointer (X ⟨I,0,Aa⟩)),(2,.pointer (X ⟨bs,0,Aa⟩))],f)) ?_ ?_
 .skip
  refine Zi (fun h=>?_) fun h=>?_
  .refine(O 6) ?_;refine qq Z Z underlying23 underlying3 CD Z Z Z (a) J CE J ?_;rintro j f d C ab;refine(O 2∘Lm (j,f)) ?_;refine⟨?_,Mo.grown C (fun k e=>by rw[e];simp),?_⟩
   .rw[BA,PO,Xo,rJ];omega
   .grind
  .refine(O 1∘Lm (_,w)) ?_;have e0:all++EN ((i+1)*512-Aim all)=all:=by rw[show(i+1)*512-Aim all=0 by omega];simp[EN]
   rw[e0];exact⟨a,Mo.refl _ _,.inl Z⟩
 .rintro⟨j,f⟩⟨d,B,K⟩;have q:=r.mo B (fun k=>a.ne r Bc _ (Fb.1 k) Z);have o:=p.mo B (fun k=>a.ne p Bc _ (Fb.1 k) Z);have hL:Aim (all++EN ((i+1)*512-Aim all))=max (Aim all) ((i+1)*512):=by rw[BA,PO];omega
  generalize t:all++EN ((i+1)*512-Aim all)=al at d hL;have D:Aim (BI al)=Aim al:=EF al;obtain⟨g,G,rest,rfl,_,W,hc,P,l⟩:=d.blk J;refine(O 1) ?_;refine Kf 5 Be Be<|HW.val Z Z (EX.move Z)<|HW.val Z Z (Cg underlying3 Z Z (q.cell_of Z))<|HW.val Z Z (by first|exact Wf (b:=512) (m:=9223372036854775807) Z Z Z J|exact EX.mulZ (m:=9223372036854775807) Z Z Z Z J)<|HW.val Z Z (Wh underlying23 CD Z Z J)<|HW.val Z Z (Cg underlying9 Z Z (o.cell_of Z))<|HW.tail<|qv Z Z underlying23 underlying9 CD Z Z J (W) Bh ?_;rintro L V y;refine(O 6∘Bu) ?_;have e:(Ch.write i s).ap all=al.take (i*512)++s++al.drop (i*512+Aim s):=by simp only[Ch.ap,t]
  have E:Aim ((Ch.write i s).ap all)=Aim al:=by rw[e];simp only[BA,BY,CK];omega
  refine⟨?_,?_,K⟩
  .rw[E];refine⟨by rw[EF,E];simp,.inr ⟨g,G,rest,Z,BD _,?_,by rw[EF,E,<-D];omega,P,l⟩⟩
   have e3:(BI al++rest).take (i*512)++BI s++(BI al++rest).drop (i*512+Aim s)=BI ((Ch.write i s).ap all)++rest:=by
    rw[e,WK J,TH J];simp[BI,TP,WC]
   grind
  .have n:Mo f L [g]:=(Mo.Age (Bf.drew f) _).trans y;refine((B.mono (fun k x=>El g x)).trans (n.mono Bl)).fresh ?_;intro k x Q;rcases List.mem_cons.1 x with rfl|x
   .rcases K with e|⟨g',e,T⟩
    .rw[<-e];simp[Value.ownBlock]
    .simp[Value.ownBlock]at e;omega
   .omega
def Lp(l:Ae Aw):Bm:=l.map fun b=>.bool b
def dX(l:Ae Aw):Aim (Lp l)=Aim l:=by simp[Lp]
def KO(w:Ad):Ch->Ah->Prop
 |.write i s,v=>∃bi bs:Y,v=.func (.func 37) (Lg []) (Lg [.pointer (X ⟨bi,0,Aa⟩),.pointer (X ⟨bs,0,Aa⟩)])/\Bk w bi 3 [U (i:H)]/\Bk w bs 9 [Bj s]
 |.cut n,v=>∃b:Y,v=.func (.func 97) (Lg []) (Lg [.pointer (X ⟨b,0,Aa⟩)])/\Bk w b 3 [U (n:H)]
def KP(w:Ad):Ae Ch->Bm->Prop
 |[],[]=>True
 |c::cs,v::vs=>KO w c v/\KP w cs vs
 |_,_=>False
def KO.tm{w w':Ad}{B:Y}{p:Ay->Aw}(h:Tm w w' B p)(hi:p 3=Aj)(hs:p 9=Aj):∀{c:Ch} {v:Ah},KO w c v->KO w' c v
 |.write i s,v,⟨bi,bs,e,h1,h2⟩=>⟨bi,bs,e,h.bk h1 hi,h.bk h2 hs⟩
 |.cut n,v,⟨b,e,h1⟩=>⟨b,e,h.bk h1 hi⟩
def KO.one{w:Ad}:∀{c:Ch} {v:Ah},KO w c v->v.oneCell'=Af
 |.write i s,v,⟨bi,bs,e,h1,h2⟩=>by rw[e];rfl
 |.cut n,v,⟨b,e,h1⟩=>by rw[e];rfl
def KP.tm{w w':Ad}{B:Y}{p:Ay->Aw}(h:Tm w w' B p)(hi:p 3=Aj)(hs:p 9=Aj):∀{cs:Ae Ch} {vs:Bm},KP w cs vs->KP w' cs vs
 |[],[],_=>trivial
 |c::cs,v::vs,⟨h1,h2⟩=>⟨h1.tm h hi hs,KP.tm h hi hs h2⟩
 |[],_::_,h=>h.elim
 |_::_,[],h=>h.elim
def KP.len{w:Ad}:∀{cs:Ae Ch} {vs:Bm},KP w cs vs->Aim vs=Aim cs
 |[],[],_=>rfl
 |c::cs,v::vs,⟨_,h2⟩=>by simp[KP.len h2]
 |[],_::_,h=>h.elim
 |_::_,[],h=>h.elim
def KP.snoc{w:Ad}:∀{cs:Ae Ch} {vs:Bm} {c:Ch} {v:Ah},KP w cs vs->KO w c v->KP w (cs++[c]) (vs++[v])
 |[],[],_,_,_,h=>⟨h,AB⟩
 |c::cs,v::vs,_,_,⟨h1,h2⟩,h=>⟨h1,KP.snoc h2 h⟩
 |[],_::_,_,_,h,_=>h.elim
 |_::_,[],_,_,h,_=>h.elim
def KP.at_{w:Ad}:∀{cs:Ae Ch} {vs:Bm},KP w cs vs->∀(j:Y) (hj:j<Aim cs),∃v,vs[j]? =X v/\KO w cs[j] v
 |[],[],_,j,hj=>by simp at hj
 |c::cs,v::vs,⟨h1,h2⟩,0,hj=>⟨v,Z,h1⟩
 |c::cs,v::vs,⟨h1,h2⟩,j+1,hj=>by
  obtain⟨u,h3,h4⟩:=KP.at_ h2 j (by simpa using hj);exact⟨u,by simpa using h3,by simpa using h4⟩
 |[],_::_,h,_,_=>h.elim
 |_::_,[],h,_,_=>h.elim
structure Dev(w:Ad)(B b:Y)(D:Dv)(vk vn vp vq:Ah)(vs:Bm):Prop where
 lo:B<=b
 cells:Bk w b 85 [U (D.cap:H),vk,vn,vp,U (D.at_:H),vq,.bool D.dead,U (D.calls:H)]
 kept:Bp w B 5 1 vk (Aim D.kept) (BI D.kept)
 now:Bp w B 5 1 vn (Aim D.now) (BI D.now)
 apart:∀k,vk.ownBlock=X k->vn.ownBlock≠X k
 pend:Bp w B 137 1 vp (Aim D.pend) vs
 chs:KP w D.pend vs
 keep:Bp w B 4 1 vq (Aim D.keep) (Lp D.keep)
def Cz(w:Ad)(B b:Y)(D:Dv):Prop:=∃vk vn vp vq vs,Dev w B b D vk vn vp vq vs
def Cs(T:Ay):Aw:=T==85||T==137||T==5
def Cz.ext{w w':Ad}{B b:Y}{D:Dv}(h:Cz w B b D)(hx:Bf w w'):Cz w' B b D:=by
 obtain⟨vk,vn,vp,vq,vs,k,j,i,g,f,e,d,a⟩:=h;exact⟨vk,vn,vp,vq,vs,k,j.ext hx,i.ext hx,g.ext hx,f,e.ext hx,d.tm (Tm.Age hx 0 (fun _=>Aj)) Z Z,a.ext hx⟩
def Cz.lt{w:Ad}{B b:Y}{D:Dv}(h:Cz w B b D):B<=b/\b<w.heap.size:=by
 obtain⟨vk,vn,vp,vq,vs,h⟩:=h;exact⟨h.lo,h.cells.lt⟩
section
variable{w:Ad}{B b:Y}{D:Dv}
def Va(h:Cz w B b D)(a:D.Ok):Bn prog 47 [.pointer (X ⟨b,0,Aa⟩)] w fun v w'=>v=.bool Aj/\w=w':=by
 obtain⟨vk,vn,vp,vq,vs,h⟩:=h;have d:=a.cap;refine Bw func47 Z ntmps47 Be Z ?_;refine(O 12∘Zv (Bo h.cells)∘O 4∘Cd 2∘Bu) ?_;exact⟨Bl,Z⟩
def Se(h:Cz w B b D)(d:D.Ok):Bn prog 35 [.pointer (X ⟨b,0,Aa⟩)] w fun v w'=>v=U ((if D.dead then 190 else 0:Y):H)/\w=w':=by
 have e:=h;obtain⟨vk,vn,vp,vq,vs,h⟩:=h;refine Bw func35 Z ntmps35 Be Z ?_;refine(O 9∘Zc (Va e d)) ?_;rintro _ _⟨rfl,rfl⟩;refine(O 8∘Zv (Bo h.cells)∘O 2) ?_;refine HE Z (fun a=>?_) (fun a=>?_)
 .refine(O 4∘Bu) ?_;rw[a];exact⟨Z,Z⟩
 .refine(O 6∘Bu) ?_;rw[a];exact⟨Z,Z⟩
end
def eF{w:Ad}{c:Ch}{v:Ah}(h:KO w c v){cap:Y}(d:c.ok cap)(g:cap<=4096){u:Ah}{all:Bg}(a:Bp w 0 5 1 u (Aim all) (BI all))(hl:Aim all<=100000000):
 ∃(f:FuncId) (cs:Bm),v=.func (.func f) (Lg []) (Lg cs)/\Bn prog f ([u]++cs) w fun v' w'=>Chd w w' u v' (c.ap all):=by
 cases c with
 |write i s=>
  obtain⟨m,l,rfl,e,k⟩:=h;exact⟨_,_,Z,Afp m l i s u all w e k a (by have:=d.1;omega) d.2 J⟩
 |cut n=>
  obtain⟨b,rfl,e⟩:=h;exact⟨_,_,Z,(sD b n u all w e a (by have:n<=cap:=d;omega) hl).mono fun _ _ j=>j.2⟩
section
variable{w w':Ad}{B b:Y}{D D':Dv}{vk vn vp vq vk' vn' vp' vq':Ah}{vs vs':Bm}
def Dev.after{d:Bm}(a:B<=b)(h0:Bk w b 85 d)(hm:Mo w w' [b])
 (i:Bk w' b 85 [U (D'.cap:H),vk',vn',vp',U (D'.at_:H),vq',.bool D'.dead,U (D'.calls:H)])
 (hk:Bp w B 5 1 vk' (Aim D'.kept) (BI D'.kept)) (g:Bp w B 5 1 vn' (Aim D'.now) (BI D'.now)) (j:∀k,vk'.ownBlock=X k->vn'.ownBlock≠X k)
 (f:Bp w B 137 1 vp' (Aim D'.pend) vs') (h:KP w D'.pend vs') (e:Bp w B 4 1 vq' (Aim D'.keep) (Lp D'.keep)):Dev w' B b D' vk' vn' vp' vq' vs':=by
 have tm:=Tm.set h0 hm a;exact⟨a,i,tm.own hk Z,tm.own g Z,j,tm.own f Z,h.tm tm Z Z,tm.own e Z⟩
def Dev.tmD{l0:Bm}(hlo:B<=b)(h0:Bk w b 85 l0)(hm:Mo w w' [b]):Tm w w' B Cs:=(Tm.set h0 hm hlo).mono fun T hT=>by simp at hT;simp[Cs,hT]
def Dev.ext(h:Dev w B b D vk vn vp vq vs)(hx:Bf w w'):Dev w' B b D vk vn vp vq vs:=
 ⟨h.lo,h.cells.ext hx,h.kept.ext hx,h.now.ext hx,h.apart,h.pend.ext hx,h.chs.tm (Tm.Age hx 0 (fun _=>Aj)) Z Z,h.keep.ext hx⟩
end
def Bp.Ahh{w:Ad}{B T n c:Y}{xs:Bm}{A:Av AC}(h:Bp w B T 1 (.slice A n c) n xs):A=Aa->xs=[]:=by
 rintro rfl;rcases h.2 with⟨e,rfl⟩|⟨g,a,rest,e,_⟩
 .exact Gx (by simpa using h.1)
 .simp at e
def UD{D:Dv}{c:Av Ch}(h:(D.Agg c).at_≠1):D.Agi c=(Dv.done { D.Agg c with at_:=(D.Agg c).at_-1 } c,0):=by
 unfold Dv.Agi;simp only;split
 .rename_i a
  have:({ D.Agg c with at_:=(D.Agg c).at_-1 }:Dv)=D.Agg c:=by
   generalize D.Agg c=E at a;cases E;simp at a;simp[a]
  rw[this]
 .first|rfl|rw[Ag h]
def UC{D:Dv}{c:Av Ch}(h:(D.Agg c).at_=1):D.Agi c=({ D.Agg c with kept:=Er (D.Agg c).pend (D.Agg c).keep (D.Agg c).kept,now:=Er (D.Agg c).pend (D.Agg c).keep (D.Agg c).kept,pend:=[],at_:=0,keep:=[],dead:=Af },190):=by
 unfold Dv.Agi;simp only;rw[Ag J,Ai h]
def tY{a:Ae Ch}{bs:Ae Aw}{all:Bg}{k:Y}(h:k<Aim a):Er (a.take (k+1)) bs all=if bs.getD k Aj then(a[k]).ap (Er (a.take k) bs all)else Er (a.take k) bs all:=by
 have e:a.take (k+1)=a.take k++[a[k]]:=by rw[Me,BN h];rfl
 rw[e,gr,BY,Hq J]
def Dev.at_{w:Ad}{B b:Y}{D:Dv}{vk vn vp vq:Ah}{vs:Bm}(h:Dev w B b D vk vn vp vq vs):Cz w B b D:=⟨_,_,_,_,_,h⟩
def Kp(w w':Ad)(b:Y)(v1 v2 v3:Ah):Prop:=∀g T l,g≠b->v1.ownBlock≠X g->v2.ownBlock≠X g->v3.ownBlock≠X g->Bk w g T l->Bk w' g T l
def Kp.refl(w:Ad)(b:Y)(v1 v2 a:Ah):Kp w w b v1 v2 a:=fun _ _ _ _ _ _ _ h=>h
def Kp.ext{w a w2:Ad}{b:Y}{v1 v2 d:Ah}(h:Kp w a b v1 v2 d)(hx:Bf a w2):Kp w w2 b v1 v2 d:=fun g T l k j i f e=>(h g T l k j i f e).ext hx
def Kp.mo{w d w2:Ad}{b:Y}{v1 v2 a:Ah}{S:Bi}(h:Kp w d b v1 v2 a)(hm:Mo d w2 S)(o:∀k∈S,k=b∨v1.ownBlock=X k∨v2.ownBlock=X k∨a.ownBlock=X k∨w.heap.size<=k):Kp w w2 b v1 v2 a:=fun g T l n m j i f=>(h g T l n m j i f).mo hm (fun q=>by
 rcases o g q with e|e|e|e|e
 .exact n e
 .exact m e
 .exact j e
 .exact i e
 .exact AK f.lt J)
def Kp.b{w w1 w2:Ad}{b:Y}{v1 v2 v3:Ah}(h:Kp w w1 b v1 v2 v3)(hm:Mo w1 w2 [b]):Kp w w2 b v1 v2 v3:=h.mo hm Bl
def fX{w:Ad}{B b:Y}{D:Dv}{vk vn vp vq:Ah}{vs:Bm}(h:Dev w B b D vk vn vp vq vs)(hD:D.Ok)(vc:Ah)(c:Av Ch)(c9:c=Aa->vc=.nilFunc)(a6:∀d,c=X d->KO w d vc/\d.ok D.cap)
 (S:D.calls<=1000000000) (c2:Aim D.pend<=1000000000) (eg:D.at_<=9223372036854775807) (c6:Aim D.keep<=140737488355328):
 Bn prog 36 [.pointer (X ⟨b,0,Aa⟩),vc] w fun v w'=>v=U (((D.Agi c).2:Y):H)/\Cz w' B b (D.Agi c).1/\Tm w w' B Cs/\Kp w w' b vk vn vp:=by
 have h0:=h.at_
 have hq:vc=.nilFunc/\c.isSome=Aj∨∃f fi ca,vc=.func f fi ca/\c.isSome=Af:=by
  cases c with
  |none=>exact .inl ⟨c9 Z,Z⟩
  |some d=>
   obtain⟨L,_⟩:=a6 d Z;cases d with
   |write i s=>obtain⟨bi,bs,e,_⟩:=L;exact .inr ⟨_,_,_,e,Z⟩
   |cut n=>obtain⟨bi,e,_⟩:=L;exact .inr ⟨_,_,_,e,Z⟩
 have hE:=lN hD (fun d m=>(a6 d m).2);have d7:=h0.lt;have d6:=h.chs.len;refine Bw func36 Z ntmps36 Be Z ?_;refine(O 8∘Zv (by exact cB underlying137 Z Z hq)∘O 1)<|Lc (fun((w1,bb,W):Ad×Ah×(Bm))=>(Dev w1 B b (D.Agg c) vk vn bb vq W/\Tm w w1 B Cs/\Kp w w1 b vk vn vp,[(0,.pointer (X ⟨b,0,Aa⟩)),(1,vc)],w1)) ?_ ?_
 .refine HE Z (fun hc=>?_) (fun hc=>?_)
  .obtain⟨ch,rfl⟩:=Option.isSome_iff_exists.1 hc;have hv:=(a6 ch Z).1;have c1:=hv.one;refine(O 5∘Zv (Bo h.cells)∘O 1) ?_;refine Li 1 Z Z underlying83 aX Z Z Z Z (by first|rfl|(simp only[II,IJ,ID,Bool.and_eq_true];assumption)) Bc ?_;rintro bq N aj cb a0;have j:=h.ext a0;refine OW.append 0 Z Z underlying83 aX Z Bc Z Z ((j.pend.more (BD _))) (Src.Agh underlying83 cb.sl Bl (by simp[c1]) Bc) CE J (BD _) ?_;rintro v3 w3 a3 cr cz;refine(O 2) ?_;have t3:Tm N w3 B (fun j8=>j8==137):=Tm.grown j.pend cr;have b6:=t3.bk j.cells Z
   have bh:Bp w3 B 137 1 v3 (Aim D.pend+1) (vs++[vc]):=a3.base (by
    intro k a;rcases cz with e|e
    .exact(j.pend.lt k (by rw[<-e];exact a)).1
    .rw[e]at a;injection a with a;have:=a0.size;omega)
   have dn:=a3.one;refine(Zt b6) ?_;rintro w4 df b2;refine(O 1∘Lm (w4,v3,(vs++[vc]))) ?_;refine⟨Dev.after (D':=D.Agg (X ch)) h.lo b6 b2 df (t3.own j.kept Z) (t3.own j.now Z) h.apart ?_ ((j.chs.tm t3 Z Z).snoc ((hv.tm (Tm.Age a0 0 (fun _=>Aj)) Z Z).tm t3 Z Z)) (t3.own j.keep Z),?_,(((Kp.refl w b vk vn vp).ext a0).mo (Mo.grown cr (fun k e=>by rw[e];simp)) (fun k a=>.inr (.inr (.inr (.inl (Fb.1 a)))))).b b2⟩
   .have:(D.Agg (X ch)).pend.length=Aim D.pend+1:=by simp[Dv.Agg]
    rw[this];exact bh
   .exact((Tm.Age a0 B Cs).trans (t3.mono fun T hT=>by simp at hT;simp[Cs,hT])).trans (Dev.tmD h.lo b6 b2)
  .obtain rfl:c=Aa:=by cases c;rfl;simp at hc
   refine(O 1∘Lm (w,vp,vs)) ?_;exact⟨h,Tm.refl _ _ _,Kp.refl _ _ _ _ _⟩
 .rintro⟨w1,bb,W⟩⟨L,cg,ce⟩;generalize y:D.Agg c=E at L hE;have ei:E.cap=D.cap:=by rw[<-y,lM]
  have d3:E.at_=D.at_:=by rw[<-y];cases c<;>rfl
  have dg:E.keep=D.keep:=by rw[<-y];cases c<;>rfl
  have eh:Aim E.pend<=1000000001:=by
   rw[<-y];cases c with
   |none=>exact TW c2
   |some c=>simp[Dv.Agg];omega
  have bj:=L.chs.len;refine(O 7∘Zv (Bo L.cells)∘O 2)<|Lc (fun(N:Ad)=>(Dev N B b { E with at_:=E.at_-1 } vk vn bb vq W/\Tm w N B Cs/\E.at_≠1/\Kp w N b vk vn vp,[(0,.pointer (X ⟨b,0,Aa⟩)),(1,vc)],N)) ?_ ?_
  .refine Zi (fun cv=>?_) fun cv=>?_
   .refine(O 6∘Zv (Bo L.cells)∘O 4∘Zt L.cells) ?_;rintro N cb b3;refine(O 7) ?_;have j:Dev N B b { E with at_:=E.at_-1 } vk vn bb vq W:=Dev.after L.lo L.cells b3 cb L.kept L.now L.apart L.pend L.chs L.keep;have ab:Tm w N B Cs:=cg.trans (Dev.tmD L.lo L.cells b3);have ao:=ce.b b3;refine(Zv (Bo j.cells)∘O 2)<|Zi (fun hz=>?_) fun hz=>?_
    .have cf:E.at_=1:=by have:E.at_-1=0:=hz;omega
     obtain⟨A,cp,rfl,ee,dv⟩:=j.pend.slice;obtain⟨Aq,cq,rfl,ed,ds⟩:=j.keep.slice;have d8:Aim E.keep<=140737488355328:=by rw[dg];exact c6
     refine(O 6∘Zv (Bo j.cells)∘O 4)<|Lo (fun((k,al,all,wr):Y×Ah×(Bg)×Ad)=>(k<=Aim E.pend/\all=Er (E.pend.take k) E.keep E.kept/\Aim all<=512*E.cap/\Dev wr B b { E with at_:=0,kept:=all } al vn (.slice A (Aim E.pend) cp) (.slice Aq (Aim E.keep) cq) W/\Tm w wr B Cs/\Kp w wr b vk vn vp/\(∀k,al.ownBlock=X k->vk.ownBlock=X k∨w.heap.size<=k),[(0,.pointer (X ⟨b,0,Aa⟩)),(43,.slice A (Aim E.pend) cp),(44,U ((Aim E.pend:Y):H)),(45,U k)],wr,Aim E.pend-k)) (0,vk,E.kept,N) ?_ ?_
     .refine⟨J,by simp[Er],hE.kept,?_,ab,ao,fun k a=>.inl a⟩;have:E.at_-1=0:=J;rw[<-this];exact j
     .rintro⟨k,al,all,wr⟩⟨a,V,cc,m,a1,bc,bf⟩;have a7:=hE.cap;refine(O 5)<|Zi (fun ai=>?_) fun ai=>?_
      .obtain⟨v,hv,ct⟩:=m.chs.at_ k ai;have d0:=ct.one;obtain⟨g,d5,rest,e,ec,hg,eb,d9,ea⟩:=m.pend.blk (by rw[bj];omega);simp only[Value.slice.injEq,true_and]at e;obtain⟨rfl,rfl⟩:=e;have cx:(W++rest)[k]? =X v:=by rw[FA (by rw[bj];exact ai)];exact hv
       have o:=tY (bs:=E.keep) (all:=E.kept) ai;rw[<-V]at o;refine(O 7∘Zv (Bo hg (hi:=cx))∘O 10∘Zv (Bo m.cells)∘O 3)<|Zd 58 (fun af=>?_) fun af=>?_
       .have b5:E.keep.getD k Aj=E.keep[k]:=by simp[TK,BN af]
        rw[b5]at o;obtain⟨gq,d4,bl,eq,d1,c8,_,_,_⟩:=m.keep.blk (by rw[dX];exact WQ (BD _) af);simp only[Value.slice.injEq,true_and]at eq;obtain⟨rfl,rfl⟩:=eq;have da:(Lp E.keep++bl)[k]? =X (.bool E.keep[k]):=by rw[FA (by rw[dX];exact af)];simp[Lp,af]
        refine(O 4∘Zv (Bo m.cells)∘O 2∘Zv (Bo c8 (hi:=da))∘O 2) ?_;refine HE Z (fun hb=>?_) (fun hb=>?_)
        .rw[Ai hb]at o;obtain⟨f,cs,rfl,a2⟩:=eF ct (hE.pend _ (BM ai)) a7.2 (m.kept.more (BD _)) (by show Aim all<=100000000;omega);refine(O 6∘Zv (Bo m.cells)∘Ea a2) ?_;rintro v5 w5⟨r,t,G⟩;refine(O 2) ?_;have P:Tm wr w5 B (fun j8=>j8==5):=Tm.Agl m.kept t;have bn:=r.one;have bx:=m.now.mo t (fun k a b4=>m.apart k (Fb.1 b4) a)
         have a9:∀k,v5.ownBlock=X k->vn.ownBlock≠X k:=by
          intro k a I;rcases G with e|⟨g',e,aj⟩
          .exact m.apart k (by rw[<-e];exact a) I
          .rw[e]at a;injection a with a;have:=(m.now.lt k I).2;omega
         have K:Bp w5 B 5 1 v5 (Aim ((E.pend[k]).ap all)) (BI ((E.pend[k]).ap all)):=r.base (by
          intro k a;rcases G with e|⟨g',e,aj⟩
          .exact(m.kept.lt k (by rw[<-e];exact a)).1
          .rw[e]at a;injection a with a;have:=m.cells.lt;have:=m.lo;omega)
         refine(Zt (P.bk m.cells Z)) ?_;rintro w6 b9 a4;refine(O 6)<|Lb ((k+1),v5,((E.pend[k]).ap all),w6) ?_
         refine⟨J,o.symm,Ui (hE.pend _ (BM ai)) cc,?_,?_,(bc.mo t (fun k a=>by
          rcases bf k (Fb.1 a)with e|e
          .exact .inr (.inl e)
          .exact .inr (.inr (.inr (.inr e))))).b a4,fun k a=>by
          rcases G with e|⟨g',e,aj⟩
          .exact bf k (by rw[<-e];exact a)
          .rw[e]at a;injection a with a;right;have q:=a1.size;have q2:=aj;omega⟩
         .exact Dev.after (D':={ E with at_:=0,kept:=(E.pend[k]).ap all }) m.lo (P.bk m.cells Z) a4 b9 K bx a9 (P.own m.pend Z) (m.chs.tm P Z Z) (P.own m.keep Z)
         .exact(a1.trans (P.mono fun T hT=>by simp at hT;simp[Cs,hT])).trans (Dev.tmD m.lo (P.bk m.cells Z) a4)
        .rw[Ag (by simp[hb])]at o;refine(O 6)<|Lb ((k+1),al,all,wr) ?_;exact⟨J,o.symm,cc,m,a1,bc,bf⟩
       .have b5:E.keep.getD k Aj=Aj:=by simp[TK,IM (Nat.le_of_not_lt af)]
        rw[b5]at o;refine(O 17)<|Lb ((k+1),al,all,wr) ?_;exact⟨J,by rw[o];rfl,cc,m,a1,bc,bf⟩
      .obtain rfl:k=Aim E.pend:=J;rw[DY]at V;obtain⟨Ak,ck,rfl,ef,cl⟩:=m.kept.slice;have p:=eO Ak ck (BI all) _ wr cl m.kept.Ahh Uo (by rw[EF];omega);rw[EF]at p;refine(O 10∘Zv (Bo m.cells)∘Zc p) ?_;rintro v7 w7⟨l,Q⟩;refine(O 3) ?_;have C:=m.ext Q;have bm:=l.one;refine(Zt C.cells) ?_;rintro w8 b8 b1;refine(O 2∘Zt b8) ?_;rintro w9 b7 b0;refine(O 2∘Zs b7) ?_;rintro cd a8 a5;refine(O 2∘Zt a8) ?_;rintro cw cu co;refine(O 5∘Bu) ?_;have x:Mo w7 cw [b]:=((b1.trans b0).trans a5).trans co;have dk:all=Er (D.Agg c).pend (D.Agg c).keep (D.Agg c).kept:=by rw[y];exact V
       rw[UC (by rw[y];exact cf),y,<-V];refine⟨Z,⟨_,_,_,_,[],Dev.after (D':={ E with kept:=all,now:=all,pend:=[],at_:=0,keep:=[],dead:=Af }) m.lo C.cells x cu C.kept (l.base (fun k a=>by have:=(l.lt k a).1;have:=m.cells.lt;have:=m.lo;omega)) ?_ (Bp.nil _ _ _ _) AB (Bp.nil _ _ _ _)⟩,?_,(bc.ext Q).b x⟩
       .intro k a I;have q1:=(m.kept.lt k a).2;have q2:=(l.lt k I).1;omega
       .exact(a1.trans (Tm.Age Q B Cs)).trans (Dev.tmD m.lo C.cells x)
    .refine(O 1∘Lm N) ?_;have cf:¬E.at_-1=0:=hz;exact⟨j,ab,J,ao⟩
   .refine(O 1∘Lm w1) ?_;have e0:E.at_=0:=J;refine⟨?_,cg,J,ce⟩;have:({ E with at_:=E.at_-1 }:Dv)=E:=by cases E;simp at e0;simp[e0]
    rw[this];exact L
  .rintro N⟨j,ab,cm,ao⟩;have a7:=hE.cap;have c4:=hE.now;rw[UD (by rw[y];exact cm),y];refine(O 4∘Zv (by exact cB underlying137 Z Z hq)∘O 1) ?_;refine HE Z (fun hc=>?_) (fun hc=>?_)
   .obtain⟨ch,rfl⟩:=Option.isSome_iff_exists.1 hc;have c0:KO N ch vc:=(a6 ch Z).1.tm ab Z Z;have c3:=(a6 ch Z).2;obtain⟨f,cs,rfl,a2⟩:=eF c0 c3 hD.cap.2 (j.now.more (BD _)) (by show Aim E.now<=100000000;omega);refine(O 6∘Zv (Bo j.cells)∘Ea a2) ?_;rintro v5 w5⟨r,t,G⟩;refine(O 2) ?_;have P:Tm N w5 B (fun j8=>j8==5):=Tm.Agl j.now t;have bn:=r.one;have c7:=j.kept.mo t (fun k a b4=>j.apart k a (Fb.1 b4))
    have a9:∀k,vk.ownBlock=X k->v5.ownBlock≠X k:=by
     intro k I a;rcases G with e|⟨g',e,aj⟩
     .exact j.apart k I (by rw[<-e];exact a)
     .rw[e]at a;injection a with a;have:=(j.kept.lt k I).2;omega
    have K:Bp w5 B 5 1 v5 (Aim (ch.ap E.now)) (BI (ch.ap E.now)):=r.base (by
     intro k a;rcases G with e|⟨g',e,aj⟩
     .exact(j.now.lt k (by rw[<-e];exact a)).1
     .rw[e]at a;injection a with a;have:=j.cells.lt;have:=j.lo;omega)
    refine(Zt (P.bk j.cells Z)) ?_;rintro w6 b9 a4;refine(O 6) ?_;have ba:({ E with at_:=E.at_-1 }:Dv).calls<=1000000000:=by show E.calls<=1000000000;rw[<-y];exact S
    refine(O 4∘Zt b9) ?_;rintro w7 db c5;refine(O 5∘Bu) ?_;have x:Mo w5 w7 [b]:=a4.trans c5;refine⟨Z,⟨_,_,_,_,_,Dev.after (D':=Dv.done { E with at_:=E.at_-1 } (X ch)) j.lo (P.bk j.cells Z) x db c7 K a9 (P.own j.pend Z) (j.chs.tm P Z Z) (P.own j.keep Z)⟩,?_,(ao.mo t (fun k a=>.inr (.inr (.inl (Fb.1 a))))).b x⟩;exact(ab.trans (P.mono fun T hT=>by simp at hT;simp[Cs,hT])).trans (Dev.tmD j.lo (P.bk j.cells Z) x)
   .obtain rfl:c=Aa:=by cases c;rfl;simp at hc
    obtain⟨An,cn,rfl,d2,cj⟩:=j.now.slice;have p:=eO An cn (BI E.now) _ N cj j.now.Ahh Uo (by rw[EF];omega);rw[EF]at p;have ba:({ E with at_:=E.at_-1 }:Dv).calls<=1000000000:=by show E.calls<=1000000000;rw[<-y];exact S
    refine(O 6∘Zv (Bo j.cells)∘Zc p) ?_;rintro v7 w7⟨l,Q⟩;refine(O 2) ?_;have C:=j.ext Q;have bm:=l.one;refine(Zt C.cells) ?_;rintro w8 b8 b1;refine(O 2∘Zt b8) ?_;rintro w9 b7 b0;refine(O 10∘Zt b7) ?_;rintro cd a8 a5;refine(O 5∘Bu) ?_;have x:Mo w7 cd [b]:=(b1.trans b0).trans a5;refine⟨Z,⟨_,_,_,_,[],Dev.after (D':=Dv.done { E with at_:=E.at_-1 } Aa) j.lo C.cells x a8 (l.base (fun k a=>by have:=(l.lt k a).1;have:=j.cells.lt;have:=j.lo;omega)) C.now ?_ (Bp.nil _ _ _ _) AB C.keep⟩,?_,(ao.ext Q).b x⟩
    .intro k a I;have q1:=(j.now.lt k I).2;have q2:=(l.lt k a).1;omega
    .exact(ab.trans (Tm.Age Q B Cs)).trans (Dev.tmD j.lo C.cells x)
def fW{w:Ad}{B b:Y}{D:Dv}(h0:Cz w B b D)(l:D.Ok)(e:Ah)(c:Av Ch)(j:c=Aa->e=.nilFunc)(i:∀d,c=X d->KO w d e/\d.ok D.cap)
 (a:D.calls<=1000000000) (f:Aim D.pend<=1000000000) (k:D.at_<=9223372036854775807) (g:Aim D.keep<=140737488355328):
 Bn prog 36 [.pointer (X ⟨b,0,Aa⟩),e] w fun v w'=>v=U (((D.Agi c).2:Y):H)/\Cz w' B b (D.Agi c).1/\Tm w w' B Cs:=by
 obtain⟨vk,vn,vp,vq,vs,h⟩:=h0;exact(fX h l e c j i a f k g).mono fun _ _ q=>⟨q.1,q.2.1,q.2.2.1⟩
def _root_.Go.Proofs.YtkmlafmjaeeanaaGreatDoor.Dsk.Dv.write(D:Dv)(i:H)(s:Bg):Dv×Y:=
 if D.dead then(D,190)else if i<0∨(D.cap:H)<=i then(D,191)else if Aim s≠512 then(D,2)else D.Agi (X (.write i.toNat s))
def _root_.Go.Proofs.YtkmlafmjaeeanaaGreatDoor.Dsk.Dv.cut(D:Dv)(n:H):Dv×Y:=
 if D.dead then(D,190)else if n<0∨((Aim D.now/512:Y):H)<n then(D,191)else D.Agi (X (.cut n.toNat))
def _root_.Go.Proofs.YtkmlafmjaeeanaaGreatDoor.Dsk.Dv.sync(D:Dv):Dv×Y:=if D.dead then(D,190)else D.Agi Aa
def WX.of{P:AE}{f:FuncId}{args:Bm}{w:Ad}{v:Ah}(h:Bn P f args w fun v' w'=>v'=v/\w=w'):WX P f args w v:=
 h.mono fun _ _⟨h1,h2⟩=>⟨h1,0,by subst h2;rfl⟩
section
variable{w:Ad}{B b:Y}{D:Dv}
def Pf(h:Cz w B b D)(a:D.Ok):Bn prog 40 [.pointer (X ⟨b,0,Aa⟩)] w fun v w'=>v=U ((Aim D.now/512:Y):H)/\w=w':=by
 have e:=h;obtain⟨k,j,i,g,f,h⟩:=h;have m:=a.now;have l:=a.cap;obtain⟨A,c,rfl,n,d⟩:=h.now.slice;refine Bw func40 Z ntmps40 (by rfl) Z ?_;refine(O 8∘Zc (Va e a)) ?_;rintro _ _⟨rfl,rfl⟩;refine(O 8∘Zv (Bo h.cells)∘O 4∘Bu) ?_;simp
def Ij(h:Cz w B b D)(a:D.Ok):Bn prog 38 [.pointer (X ⟨b,0,Aa⟩)] w fun v w'=>v=U (D.cap:H)/\w=w':=by
 have d:=h;obtain⟨j,i,g,f,e,h⟩:=h;refine Bw func38 Z ntmps38 (by rfl) Z ?_;refine(O 8∘Zc (Va d a)) ?_;rintro _ _⟨rfl,rfl⟩;refine(O 8∘Zv (Bo h.cells)∘O 2∘Bu) ?_;simp
def Uz(h:Cz w B b D)(a:D.Ok):Bn prog 19 [.pointer (X ⟨b,0,Aa⟩)] w fun v w'=>v=.bool D.dead/\w=w':=by
 have d:=h;obtain⟨j,i,g,f,e,h⟩:=h;refine Bw func19 Z ntmps19 (by rfl) Z ?_;refine(O 7∘Zc (Va d a)) ?_;rintro _ _⟨rfl,rfl⟩;refine(O 5∘Zv (Bo h.cells)∘O 3∘Bu) ?_;simp
end
structure Small(D:Dv):Prop where
 calls:D.calls<=1000000000
 pend:Aim D.pend<=1000000000
 at_:D.at_<=9223372036854775807
 keep:Aim D.keep<=140737488355328
section
variable{w:Ad}{B b:Y}{D:Dv}
def Rs(h:Cz w B b D)(f:D.Ok)(a:Small D):Bn prog 14 [.pointer (X ⟨b,0,Aa⟩)] w fun v w'=>v=U ((D.sync.2:Y):H)/\Cz w' B b D.sync.1/\Tm w w' B Cs:=by
 refine Bw func14 Z ntmps14 (by rfl) Z ?_;refine(O 8∘Zc (Se h f)) ?_;rintro _ _⟨rfl,rfl⟩;refine(O 7) ?_;rcases hd:D.dead with _|_
 .have e:D.sync=D.Agi Aa:=by unfold Dv.sync;rw[hd];rfl
  rw[Ag Bl];refine(Cd 7∘O 5∘Zc (fW h f .nilFunc Aa (fun _=>rfl) (fun d q=>by grind) a.calls a.pend a.at_ a.keep)) ?_;rintro _ w'⟨rfl,i,g⟩;refine(O 2∘Bu) ?_;grind
 .have e:D.sync=(D,190):=by unfold Dv.sync;rw[hd];rfl
  rw[Ai Z];refine(If 7∘O 6∘Bu) ?_;rw[e];exact⟨Z,h,Tm.refl _ _ _⟩
def Afr{E C A vq:Ah}{vs:Bm}(o:Dev w B b D E C A vq vs)(W:D.Ok)(K:Small D)(i:H)(i0:-9223372036854775808<=i)(i1:i<=9223372036854775807)(s:Bg)(ab:Aim s<=140737488355328):
 Bn prog 13 [.pointer (X ⟨b,0,Aa⟩),U i,Bj s] w fun v w'=>v=U (((D.write i s).2:Y):H)/\Cz w' B b (D.write i s).1/\Tm w w' B Cs/\Kp w w' b E C A:=by
 have h:=o.at_;refine Bw func13 Z ntmps13 Be Z ?_;refine(O 2) ?_;refine Mh Z Z Z Z ?_;rintro bi w1 V L f;refine Mh Z Z Z Z ?_;rintro bs y S p a;refine(O 6) ?_;have m:=L.ext a;have r:=h.ext (f.trans a);have G:Tm w y B Cs:=Tm.Age (f.trans a) B Cs;refine(Zc (Se r W)) ?_;rintro _ _⟨rfl,rfl⟩;refine(O 7) ?_;rcases hd:D.dead with _|_
 .rw[Ag Bl];refine(Cd 11∘O 4) ?_;have P:=o.ext (f.trans a);have k:=(Kp.refl w b E C A).ext (f.trans a);refine(O 1∘Zq (by exact fun _=>Bo (m.drewN _))∘O 2)<|Nw 15 (fun x=>?_) fun x=>?_
  .have e:D.write i s=(D,191):=by unfold Dv.write;rw[hd,Ag Bl,Ai (.inl x)]
   refine(O 7∘QW.nil) fun I=>(O 5∘Bu) ?_;rw[e];exact⟨Z,r.ext (Bf.drewN _ _),G.trans (Tm.Age (Bf.drewN _ _) _ _),k.ext (Bf.drewN _ _)⟩
  .skip
   refine(Zq (by exact fun _=>Bo (m.drewN _))∘O 3∘Zq (by exact fun _=>Bo (P.cells.drewN _))∘O 2∘QW.nil) fun I=>Zi (fun t=>?_) fun t=>?_
   .have e:D.write i s=(D,191):=by unfold Dv.write;rw[hd,Ag Bl,Ai (.inr t)]
    refine(O 4∘Bu) ?_;rw[e];exact⟨Z,r.ext (Bf.drewN _ _),G.trans (Tm.Age (Bf.drewN _ _) _ _),k.ext (Bf.drewN _ _)⟩
   .have Q:¬(i<0∨(D.cap:H)<=i):=J;have h3:=r.ext (Bf.drewN y I);have N:Tm w (y.drewN I) B Cs:=G.trans (Tm.Age (Bf.drewN _ _) _ _);obtain⟨j,rfl⟩:=Fq (show 0<=i by omega);refine(O 4∘Zv (Bo (p.drewN _))∘O 3)<|Zi (fun n=>?_) fun n=>?_
    .have e:D.write (j:H) s=(D,2):=by unfold Dv.write;rw[hd,Ag Bl,Ag Q,Ai n]
     refine(O 4∘Bu) ?_;rw[e];exact⟨Z,h3,N,k.ext (Bf.drewN _ _)⟩
    .have e:D.write (j:H) s=D.Agi (X (.write j s)):=by unfold Dv.write;rw[hd,Ag Bl,Ag Q,Ag n];rfl
     refine(O 4∘Zv (by exact Gc Z Z)∘Zc (fX (P.ext (Bf.drewN y I)) W _ (X (.write j s)) (fun q=>by cases q) (fun d q=>by cases q;exact⟨⟨bi,bs,Z,m.drewN _,p.drewN _⟩,J,J⟩) K.calls K.pend K.at_ K.keep)) ?_;rintro _ w4⟨rfl,h4,t4,k4⟩;refine(O 2∘Bu) ?_;rw[e];exact⟨Z,h4,N.trans t4,fun g T l x t n a4 hb=>k4 g T l x t n a4 ((k.ext (Bf.drewN _ _)) g T l x t n a4 hb)⟩
 .have e:D.write i s=(D,190):=by unfold Dv.write;rw[hd];rfl
  rw[Ai Z];refine(If 11∘O 6∘Bu) ?_;rw[e];exact⟨Z,r,G,(Kp.refl w b E C A).ext (f.trans a)⟩
def Tq(h:Cz w B b D)(j:D.Ok)(g:Small D)(i:H)(e:-9223372036854775808<=i)(d:i<=9223372036854775807)(s:Bg)(a:Aim s<=140737488355328):
 Bn prog 13 [.pointer (X ⟨b,0,Aa⟩),U i,Bj s] w fun v w'=>v=U (((D.write i s).2:Y):H)/\Cz w' B b (D.write i s).1/\Tm w w' B Cs:=by
 obtain⟨o,n,m,l,k,f⟩:=h;exact(Afr f j g i e d s a).mono fun _ _ q=>⟨q.1,q.2.1,q.2.2.1⟩
def cut_d(h:Cz w B b D)(l:D.Ok)(k:Small D)(i:H)(N:-9223372036854775808<=i)(L:i<=9223372036854775807):
 Bn prog 70 [.pointer (X ⟨b,0,Aa⟩),U i] w fun v w'=>v=U (((D.cut i).2:Y):H)/\Cz w' B b (D.cut i).1/\Tm w w' B Cs:=by
 have p:=l.now;refine Bw func70 Z ntmps70 Be Z ?_;refine(O 2) ?_;refine Mh Z Z Z Z ?_;rintro I m r a f;refine(O 6) ?_;have g:=h.ext f;have n:Tm w m B Cs:=Tm.Age f B Cs;refine(Zc (Se g l)) ?_;rintro _ _⟨rfl,rfl⟩;refine(O 7) ?_;rcases hd:D.dead with _|_
 .rw[Ag Bl];refine(Cd 9∘O 5∘Zq (by exact fun _=>Bo (a.drewN _))∘O 2)<|Nw 13 (fun x=>?_) fun x=>?_
  .have e:D.cut i=(D,191):=by unfold Dv.cut;rw[hd,Ag Bl,Ai (.inl x)]
   refine(O 5∘QW.nil) fun o=>(O 5∘Bu) ?_;rw[e];exact⟨Z,g.ext (Bf.drewN _ _),n.trans (Tm.Age (Bf.drewN _ _) _ _)⟩
  .skip
   refine(Zq (by exact fun _=>Bo (a.drewN _))∘O 1) ?_;refine QW.call Z Z Z (fun _=>WX.of (Pf (g.ext (Bf.drewN _ _)) l))<|(O 2∘QW.nil) fun o=>Zi (fun t=>?_) fun t=>?_
   .have e:D.cut i=(D,191):=by unfold Dv.cut;rw[hd,Ag Bl,Ai (.inr t)]
    refine(O 4∘Bu) ?_;rw[e];exact⟨Z,g.ext (Bf.drewN _ _),n.trans (Tm.Age (Bf.drewN _ _) _ _)⟩
   .have C:¬(i<0∨((Aim D.now/512:Y):H)<i):=J;have G:=g.ext (Bf.drewN m o);have A:Tm w (m.drewN o) B Cs:=n.trans (Tm.Age (Bf.drewN _ _) _ _);obtain⟨j,rfl⟩:=Fq (show 0<=i by omega);have e:D.cut (j:H)=D.Agi (X (.cut j)):=by unfold Dv.cut;rw[hd,Ag Bl,Ag C];rfl
    refine(O 4∘Zv (by exact Gc Z Z)∘Zc (fW G l _ (X (.cut j)) (fun q=>by cases q) (fun d q=>by cases q;exact⟨⟨I,Z,a.drewN _⟩,(show j<=D.cap by omega)⟩) k.calls k.pend k.at_ k.keep)) ?_;rintro _ K⟨rfl,E,y⟩;refine(O 2∘Bu) ?_;rw[e];exact⟨Z,E,A.trans y⟩
 .have e:D.cut i=(D,190):=by unfold Dv.cut;rw[hd];rfl
  rw[Ai Z];refine(If 9∘O 6∘Bu) ?_;grind
end
def _root_.Go.Proofs.YtkmlafmjaeeanaaGreatDoor.Dsk.fresh(cap:Y)(s:Bg):Dv:={ cap:=cap,kept:=s,now:=s,pend:=[],at_:=0,keep:=[],dead:=Aj,calls:=0 }
def gU{cap:Y}{s:Bg}(h:1<=cap/\cap<=4096)(h1:Aim s%512=0)(h2:Aim s/512<=cap):(fresh cap s).Ok:=
 ⟨h,by show Aim s<=512*cap;omega,by show Aim s<=512*cap;omega,h1,h1,fun c hc=>by simp[fresh]at hc⟩
def _root_.Go.Proofs.YtkmlafmjaeeanaaGreatDoor.Dsk.may(c:H)(s:Bg):Prop:=1<=c/\c<=4096/\Aim s%512=0/\((Aim s/512:Y):H)<=c
def Bp.ofBytes{w:Ad}{B g cap:Y}{s:Bg}{rs:Bm}(hb:Bk w g 5 (BI s++rs))(hB:B<=g)(hc:Aim s<=cap)(hm:cap<=maxLen)(hl:Aim s+Aim rs=cap):Bp w B 5 1 (.slice (X ⟨g,0,Aa⟩) (Aim s) cap) (Aim s) (BI s):=
 ⟨by simp[BI],.inr ⟨g,cap,rs,Z,hB,hb,by rw[EF];omega,hc,hm⟩⟩
def vQ(c:H)(c0:-9223372036854775808<=c)(c1:c<=9223372036854775807)(s:Bg)(hs:Aim s<=140737488355328)(w:Ad):
 Bn prog 64 [U c,Bj s] w fun v w'=>∃(p:Ah) (e:Y),v=.tuple #[p,U (e:H)]/\Bf w w'/\((¬may c s/\p=.pointer Aa/\e=2)∨(may c s/\∃b,p=.pointer (X ⟨b,0,Aa⟩)/\e=0/\Cz w' w.heap.size b (fresh c.toNat s))):=by
 refine Bw func64 Z ntmps64 Be Z ?_;refine(O 7)<|Lc (fun(_u:Unit)=>(True,[(0,U (c:H)),(1,Bj (s)),(24,.bool (decide (¬(1<=c/\c<=4096/\Aim s%512=0/\((Aim s/512:Y):H)<=c))))],w)) ?_ ?_
 .refine(O 4)<|Zd 8 (fun Q=>?_) fun Q=>?_
  .refine(O 17∘Cw 24 (.bool (decide (¬(1<=c/\c<=4096/\Aim s%512=0/\((Aim s/512:Y):H)<=c)))) (e:=by rw[AM];omega)∘Lm ()) ?_;trivial
  .refine(O 4)<|Zd 12 (fun P=>?_) fun P=>?_
   .refine(O 13∘Cw 24 (.bool (decide (¬(1<=c/\c<=4096/\Aim s%512=0/\((Aim s/512:Y):H)<=c)))) (e:=by rw[AM];omega)∘Lm ()) ?_;trivial
   .refine(O 6)<|Zd 18 (fun N=>?_) fun N=>?_
    .refine(O 7∘Cw 24 (.bool (decide (¬(1<=c/\c<=4096/\Aim s%512=0/\((Aim s/512:Y):H)<=c)))) (e:=by rw[AM];omega)∘Lm ()) ?_;trivial
    .refine(O 7∘Cw 24 (.bool (decide (¬(1<=c/\c<=4096/\Aim s%512=0/\((Aim s/512:Y):H)<=c)))) (e:=by exact Ar Value.bool (decide_eq_decide.2 J))∘Lm ()) ?_;trivial
 .rintro _ _;refine Zi (fun m=>?_) fun m=>?_
  .refine(O 5∘BH) ?_;exact⟨_,2,Z,Bf.refl _,.inl ⟨m,Z,Z⟩⟩
  .have a:may c s:=Dm.1 m;obtain⟨m1,m2,m3,m4⟩:=id a;obtain⟨j,rfl⟩:=Fq (show 0<=c by omega);refine(O 5) ?_;refine OW.bytesOf Z Z underlying9 underlying23 underlying5 Z J ?_;rintro cp W V h t l o g;refine(O 1) ?_;refine OW.bytesOf Z Z underlying9 underlying23 underlying5 Z J ?_;rintro L C B y r i n f;refine(O 1) ?_;refine DB Z Z Z ?_;rintro b T G x d;refine(O 3∘BH) ?_;have K:=Bp.ofBytes h (Bq _) t l o;have A:=g.size;have S:=f.size;have I:Bp B w.heap.size 5 1 _ _ _:=Bp.ofBytes y A r i n;have l1:=h.lt;refine⟨_,0,Z,(g.trans f).trans d,.inr ⟨a,b,Z,Z,_,_,_,_,[],⟨J,x,(K.ext f).ext d,I.ext d,?_,Bp.nil _ _ _ _,AB,Bp.nil _ _ _ _⟩⟩⟩;intro k E q;simp[Value.ownBlock]at E q;omega
def new_s(c:H)(c0:-9223372036854775808<=c)(c1:c<=9223372036854775807)(w:Ad):
 Bn prog 29 [U c] w fun v w'=>∃(p:Ah) (e:Y),v=.tuple #[p,U (e:H)]/\Bf w w'/\((¬may c []/\p=.pointer Aa/\e=2)∨(may c []/\∃b,p=.pointer (X ⟨b,0,Aa⟩)/\e=0/\Cz w' w.heap.size b (fresh c.toNat []))):=by
 refine Bw func29 Z ntmps29 (by rfl) Z ?_;refine(O 8∘Zc (vQ c c0 c1 [] Bl w)) ?_;rintro _ f⟨p,e,rfl,d,a⟩;refine(O 5∘BH) ?_;exact⟨p,e,Z,d,a⟩
def zL(i n b:Y)(h:i<n):(BG i (Value.int .u8 (b:H))++BG (n-i) (Value.int .u8 0)).set i (.int .u8 (b:H))=BG (i+1) (Value.int .u8 (b:H))++BG (n-(i+1)) (Value.int .u8 0):=by
 rw[Md _ _ Bl,Cm,EP,show n-i=(n-(i+1))+1 by omega,HI,IN,Ow];simp
section
variable{D:Dv}
def NZ(h:D.Ok)(i:H)(s:Bg):(D.write i s).1.Ok:=by
 unfold Dv.write;split
 .exact h
 .split
  .exact h
  .split
   .exact h
   .rename_i f e;refine XT h fun d a=>?_;cases a;exact⟨J,J⟩
def sG(h:D.Ok)(i:H):(D.cut i).1.Ok:=by
 have e:=h.now;unfold Dv.cut;split
 .exact h
 .split
  .exact h
  .rename_i f;refine XT h fun d a=>?_;cases a;show i.toNat<=D.cap;omega
def aN(h:D.Ok):D.sync.1.Ok:=by
 unfold Dv.sync;split
 .omega
 .exact XT h fun d a=>by grind
end
end
section
attribute [local irreducible] OW KW QW EX GW NV
open Bz
def KN(T:Ay):Aw:=T==280||T==5
structure WrO(w:Ad)(B wb:Y)(l:Bs)(vo:Ah):Prop where
 lo:B<=wb
 cells:Bk w wb 280 [vo,U ((Aim l:Y):H)]
 own:Bp w B 5 1 vo (Aim (pack l)) (BI (pack l))
def FB(w:Ad)(B wb:Y)(l:Bs):Prop:=∃vo,WrO w B wb l vo
def FB.ext{w w':Ad}{B wb:Y}{l:Bs}(h:FB w B wb l)(hx:Bf w w'):FB w' B wb l:=by
 obtain⟨a,f,e,d⟩:=h;exact⟨a,f,e.ext hx,d.ext hx⟩
def FB.tm{w w':Ad}{B wb C:Y}{l:Bs}{p:Ay->Aw}(h:FB w B wb l)(t:Tm w w' C p)(p1:p 280=Aj)(p2:p 5=Aj):FB w' B wb l:=by
 obtain⟨a,f,e,d⟩:=h;exact⟨a,f,t.bk e p1,t.own d p2⟩
def Pp(w:Ad):Bn prog 133 [] w fun v w'=>∃wb,v=.pointer (X ⟨wb,0,Aa⟩)/\FB w' w.heap.size wb []/\Bf w w':=by
 refine Bw func133 Z ntmps133 Be Z ?_;refine(O 7) ?_;refine DB Z Z Z ?_;rintro wb f a e d;refine(O 2∘Bu) ?_;exact⟨wb,Z,⟨_,a,e,Bp.nil _ _ _ _⟩,d⟩
def Qv(s:Bg)(b:AH):BI (s++[b])=BI s++[.int .u8 (b.toNat:H)]:=by simp[BI]
def rc(s:Bg)(i x:Y)(hx:x<=255)(rest:Bm)(hi:i<Aim s):(BI s++rest).set i (.int .u8 (x:H))=BI (s.set i (BS x))++rest:=by
 have a:i<Aim (BI s):=by simpa[BI]using hi
 rw[TU _ _ a];have e:((BS x).toNat:H)=(x:H):=Bx;have d:BI (s.set i (BS x))=(BI s).set i (.int .u8 (x:H)):=by unfold BI;rw[List.map_set,e]
 grind
def GJ(B wb:Y)(l:Bs)(v n:Y)(hv:v<18446744073709551616)(hn:n<=64)(a5:v<2 ^ n)(hl:Aim l<=1000000000)(w:Ad)(h:FB w B wb l):
 Bn prog 134 [.pointer (X ⟨wb,0,Aa⟩),.int .u64 (v:H),U (n:H)] w fun r w'=>r=U 0/\FB w' B wb (l++nb n v)/\Tm w w' B KN:=by
 refine Bw func134 Z ntmps134 Be Z ?_;refine(O 14)<|Lc (fun(_u:Unit)=>(True,[(0,.pointer (X ⟨wb,0,Aa⟩)),(1,.int .u64 (v:H)),(2,U n),(26,.bool Aj)],w)) ?_ ?_
 .refine(O 4∘Ig 12∘O 4∘Ig 16∘O 3)<|Zd 19 (fun bj=>?_) fun bj=>?_
  .have hz:v/2 ^ n=0:=Nat.div_eq_of_lt a5;refine(O 3∘Zv (by exact PV Z Z (by show _<=64;omega))∘O 4∘Cd 26∘Lm ()) ?_;trivial
  .refine(O 8∘Lm ()) ?_;trivial
 .rintro _ _;refine(O 10)<|Lo (fun((i,wr):H×Ad)=>((∃k:Y,i=(n:H)-1-k/\k<=n/\FB wr B wb (l++(nb n v).take k))/\Tm w wr B KN,[(0,.pointer (X ⟨wb,0,Aa⟩)),(1,.int .u64 (v:H)),(7,U (i:H))],wr,(i+1).toNat)) (((n:H)-1),w) ?_ ?_
  .exact⟨⟨0,J,BD _,Bh⟩,Tm.refl _ _ _⟩
  .rintro⟨i,wr⟩⟨⟨k,b1,b0,L⟩,a6⟩;refine(O 6)<|Zi (fun a0=>?_) fun a0=>?_
   .obtain⟨j,rfl⟩:=Fq a0;have a8:k<n:=J;have hj:n-1-k=j:=J;have ab:=xJ (v:=v) a8;rw[hj]at ab;have bh:Aim (l++(nb n v).take k)=Aim l+k:=by rw[BA,BY,nb_length];omega
    have ai:l++(nb n v).take (k+1)=(l++(nb n v).take k)++[v.testBit j]:=by rw[ab,Cq]
    generalize l++(nb n v).take k=bs at L bh ai;obtain⟨vo,S,d,y⟩:=L;have bx:=pack_length bs;have t:=yI bs;refine(O 5)<|Ld (fun((f,G):Ah×Ad)=>(Bk G wb 280 [f,U ((Aim bs:Y):H)]/\Bp G B 5 1 f (Aim (pack (bs++[Aj]))) (BI (pack (bs++[Aj])))/\Tm wr G B KN,[(0,.pointer (X ⟨wb,0,Aa⟩)),(1,.int .u64 (v:H)),(7,U j)],G)) ?_ ?_
    .refine(O 8)<|Zi (fun h8=>?_) fun h8=>?_
     .rw[Ai J]at t;have ao:=Ar DW t;rw[BA,CJ]at ao;refine(O 6∘Qs B (by have:=d.lt;omega) y) ?_;rintro _ v2 o e al bf;refine(O 2) ?_;have I:Tm wr o B (fun K=>K==5):=Tm.Agl y al;have A:=I.bk d Bc;refine(Zt A) ?_;rintro V a3 Q;refine(O 1∘Lm (v2,V)) ?_;have W:Tm o V B (fun K=>K==280):=Tm.set A Q S;refine⟨a3,?_,(I.mono fun T E=>by simp at E;simp[KN,E]).trans (W.mono fun T E=>by simp at E;simp[KN,E])⟩;rw[t,Qv,BA,CJ];exact W.own e Bc
     .rw[Ag J]at t;refine(O 1∘Lm (vo,wr)) ?_;rw[t];exact⟨d,y,Tm.refl _ _ _⟩
    .rintro⟨f,G⟩⟨C,x,t1⟩;have bq:v/2 ^ j<=v:=Oz _ _;have af:v.testBit j=decide (v/2 ^ j%2=1):=Nat.testBit_eq_decide_div_mod_eq;refine(O 2)<|Ld (fun(o:Ad)=>(Bk o wb 280 [f,U ((Aim bs:Y):H)]/\Bp o B 5 1 f (Aim (pack (bs++[v.testBit j]))) (BI (pack (bs++[v.testBit j])))/\Tm G o B KN,[(0,.pointer (X ⟨wb,0,Aa⟩)),(1,.int .u64 (v:H)),(7,U j)],o)) ?_ ?_
     .have bm:Aim (pack (bs++[Aj]))=(Aim bs+8)/8:=by rw[pack_length,BA,CJ]
      refine(O 4∘Zv (by exact PV Z Z (by show _<=64;omega))∘Zv (by exact Nb (b:=1) (j:=1) (p:=2) (m:=18446744073709551615) Z Z Bc Bc Z J)∘O 2)<|Zi (fun D=>?_) fun D=>?_
      .have N:v.testBit j=Af:=by rw[af];exact AM D
       obtain⟨g,bl,rest,rfl,a1,hg,bb,a9,ba⟩:=x.blk (by rw[EF];omega);have a4:=yG bs;have bi:=Qu bs (Aim bs/8);have bn:128/2 ^ (Aim bs%8)<=128:=Oz _ _;have aj:=rH bs (Aim bs/8);rw[Np]at aj
       have bc:(BI (pack (bs++[Aj]))++rest)[Aim bs/8]? =X (.int .u8 ((Fs bs (Aim bs/8):Y):H)):=by
        rw[FA (by rw[EF];omega)];unfold BI;rw[DP,a4,FO];rw[WY,IP J]
       have q:=yJ bs;rw[Np]at q;have P:Aim (pack (bs++[Af]))=Aim (pack (bs++[Aj])):=by rw[q,HG]
       refine Kf 20 Be Be<|HW.val Z Z (EX.move Z)<|HW.val Z Z (DV Z)<|HW.val Z Z (Dn (off:=0) underlying280 Z Z Ru Z Z)<|HW.val Z Z (Cg underlying23 Z Z (C.drew.cell_of Z))<|HW.val Z Z (EX.move Z)<|HW.val Z Z (DV Z)<|HW.val Z Z (Dn (off:=1) underlying280 Z Z BU Z Z)<|HW.val Z Z (Cg underlying3 Z Z (C.drew.cell_of Z))<|HW.val Z Z (cI (b:=8) (m:=9223372036854775807) Z Z Z J)<|HW.val Z Z (by first|exact KQ underlying23 CD Z Z J|exact KS underlying23 CD Z Z J)<|HW.val Z Z (Cg underlying5 Z Z (hg.drew.cell_of bc))<|HW.val Z Z (EX.move Z)<|HW.val Z Z (DV Z)<|HW.val Z Z (Dn (off:=1) underlying280 Z Z BU Z Z)<|HW.val Z Z (Cg underlying3 Z Z (C.drew.cell_of Z))<|HW.val Z Z (by first|exact cJ (b:=8) Z Z J|exact cK Z Z Bc)<|HW.val Z Z (by first|exact LS (m:=18446744073709551615) underlying3 underlying180 Z Z J|exact MY (m:=18446744073709551616) underlying3 underlying180 Z Z Bc|exact EX.convZ underlying3 underlying180 Z)<|HW.val Z Z (PV (a:=128) Z Z (by show _<=8;omega))<|HW.val Z Z (Ol (m:=255) Z Z Z J)<|HW.val Z Z (by first|exact KQ underlying23 CD Z Z J|exact KS underlying23 CD Z Z J)<|HW.tail<|(Zt hg.drew (hlt:=by grind)) ?_;rintro o a2 a7;refine(O 1∘Lm o) ?_;have I:Tm G.drew o B (fun K=>K==5):=Tm.set hg.drew a7 a1;rw[rc _ _ _ aj _ J,<-q]at a2;rw[N];refine⟨I.bk C.drew Bc,?_,(Tm.Age (Bf.drew G) B KN).trans (I.mono fun T E=>by simp at E;simp[KN,E])⟩;rw[P];exact⟨by rw[EF,P,Ic],.inr ⟨g,bl,rest,Z,a1,a2,by rw[EF,P];rw[EF]at bb;omega,a9,ba⟩⟩
      .have N:v.testBit j=Aj:=by rw[af];exact AN D
       refine(O 1∘Lm G) ?_;rw[N];exact⟨C,x,Tm.refl _ _ _⟩
     .rintro o⟨A,e,I⟩;refine(O 8∘Zt A) ?_;rintro V a3 Q;refine(O 7)<|Lb (((j:H)-1),V) ?_;have W:Tm o V B (fun K=>K==280):=Tm.set A Q S;refine⟨⟨k+1,J,J,?_⟩,a6.trans (t1.trans (I.trans (W.mono fun T E=>by simp at E;simp[KN,E])))⟩;rw[ai];refine⟨f,S,?_,W.own e Bc⟩;simp_all
   .have hk:k=n:=J;subst hk;rw[DA (by rw[nb_length];simp)]at L;refine(O 5∘Bu) ?_;grind
end
namespace Bz
def Pk(l:By):Prop:=l≠[]/\l.Pairwise fun a b=>a.toNat<b.toNat
def used(s:By):By:=((BE 256).filter fun b=>decide (BS b∈s)).map BS
def toNat_ofNat{b:Y}(h:b<256):(BS b).toNat=b:=by
 simp_all
def mem_used(s:By)(b:AH):b∈used s↔b∈s:=by
 unfold used;rw[Ck];constructor
 .grind
 .intro h;refine⟨b.toNat,Le.2 ⟨CQ.2 b.toNat_lt,?_⟩,Bl⟩;simp_all
def used_may{s:By}(h:s≠[]):Pk (used s):=by
 refine⟨fun e=>?_,?_⟩
 .obtain⟨b,a⟩:=List.exists_mem_of_ne_nil s h;have:=(mem_used s b).2 a;grind
 .unfold used;refine Mc.2 ?_;refine GS.imp_of_mem ?_ (GS.filter _ WG);simp;omega
def Afc(s:By):Aim (used s)<=256:=by
 unfold used;grind
def Ey{α:Type}[Inhabited α](l:Ae α)(k:Y):Ae α:=l.getD k default::l.eraseIdx k
def Pm{α:Type}[Inhabited α]{l:Ae α}{k:Y}(h:k<Aim l):Aim (Ey l k)=Aim l:=by
 unfold Ey;grind
def SH{α:Type}[Inhabited α]{l:Ae α}{k:Y}(h:k<Aim l)(a:α):a∈Ey l k↔a∈l:=by
 unfold Ey;rw[List.mem_cons,List.mem_eraseIdx_iff_getElem];constructor
 .grind
 .intro q;obtain⟨i,d,rfl⟩:=Hm.1 q;grind
def front:By->By->Av (Bi)
 |_,[]=>X []
 |l,b::s=>if b∈l then(front (Ey l (l.idxOf b)) s).map (l.idxOf b::·)else Aa
def GC:By->Bi->Av By
 |_,[]=>X []
 |l,k::ps=>if k<Aim l then(GC (Ey l k) ps).map (l.getD k 0::·)else Aa
def gV:∀(s l:By),(∀b∈s,b∈l)->∃ps,front l s=X ps/\Aim ps=Aim s/\GC l ps=X s/\∀p∈ps,p<Aim l
 |[],l,_=>⟨[],Z,Z,Z,Bl⟩
 |b::s,l,h=>by
  have hb:=h b Bl;have hlt:=Qf hb;obtain⟨ps,e1,e2,e3,e4⟩:=gV s (Ey l (l.idxOf b)) (fun c hc=>(SH hlt c).2 (h c Bh));refine⟨l.idxOf b::ps,?_,Bh,?_,?_⟩
  .rw[front,Ai hb,e1];rfl
  .rw[GC,Ai hlt,e3];grind
  .intro p hp;rcases List.mem_cons.1 hp with rfl|hp
   .omega
   .have:=e4 p hp;rwa[Pm hlt]at this
def dJ:∀(ps:Bi) (l s:By),GC l ps=X s->Aim s=Aim ps
 |[],l,s,h=>by simp[GC]at h;grind
 |k::ps,l,s,h=>by
  rw[GC]at h;split at h
  .rw[Nq]at h;obtain⟨t,h1,rfl⟩:=h;simp[dJ ps _ _ h1]
  .grind
def DM(k:Y):Bi:=if h:0<k then(k-1)%2::DM ((k-1)/2)else[]
termination_by k
decreasing_by omega
def OS:DM 0=[]:=by rw[DM];rfl
def UB{k:Y}(h:0<k):DM k=(k-1)%2::DM ((k-1)/2):=by rw[DM,AQ h]
def XR:∀n k,k<=n->Aim (DM k)<=k
 |0,k,h=>by
  obtain rfl:k=0:=J;rw[OS];simp
 |n+1,k,h=>by
  rcases Jy k with z|z
  .subst z;rw[OS];simp
  .rw[UB z,Cv];have:=XR n ((k-1)/2) J;omega
def Fp(n:Y):Y->Bi->Bi
 |r,[]=>DM r++[n+1]
 |r,0::l=>Fp n (r+1) l
 |r,(x+1)::l=>DM r++(x+2)::Fp n 0 l
def Fo(n most:Y):Bi->Y->Y->Bi->Av (Bi)
 |_,_,_,[]=>Aa
 |out,run,w,s::l=>
  if n+1<s then Aa
  else if s<2 then(if most<w∨most<Aim out+run+(s+1)*w then Aa else Fo n most out (run+(s+1)*w) (w*2) l)
  else if s=n+1 then(if l=[]then X (out++BG run 0)else Aa)
  else if Aim (out++BG run 0)=most then Aa
  else Fo n most (out++BG run 0++[s-1]) 0 1 l
def bK(n most:Y)(f:1<=n)(out rest:Bi):∀k,∀j,j<=k->∀run w,1<=w->Aim out+run+j*w<=most->∃w',1<=w'/\Fo n most out run w (DM j++rest)=Fo n most out (run+j*w) w' rest
 |0,j,hj,run,w,hw,_=>by
  obtain rfl:j=0:=J;exact⟨w,hw,by rw[OS,Nat.zero_mul];rfl⟩
 |k+1,j,hj,run,w,hw,hm=>by
  rcases Jy j with z|z
  .subst z;exact⟨w,hw,by rw[OS,Nat.zero_mul];rfl⟩
  .have hd:(j-1)%2<2:=Kk _ Bl;have hj2:j=((j-1)%2+1)+2*((j-1)/2):=J;generalize hde:(j-1)%2=d at hd hj2;generalize hqe:(j-1)/2=q at hj2
   have e:j*w=(d+1)*w+q*(w*2):=by
    rw[hj2,RV,OD 2 q,WR,OD 2 w]
   have a:w<=(d+1)*w:=Nat.le_mul_of_pos_left _ J;rw[UB z,hde,hqe,FM,Fo,Ag J,Ai hd,Ag J];obtain⟨w',g,h⟩:=bK n most f out rest k q J (run+(d+1)*w) (w*2) J J;exact⟨w',g,Bh⟩
def bL(n most:Y)(hn:1<=n):∀(l out:Bi) (r:Y),(∀p∈l,p<n)->Aim out+r+Aim l<=most->Fo n most out 0 1 (Fp n r l)=X (out++BG r 0++l)
 |[],out,r,_,hm=>by
  obtain⟨w',_,h⟩:=bK n most hn out [n+1] r r (Bq _) 0 1 (Bq _) J;rw[Fp,h,Fo,Ag J,Ag J,Ai Z,Ai Z,Ic,FW,List.append_nil]
 |0::l,out,r,hl,hm=>by
  rw[Fp,bL n most hn l out (r+1) (fun p hp=>hl p (by simp[hp])) Bh,Ow,<-Cq,Cq];rfl
 |(x+1)::l,out,r,hl,hm=>by
  have hx:=hl (x+1) Bl;simp only[Cv]at hm;obtain⟨w',_,h⟩:=bK n most hn out ((x+2)::Fp n 0 l) r r (Bq _) 0 1 (Bq _) J;rw[Fp,h,Fo,Ag J,Ag J,Ag J,Ag Bh,bL n most hn l _ 0 (fun p hp=>hl p (by simp[hp])) Bh];simp
def Afx{n most:Y}(a:1<=n){l:Bi}(hl:∀p∈l,p<n)(hm:Aim l<=most):Fo n most [] 0 1 (Fp n 0 l)=X l:=by
 rw[bL n most a l [] 0 hl Bh];simp
def VX(n:Y)(d:1<=n):∀(l:Bi) (r:Y),(∀p∈l,p<n)->∃k,Fp n r l=k++[n+1]/\(∀x∈k,x<=n)/\Aim k<=r+Aim l
 |[],r,_=>by
  refine⟨DM r,Z,fun x hx=>?_,by simpa using XR r r (Bq _)⟩
  have:∀m k,k<=m->∀x∈DM k,x<=1:=fun m=>by
   induction m with
   |zero=>
    intro k i x hx;obtain rfl:k=0:=J;rw[OS]at hx;cases hx
   |succ m ih=>
    intro k i x hx;rcases Jy k with z|z
    .grind
    .rw[UB z]at hx;grind
  have:=this r r (Bq _) x hx;omega
 |0::l,r,hl=>by
  obtain⟨k,h,g,o⟩:=VX n d l (r+1) (fun p a=>hl p (by simp[a]));exact⟨k,Cr,g,Bh⟩
 |(x+1)::l,r,hl=>by
  obtain⟨k,h,g,o⟩:=VX n d l 0 (fun p a=>hl p (by simp[a]));obtain⟨e,f,v,t⟩:=VX n d [] r Bl;have hx:=hl (x+1) Bl
  have j:DM r=e:=by
   rw[Fp]at f;exact List.append_inj_left' f Z
  refine⟨e++(x+2)::k,by rw[Fp,h,j];simp,fun y q=>?_,Bh⟩;grind
end Bz
namespace Bz
abbrev Tr:=Y×Y
def Gt(a b:Tr):Aw:=decide (a.1<b.1)||(decide (a.1=b.1) && decide (a.2<b.2))
def ES:Ae Tr->Tr
 |[]=>(0,0)
 |a::l=>l.foldl (fun m x=>if Gt x m then x else m) a
def fillL{α:Type}[Inhabited α](l:Ae α)(k:Y):Ae α:=(l.set k (l.getLastD default)).dropLast
def Yb{α:Type}:∀(l:Ae α) (k:Y) (h:k<Aim l),l.Perm (l[k]::l.eraseIdx k)
 |a::l,0,_=>Bl
 |a::l,k+1,h=>by
  have ih:=Yb l k Bh;rw[List.eraseIdx_cons_succ,List.getElem_cons_succ];exact(ih.cons a).trans (Nf.swap _ _ _)
def ud{α:Type}[Inhabited α](l:Ae α)(k:Y)(h:k<Aim l):l.Perm (l[k]::fillL l k):=by
 rcases TJ l with e|⟨a,x,e⟩
 .grind
 .rw[TG]at e;subst e;have f:(a++[x]).getLastD default=x:=Bl;unfold fillL;rw[f];rw[BA,CJ]at h;rcases Db k (Aim a)with q|q
  .rw[TU _ _ q,List.dropLast_concat,Wz q]
   have i:=by
    exact Yb a k q
   have g:=by
    have d:k<Aim (a.set k x):=by rwa[HG]
    have:=Yb _ k d;rwa[List.getElem_set_self,List.eraseIdx_set_eq]at this
   refine(List.perm_append_singleton x a).trans ?_;refine(i.cons x).trans ?_;refine(Nf.swap _ _ _).trans ?_;exact(g.symm).cons _
  .obtain rfl:k=Aim a:=J;simp
def fillL_length{α:Type}[Inhabited α](l:Ae α)(k:Y):Aim (fillL l k)=Aim l-1:=by
 unfold fillL;simp
def Zk:∀(l:Ae Tr),l≠[]->ES l∈l/\∀x∈l,Gt x (ES l)=Aj
 |[],h=>absurd Z h
 |a::l,_=>by
  have key:∀(l:Ae Tr) (m:Tr),(l.foldl (fun m x=>if Gt x m then x else m) m=m∨l.foldl (fun m x=>if Gt x m then x else m) m∈l)/\Gt m (l.foldl (fun m x=>if Gt x m then x else m) m)=Aj/\∀x∈l,Gt x (l.foldl (fun m x=>if Gt x m then x else m) m)=Aj:=fun l=>by
   induction l with
   |nil=>intro m;exact⟨Bl,by simp[Gt],Bl⟩
   |cons y l ih=>
    intro m;rw[LZ]
    have g:∀{p q r:Tr},Gt q p=Af∨q=p->Gt q r=Aj->Gt p r=Aj:=fun {p q r} f o=>by
     rcases f with f|rfl
     .simp only[Gt,PP,Bool.and_eq_true,decide_eq_true_eq,Bool.or_eq_false_iff,Rz,decide_eq_false_iff_not]at f o ⊢;omega
     .omega
    split
    .grind
    .rename_i h;obtain⟨C,k,B⟩:=ih m;refine⟨?_,k,fun x d=>?_⟩
     .grind
     .rcases List.mem_cons.1 d with rfl|d
      .have n:Gt m x=Af∨m=x:=by
        simp[Gt,Bool.and_eq_true]at h ⊢;obtain⟨A,w⟩:=m;obtain⟨v,t⟩:=x;simp at h ⊢;omega
       grind
      .grind
  obtain⟨e,j,i⟩:=key l a;refine⟨?_,fun x d=>?_⟩
  .rcases e with e|e
   .show l.foldl _ a∈_;grind
   .exact El _ e
  .rcases List.mem_cons.1 d with rfl|d
   .exact j
   .exact i x d
def Dl(l:Ae Tr):Tr×Ae Tr:=(ES l,fillL l (l.idxOf (ES l)))
def ZW{l:Ae Tr}(h:l≠[]):l.Perm ((Dl l).1::(Dl l).2)/\∀x∈l,(Dl l).1.1<=x.1:=by
 obtain⟨f,e⟩:=Zk l h;have d:=Qf f;refine⟨?_,fun x a=>?_⟩
 .have:=ud l _ d;rwa[TN]at this
 .have:=e x a;simp only[Gt,Bool.or_eq_false_iff,Rz,decide_eq_false_iff_not]at this;show(ES l).1<=x.1;omega
def grow:Y->Ae Tr->Bi->Y->Bi
 |0,_,over,_=>over
 |f+1,trees,over,next=>
  if Aim trees<=1 then over
  else grow f ((Dl (Dl trees).2).2++[((Dl trees).1.1+(Dl (Dl trees).2).1.1,next)]) ((over.set (Dl trees).1.2 next).set (Dl (Dl trees).2).1.2 next) (next+1)
def Fu(over:Bi):Y->Y->Y
 |0,_=>0
 |f+1,x=>if over.getD x 0=0 then 0 else Fu over f (over.getD x 0)+1
def grown(w:Bi):Bi:=
 let over:=grow (Aim w) (w.zipIdx) (BG (2*Aim w) 0) (Aim w)
 (BE (Aim w)).map (Fu over (2*Aim w))
def CU(l:Bi):Y:=l.foldr (·+·) 0
def Ga(a:Y)(l:Bi):CU (a::l)=a+CU l:=rfl
def Tj(a b:Bi):CU (a++b)=CU a+CU b:=by
 induction a with
 |nil=>simp[CU]
 |cons x a ih=>rw[FM,Ga,Ga,ih,No]
def VG{a b:Bi}(h:a.Perm b):CU a=CU b:=by
 induction h with
 |nil=>rfl
 |cons x _ ih=>rw[Ga,Ga,ih]
 |swap x y l=>simp[Ga];omega
 |trans _ _ h1 h2=>omega
def VF{l:Bi}{m:Y}(h:∀x∈l,x<=m):CU l<=Aim l*m:=by
 induction l with
 |nil=>simp[CU]
 |cons x l ih=>
  have e:=h x Bl;have d:=ih (fun y a=>h y Bh);rw[Ga,Cv,Ql];omega
def nB{l:Bi}{x:Y}(h:x∈l):x<=CU l:=by
 induction l with
 |nil=>grind
 |cons y l ih=>
  rw[Ga];grind
def Fg:Y->Y
 |0=>0
 |1=>1
 |n+2=>Fg n+Fg (n+1)
def ua:∀n,Fg n<=Fg (n+1)
 |0=>by decide
 |1=>by decide
 |n+2=>by
  have e2:Fg (n+2+1)=Fg _+Fg (n+2):=rfl;omega
def tZ{a b:Y}(h:a<=b):Fg a<=Fg b:=by
 induction h with
 |refl=>simp
 |step _ ih=>exact BF ih (ua _)
structure Gw(n:Y)(trees:Ae Tr)(over:Bi)(next:Y)(ht:Y->Y)(M W:Y):Prop where
 len:Aim over=2*n
 sum:next+Aim trees=2*n
 low:n<=next
 lt:∀t∈trees,t.2<next
 nod:(trees.map (·.2)).Nodup
 zero:∀t∈trees,over.getD t.2 0=0
 up:∀y,next<=y->over.getD y 0=0
 dn:∀y,over.getD y 0≠0->y<over.getD y 0/\over.getD y 0<next
 fib2:∀t∈trees,Fg (ht t.2+2)<=t.1/\Fg (ht t.2+1)<=M/\M<=t.1
 tot:CU (trees.map (·.1))=W
def gZ{l:Bi}{i j v:Y}(h:i<Aim l):(l.set i v).getD j 0=if i=j then v else l.getD j 0:=by
 grind
def Gw.step{n:Y}{d:Ae Tr}{f:Bi}{next:Y}{ht:Y->Y}{M W:Y}(h:Gw n d f next ht M W)(h2:2<=Aim d){a b:Tr}{l1 l2:Ae Tr}(ea:Dl d=(a,l1))(eb:Dl l1=(b,l2)):
 d.Perm (a::b::l2)/\a.2≠b.2/\a.2<next/\b.2<next/\next<2*n/\
 Gw n (l2++[(a.1+b.1,next)]) ((f.set a.2 next).set b.2 next) (next+1) (fun x=>if x=next then 1+max (ht a.2) (ht b.2)else ht x) b.1 W:=by
 have p:d≠[]:=Bh;obtain⟨B,C⟩:=ZW p;rw[ea]at B C;have V:Aim l1+1=Aim d:=B.length_eq▸Z;have k:l1≠[]:=Bh;obtain⟨p2,m2⟩:=ZW k;have m:d.Perm (a::b::l2):=Bh;have G:a∈d:=Bh;have o:b∈d:=Bh;have i:∀x∈l2,x∈d:=Bh;have ab:a.1<=b.1:=C b o;have v:∀x∈l2,b.1<=x.1:=Bh;have l:((a::b::l2).map (·.2)).Nodup:=(m.map (·.2)).nodup_iff.1 h.nod;simp only[Cp,Qg,List.mem_cons,not_or]at l;obtain⟨⟨K,n2⟩,n3,I⟩:=l;have N:=h.lt a G;have L:=h.lt b o;have T:Aim d=Aim l2+2:=m.length_eq▸Z;have hs:=h.sum;have E:=h.len;have D:=h.low
 have go:∀y,((f.set a.2 next).set b.2 next).getD y 0=if b.2=y then next else if a.2=y then next else f.getD y 0:=fun y=>by
  grind
 have r:∀x∈l2,x.2≠a.2/\x.2≠b.2:=Bh;refine⟨m,K,N,L,J,?_⟩;refine⟨Bh,Bh,J,?_,?_,?_,?_,?_,?_,?_⟩
 .intro t g;rcases Dz.1 g with q|q
  .have:=h.lt t (i t q);omega
  .grind
 .rw[DX,Ma,WE];refine⟨I,Bl,fun x S y j=>?_⟩;obtain⟨z,Q,rfl⟩:=Ck.1 S;rw[CG.1 j];have:=h.lt z (i z Q);omega
 .intro t g;rw[go];rcases Dz.1 g with q|q
  .have:=r t q;rw[Ag (fun e=>this.2 e.symm),Ag (fun e=>this.1 e.symm)];exact h.zero t (i t q)
  .rw[CG.1 q];show(if b.2=next then next else if a.2=next then next else f.getD next 0)=0;rw[Ag J,Ag J];exact h.up next (Bq _)
 .intro y j;rw[go,Ag J,Ag J];exact h.up y J
 .intro y j;rw[go]at j ⊢;split
  .omega
  .split
   .omega
   .rename_i A w;rw[Ag A,Ag w]at j;have:=h.dn y j;omega
 .intro t g;rcases Dz.1 g with q|q
  .have l3:=h.lt t (i t q);have A:=h.fib2 t (i t q);have w:=v t q;have q3:=(h.fib2 b o).2.2;grind
  .rw[CG.1 q];simp only[if_true];obtain⟨a1,a2,a3⟩:=h.fib2 a G;obtain⟨b1,b2,b3⟩:=h.fib2 b o
   have P:∀x y:Y,Fg (x+2)<=a.1->Fg (x+1)<=M->Fg (y+2)<=b.1->Fg (y+1)<=M->Fg (1+max x y+2)<=a.1+b.1/\Fg (1+max x y+1)<=b.1:=fun x y c1 c2 c3 c4=>by
    rcases TX x y with q|q
    .rw[Nat.max_eq_right q,show 1+y+2=(y+1)+2 by omega,show 1+y+1=y+2 by omega];refine⟨?_,c3⟩;show Fg (y+1)+Fg (y+2)<=_;omega
    .rw[Nat.max_eq_left q,show 1+x+2=(x+1)+2 by omega,show 1+x+1=x+2 by omega];refine⟨?_,J⟩;show Fg (x+1)+Fg (x+2)<=_;omega
   grind
 .have e:=VG (m.map (·.1));rw[h.tot]at e;rw[DX,Ma,Tj,e];simp only[Cp,Ga,CU,List.foldr];omega
structure Dp(over:Bi)(d:Y->Y):Prop where
 zero:∀x,over.getD x 0=0->d x=0
 succ:∀x,over.getD x 0≠0->d x=d (over.getD x 0)+1
def jg:∀(f n:Y) (trees:Ae Tr) (over:Bi) (next:Y) (ht:Y->Y) (M W:Y),Gw n trees over next ht M W->Aim trees<=f+1->1<=Aim trees->
 Aim (grow f trees over next)=2*n/\(∀y,over.getD y 0≠0->(grow f trees over next).getD y 0=over.getD y 0)/\(∀y,(grow f trees over next).getD y 0≠0->y<(grow f trees over next).getD y 0/\(grow f trees over next).getD y 0<2*n)/\
 ∀d,Dp (grow f trees over next) d->∃hr,Fg (hr+2)<=W/\(∀t∈trees,d t.2+ht t.2<=hr)/\∀D,hr<=D->CU (trees.map fun t=>2 ^ (D-d t.2))=2 ^ D:=by
 intro f
 induction f with
 |zero=>
  intro n trees over next ht M W h S h1;have base:Aim trees=1:=J
  match trees,base with
  |[t],_=>
   have I:=h.sum;refine⟨h.len,fun y _=>rfl,fun y i=>?_,fun d g=>?_⟩
   .have:=h.dn y i;exact⟨this.1,by show over.getD y 0<2*n;omega⟩
   .have m:=g.zero _ (h.zero t Bl);have o:=h.tot;simp only[Cp,EO,CU,List.foldr]at o;refine⟨ht t.2,by have:=(h.fib2 t Bl).1;omega,fun x p=>?_,fun D _=>?_⟩
    .rw[CG.1 p,m];omega
    .simp[CU,m]
 |succ f ih=>
  intro n trees over next ht M W h S h1;unfold grow;split
  .rename_i N;have base:Aim trees=1:=J
   match trees,base with
   |[t],_=>
    have I:=h.sum;refine⟨h.len,fun y _=>rfl,fun y i=>?_,fun d g=>?_⟩
    .have:=h.dn y i;omega
    .have m:=g.zero _ (h.zero t Bl);have o:=h.tot;simp[CU]at o;refine⟨ht t.2,by have:=(h.fib2 t Bl).1;omega,fun x p=>?_,fun D _=>?_⟩
     .rw[CG.1 p,m];omega
     .simp[CU,m]
  .rename_i P;obtain⟨a,l1,ea⟩:∃a l1,Dl trees=(a,l1):=⟨_,_,Z⟩;obtain⟨b,l2,eb⟩:∃b l2,Dl l1=(b,l2):=⟨_,_,Z⟩;obtain⟨k,l,la,lb,L,Q⟩:=h.step J ea eb;simp only[ea,eb];have hl:Aim trees=Aim l2+2:=k.length_eq▸Z;obtain⟨g1,r,g3,g4⟩:=ih n _ _ _ _ _ _ Q (by rw[BA,CJ];omega) (by rw[BA,CJ];omega);have A:=h.len
   have go:∀y,((over.set a.2 _).set b.2 _).getD y 0=if b.2=y then next else if a.2=y then next else over.getD y 0:=fun y=>by
    rw[gZ (by simp;omega),gZ J]
   have K:next≠0:=J;have V:a∈trees:=k.symm.subset Bl;have T:b∈trees:=k.symm.subset Bl;refine⟨g1,fun y i=>?_,g3,fun d g=>?_⟩
   .have e:((over.set a.2 next).set b.2 next).getD y 0=over.getD y 0:=by
     rw[go,Ag (fun e=>by subst e;exact i (h.zero b T)),Ag (fun e=>by subst e;exact i (h.zero a V))]
    rw[r y J,e]
   .obtain⟨hr,f1,B,f3⟩:=g4 d g;have w:=r a.2 (by rwa[go,Ag (fun e=>l e.symm),Ai Z]);have v:=r b.2 (by rwa[go,Ai Z]);rw[go,Ag (fun e=>l e.symm),Ai Z]at w;rw[go,Ai Z]at v;have E:=g.succ a.2 J;have C:=g.succ b.2 J;rw[w]at E;rw[v]at C;have fn:=B (a.1+b.1,next) Bl;simp only[if_true]at fn;refine⟨hr,f1,fun t j=>?_,fun D hD=>?_⟩
    .rcases List.mem_cons.1 (k.subset j)with rfl|q
     .omega
     .rcases List.mem_cons.1 q with rfl|q
      .omega
      .have l3:=h.lt t j;have:=B t (Dz.2 (.inl q));rwa[Ag J]at this
    .have e:=f3 D hD;rw[DX,Ma,Tj]at e;rw[VG (k.map _)];simp only[Cp,Ga,E,C]
     have G:2 ^ (D-d next)=2 ^ (D-(d next+1))+2 ^ (D-(d next+1)):=by
      rw[show D-d next=(D-(d next+1))+1 by omega,IQ];omega
     have e1:CU [2 ^ (D-d next)]=2 ^ (D-d next):=by simp[CU]
     rw[e1,G]at e;omega
def Qz(over:Bi)(f x:Y):Fu over (f+1) x=if over.getD x 0=0 then 0 else Fu over f (over.getD x 0)+1:=rfl
def fR{over:Bi}{n:Y}(h:∀y,over.getD y 0≠0->y<over.getD y 0/\over.getD y 0<n):∀f x,n<=f+x->Fu over f x=Fu over (f+1) x
 |0,x,hx=>by
  rw[Qz];split
  .rfl
  .grind
 |f+1,x,hx=>by
  rw[Qz,Qz];split
  .rfl
  .rename_i z;have:=h x z;rw[fR h f _ J]
def xp{w:Bi}{t:Tr}(h:t∈w.zipIdx):t.2<Aim w/\w.getD t.2 0=t.1:=by
 grind
def ny{w:Bi}(h1:∀x∈w,1<=x)(h2:1<=Aim w):Gw (Aim w) w.zipIdx (BG (2*Aim w) 0) (Aim w) (fun _=>0) 1 (CU w):=by
 have z:∀y,(BG (2*Aim w) 0).getD y 0=0:=Bh;refine⟨Bl,by simp;omega,J,Bh,?_,fun t _=>z _,fun y _=>z y,Bh,fun t a=>?_,?_⟩
 .have e:w.zipIdx.map (·.2)=GX 0 (Aim w):=Bl;grind
 .have:=xp a
  have d:t.1∈w:=by
   rw[<-this.2,BX,BN J];simp
  have:=h1 _ d;exact⟨this,Bq _,this⟩
 .simp
structure Lens(l:Bi)(n:Y):Prop where
 len:Aim l=n
 pos:∀x∈l,1<=x
 kraft:(∀x∈l,x<=20)->CU (l.map fun x=>2 ^ (20-x))=2 ^ 20
def YJ{w:Bi}(h1:∀x∈w,1<=x)(h2:2<=Aim w):Lens (grown w) (Aim w)/\∃hr,Fg (hr+2)<=CU w/\∀x∈grown w,x<=hr:=by
 have g:=ny h1 J;obtain⟨I,G,v,r⟩:=jg (Aim w) (Aim w) _ _ _ _ _ _ g (by rw[TO];omega) (by rw[TO];omega);obtain⟨k8,hO⟩:∃k8,k8=grow (Aim w) w.zipIdx (BG (2*Aim w) 0) (Aim w):=Bl;rw[<-hO]at I G v r;have p:grown w=(BE (Aim w)).map (Fu k8 (2*Aim w)):=hO▸Z
 have E:Dp k8 (Fu k8 (2*Aim w)):=by
  obtain⟨f,hf⟩:∃f,2*Aim w=f+1:=⟨2*Aim w-1,J⟩;have d:=fR v;refine⟨fun x a=>?_,fun x a=>?_⟩
  .rw[hf,Qz,Ai a]
  .have e:=d (2*Aim w) x J;rw[e,Qz,Ag a]
 obtain⟨hr,L,K,y⟩:=r _ E
 have N:∀D,(w.zipIdx.map fun t=>2 ^ (D-Fu k8 _ _))=(grown w).map fun x=>2 ^ (D-x):=fun D=>by
  rw[p,EE]
  have e:w.zipIdx.map (·.2)=BE (Aim w):=by
   rw[Qh];simp
  rw[<-e,EE];rfl
 have k:∀x∈grown w,x<=hr:=fun x a=>by
  rw[p]at a;obtain⟨i,n,rfl⟩:=Ck.1 a;have m:=CQ.1 n;have:=K (w[i],i) Bh;omega
 refine⟨⟨Bh,fun x a=>?_,fun o=>?_⟩,_,L,k⟩
 .rw[p]at a;obtain⟨i,n,rfl⟩:=Ck.1 a;have m:=CQ.1 n;rcases Jy (Fu k8 (2*Aim w) i)with z|z
  .exfalso;have e:=y hr (Bq _);have C:(w[i],i)∈w.zipIdx:=Bh
   obtain⟨j,Q,A⟩:∃j,j<Aim w/\j≠i:=by
    rcases Jy i with q|q
    .exact⟨1,J,J⟩
    .exact⟨0,J,J⟩
   have h:=List.perm_cons_erase C;have B:(w[j],j)∈w.zipIdx.erase (w[i],i):=Bh;rw[VG (h.map _),Cp,Ga]at e;change 2 ^ (hr-Fu k8 _ i)+_=2 ^ hr at e;rw[z,Nat.sub_zero]at e;have S:=nB (Ck.2 Bh:2 ^ (hr-Fu k8 (2*Aim w) j)∈(w.zipIdx.erase (w[i],i)).map fun t=>2 ^ (hr-Fu k8 (2*Aim w) t.2));grind
  .omega
 .have e:=y (hr+20) J;rw[N]at e
  have P:∀l:Ae _,(∀x∈l,x<=20)->CU (l.map fun x=>2 ^ (hr+20-x))=2 ^ hr*CU (l.map fun x=>2 ^ (20-x)):=fun l=>by
   induction l with
   |nil=>intro _;rfl
   |cons x l ih=>
    intro a;have q:=a x Bl;rw[Cp,Cp,Ga,Ga,ih Bh,Nat.mul_add,show hr+20-x=hr+(20-x) by omega,Ua]
  rw[P _ o,Ua]at e;exact Nat.eq_of_mul_eq_mul_left Bh e
def LB:Y->Bi->Bi
 |0,w=>grown w
 |f+1,w=>if(grown w).all (fun x=>decide (x<=17))then grown w else LB f (w.map fun x=>x/2+1)
def Zl:∀(f:Y) (w:Bi),(∀x∈w,1<=x/\x<=2 ^ f+1)->2<=Aim w->Aim w<=258->Lens (LB f w) (Aim w)/\∀x∈LB f w,x<=17
 |0,w,h,h2,h3=>by
  obtain⟨h4,hr,h5,h6⟩:=YJ Bh h2;refine⟨h4,fun x hx=>?_⟩;have h7:=h6 x hx;have h8:=VF (l:=w) (m:=2) Bh;rcases Db hr 18 with q|q
  .omega
  .have:=tZ (show 20<=hr+2 by omega);have e:Fg 20=6765:=by decide
   omega
 |f+1,w,h,h2,h3=>by
  unfold LB;split
  .rename_i q;refine⟨(YJ Bh h2).1,fun x hx=>?_⟩;grind
  .have:=Zl f (w.map fun x=>x/2+1) Bh Bh Bh;grind
end Bz
namespace Bz
def CA(l:Bi)(n:Y):Y:=l.count n
def fst(l:Bi):Y->Y
 |0=>0
 |n+1=>2*(fst l n+CA l n)
def FQ(l:Bi):Y->Y
 |0=>0
 |n+1=>FQ l n+CA l n
def Mx(l:Bi)(n:Y):Bi:=(BE (Aim l)).filter fun i=>decide (l.getD i 0=n)
def longest(l:Bi):Y:=l.foldl max 0
def Dr(l:Bi)(m:Y):Bi:=(BE m).flatMap fun n=>Mx l (n+1)
def MI(l:Bi)(i:Y):Y:=(l.take i).count (l.getD i 0)
def JG(l:Bi)(i:Y):Y:=fst l (l.getD i 0)+MI l i
def gS(l:Bi):∀m,m<=l.foldl max m/\(∀x∈l,x<=l.foldl max m)/\(l.foldl max m=m∨l.foldl max m∈l):=by
 induction l with
 |nil=>simp
 |cons y l ih=>
  intro m;obtain⟨f,e,d⟩:=ih (max m y);rw[LZ];refine⟨J,fun x a=>?_,?_⟩
  .rcases List.mem_cons.1 a with rfl|a
   .omega
   .grind
  .grind
def UT{l:Bi}{x:Y}(h:x∈l):x<=longest l:=(gS l 0).2.1 x h
def vS{l:Bi}{m:Y}(h:∀x∈l,x<=m):longest l<=m:=by
 rcases(gS l 0).2.2 with q|q
 .unfold longest;omega
 .exact h _ q
def UP(l:Bi)(n:Y):Aim (Mx l n)=CA l n:=by
 unfold Mx CA
 induction l using aG with
 |h0=>rfl
 |h1 l a ih=>
  rw[BA,CJ,FV,KY,BA,List.count_append,List.count_singleton]
  have e:(BE (Aim l)).filter (fun i=>decide ((l++[a]).getD i 0=n))=(BE (Aim l)).filter fun i=>decide (l.getD i 0=n):=by
   apply List.filter_congr;intro i d;have:=CQ.1 d;rw[BX,BX,FA this]
  grind
def ZI(l:Bi):∀m,Aim (Dr l m)+CA l 0=FQ l (m+1)
 |0=>by rfl
 |m+1=>by
  have ih:=ZI l m;unfold Dr at ih ⊢;rw[FV,Ia,List.flatMap_singleton,BA,UP];show _=FQ l (m+1)+CA l (m+1);omega
def jp{l:Bi}{i:Y}(h:i<Aim l):(Mx l (l.getD i 0))[MI l i]? =X i:=by
 have e:Mx l (l.getD i 0)=((BE i).filter fun j=>decide (l.getD j 0=l.getD i 0))++i::((GX (i+1) (Aim l-(i+1))).filter fun j=>decide (l.getD j 0=l.getD i 0)):=by
  unfold Mx
  have d:BE (Aim l)=BE i++i::GX (i+1) (Aim l-(i+1)):=by
   rw[Qh,Qh,show Aim l=i+((Aim l-(i+1))+1) by omega,<-List.range'_append_1,FW,WI];congr 3;omega
  rw[d,KY,LY,Ai Bl]
 have f:Aim ((BE i).filter fun j=>decide (l.getD j 0=l.getD i 0))=MI l i:=by
  have:=UP (l.take i) (l.getD i 0);unfold Mx at this;rw[BY,Hq J]at this;unfold MI;rw[<-show CA (l.take i) (l.getD i 0)=(l.take i).count (l.getD i 0)from Z,<-this];congr 1;apply List.filter_congr;intro j a;have:=CQ.1 a;rw[BX (l:=l.take i),List.getElem?_take,Ai this,<-BX]
 grind
def ZZ{l:Bi}{i:Y}(h:i<Aim l):MI l i<CA l (l.getD i 0):=by
 have:=(HF.1 (jp h)).1;rwa[UP]at this
def ZH{l:Bi}(h0:CA l 0=0){i m:Y}(h:i<Aim l)(h1:1<=l.getD i 0)(h2:l.getD i 0<=m):(Dr l m)[FQ l (l.getD i 0)+MI l i]? =X i:=by
 obtain⟨n,hn⟩:∃n,l.getD i 0=n+1:=⟨l.getD i 0-1,J⟩;have d:=jp h;have a:=ZZ h;rw[hn]at d h2 a ⊢
 have e:Dr l m=Dr l n++(Mx l (n+1)++(GX (n+1) (m-(n+1))).flatMap fun n=>Mx l (n+1)):=by
  unfold Dr
  have f:BE m=BE n++n::GX (n+1) (m-(n+1)):=by
   rw[Qh,Qh,show m=n+((m-(n+1))+1) by omega,<-List.range'_append_1,FW,WI];congr 3;omega
  rw[f,Ia,EY]
 have g:=ZI l n;rw[e,Hl J,FA Bh];grind
def sA(l:Bi)(n:Y):∀m,n<=20->m=n->(∀x∈l,1<=x)->(fst l n+CA l n)*2 ^ (20-n)=CU ((l.filter fun x=>decide (x<=n)).map fun x=>2 ^ (20-x)):=by
 induction n with
 |zero=>
  intro m _ _ h;have e:l.filter (fun x=>decide (x<=0))=[]:=List.filter_eq_nil_iff.2 fun x f=>by grind
  have d:CA l 0=0:=List.count_eq_zero.2 fun q=>by grind
  rw[e,d];simp[fst,CU]
 |succ n a=>
  intro m g _ h;have a:=a n J Z h
  have split:∀k:Bi,CU ((k.filter fun x=>decide (x<=n+1)).map fun x=>2 ^ (20-x))=CU ((k.filter fun x=>decide (x<=n)).map fun x=>2 ^ (20-x))+k.count (n+1)*2 ^ (20-(n+1)):=fun k=>by
   induction k with
   |nil=>simp
   |cons x k ih2=>
    rw[LY,LY,List.count_cons];rcases TZ x (n+1)with q|q|q
    .rw[Ai Bx,Ai Bx,Ag Bx,Cp,Cp,Ga,Ga,ih2];grind
    .subst q;rw[Ai Bl,Ag Bl,Ai Bl,Cp,Ga,ih2,Ql];omega
    .grind
  rw[split,<-a];have e:2 ^ (20-n)=2*2 ^ (20-(n+1)):=by rw[show 20-n=(20-(n+1))+1 by omega,IQ];omega
  rw[e];show(2*(fst l n+CA l n)+CA l (n+1))*2 ^ (20-(n+1))=_;unfold CA;grind
structure LOk(l:Bi):Prop where
 pos:∀x∈l,1<=x/\x<=20
 kraft:CU (l.map fun x=>2 ^ (20-x))<=2 ^ 20
def LOk.Agu{l:Bi}(h:LOk l):CA l 0=0:=List.count_eq_zero.2 fun q=>by have:=(h.pos 0 q).1;omega
def LOk.top{l:Bi}(h:LOk l){n:Y}(d:n<=20):fst l n+CA l n<=2 ^ n:=by
 have m:=sA l n n d Z fun x a=>(h.pos x a).1
 have g:∀k:Bi,CU ((k.filter fun x=>decide (x<=n)).map fun x=>2 ^ (20-x))<=CU (k.map fun x=>2 ^ (20-x)):=fun k=>by
  induction k with
  |nil=>simp
  |cons x k ih=>
   rw[LY];split
   .rw[Cp,Cp,Ga,Ga];omega
   .rw[Cp,Ga];grind
 have j:=g l;have i:=h.kraft;have e:2 ^ 20=2 ^ n*2 ^ (20-n):=by rw[<-Ua];congr 1;omega
 have f:(fst l n+CA l n)*2 ^ (20-n)<=2 ^ n*2 ^ (20-n):=J;exact Nat.le_of_mul_le_mul_right f (Uc _)
def LOk.Aha{l:Bi}(h:LOk l){i:Y}(hi:i<Aim l):JG l i<2 ^ l.getD i 0:=by
 have a:=h.pos (l.getD i 0) Bh;have e:=h.top a.2;have d:=ZZ hi;unfold JG;omega
def Mv(l:Bi)(n c:Y):Prop:=0<CA l n/\fst l n<=c/\c-fst l n<CA l n
instance(l:Bi)(n c:Y):Decidable (Mv l n c):=by unfold Mv;infer_instance
def Qt(l:Bi)(c n:Y):Prop:=∃m,m<=longest l/\n<m/\0<CA l m/\c*2 ^ (m-n)<fst l m+CA l m
noncomputable def Ps(l:Bi)(s:By)(p:Y):Y->Y->Y->Av (Y×Y)
 |0,_,_=>Aa
 |f+1,n,c=>open Classical in
  if 8*Aim s<=p+n then Aa
  else if Mv l (n+1) (2*c+(Co s (p+n)).toNat)then X ((Dr l (longest l)).getD (FQ l (n+1)+(2*c+(Co s (p+n)).toNat-fst l (n+1))) 0,p+n+1)
  else if Qt l (2*c+(Co s (p+n)).toNat) (n+1)then Ps l s p f (n+1) (2*c+(Co s (p+n)).toNat)
  else Aa
noncomputable def NK(l:Bi)(s:By)(p:Y):Av (Y×Y):=Ps l s p 21 0 0
def gW(l:Bi)(n:Y):∀d,(fst l n+CA l n)*2 ^ (d+1)<=fst l (n+d+1)
 |0=>by
  show(fst l n+CA l n)*2 ^ 1<=2*(fst l n+CA l n);omega
 |d+1=>by
  have ih:=gW l n d;show _<=2*(fst l (n+d+1)+CA l (n+d+1));rw[IQ,<-WR];omega
def Abz(L c n:Y)(a:n<L):c>>>(L-(n+1))=2*(c>>>(L-n))+(c.testBit (L-1-n)).toNat:=by
 rw[Np,Np,show L-n=(L-(n+1))+1 by omega,IQ,<-WP,Nat.testBit_eq_decide_div_mod_eq,show L-1-n=L-(n+1) by omega];generalize c/2 ^ (L-(n+1))=q;rcases Nat.mod_two_eq_zero_or_one q with h|h
 .rw[h];simp;omega
 .rw[h];simp;omega
def kU{l:Bi}{L c i:Y}(d:L∈l)(g:fst l L<=c)(e:c-fst l L<CA l L)(a:(Dr l (longest l))[FQ l L+(c-fst l L)]? =X i){s:By}{p:Y}(h:Dt s p (nb L c)):
 ∀(f n:Y),n<L->L<=f+n->Ps l s p f n (c>>>(L-n))=X (i,p+L)
 |0,n,h1,h2=>by omega
 |f+1,n,h1,h2=>by
  have hle:=h.1;rw[nb_length]at hle;have hb:=h.2 n (by rw[nb_length];omega);rw[BX,UY h1]at hb;have hb':Co s (p+n)=c.testBit (L-1-n):=hb;have hsh:=Abz L c n h1;unfold Ps;rw[Ag J,hb',<-hsh];rcases Db (n+1) L with q|q
  .have hnh:¬Mv l (n+1) (c>>>(L-(n+1))):=by
    rintro⟨_,r,o⟩;have k:=gW l (n+1) (L-(n+1)-1);rw[show n+1+(L-(n+1)-1)+1=L by omega,show L-(n+1)-1+1=L-(n+1) by omega]at k;have m:c>>>(L-(n+1))<fst l (n+1)+CA l (n+1):=J;rw[Np,Nat.div_lt_iff_lt_mul (Uc _)]at m;omega
   have j:Qt l (c>>>(L-(n+1))) (n+1):=by
    refine⟨L,UT d,q,J,?_⟩;rw[Np];have:=Nat.div_mul_le_self c (2 ^ (L-(n+1)));omega
   rw[Ag hnh,Ai j];exact kU d g e a h f (n+1) q J
  .obtain rfl:n+1=L:=J;rw[EP,Nat.shiftRight_zero,Ai ⟨J,g,e⟩,BX,a];rfl
def xO{l:Bi}(h:LOk l){i:Y}(hi:i<Aim l){s:By}{p:Y}(g:Dt s p (nb (l.getD i 0) (JG l i))):NK l s p=X (i,p+l.getD i 0):=by
 have a:l.getD i 0∈l:=by rw[BX,BN hi];exact BM hi
 have k:=h.pos _ a;have j:=ZZ hi;have f:=ZH h.Agu hi k.1 (UT a);have e:JG l i-fst l (l.getD i 0)=MI l i:=by unfold JG;omega
 have:=kU a (c:=JG l i) (i:=i) (by unfold JG;omega) J Bh g 21 0 J J;have d:=h.Aha hi;rw[Nat.sub_zero,Np,Nat.div_eq_of_lt d]at this;exact this
noncomputable def Gh(l:Bi)(s:By)(fin:Y):Y->Y->Av (Bi×Y)
 |0,p=>X ([],p)
 |k+1,p=>match NK l s p with
  |none=>Aa
  |some (x,q)=>if x=fin then X ([x],q)else(Gh l s fin k q).map fun r=>(x::r.1,r.2)
def Ku(l:Bi)(x:Y):Bs:=nb (l.getD x 0) (JG l x)
def Xe{l:Bi}(h:LOk l){s:By}{fin:Y}:∀(xs:Bi) (k p:Y),(∀x∈xs,x<Aim l)->(∀y ys,xs=ys++[y]->∀x∈ys,x≠fin)->Aim xs<=k->(Aim xs=k∨xs.getLast? =X fin)->Dt s p (xs.flatMap (Ku l))->Gh l s fin k p=X (xs,p+Aim (xs.flatMap (Ku l)))
 |[],k,p,_,_,_,h3,_=>by
  rcases h3 with h3|h3
  .obtain rfl:k=0:=by simpa using h3.symm
   rfl
  .grind
 |x::xs,0,p,_,_,h2,_,_=>by grind
 |x::xs,k+1,p,h0,h1,h2,h3,hs=>by
  rw[EY]at hs;have j:=h0 x Bl;have e:=xO h j hs.left;have f:=hs.right;have g:Aim (Ku l x)=l.getD x 0:=nb_length _ _;rw[g]at f;unfold Gh;rw[e];simp only;rcases TJ xs with z|⟨ys,y,z⟩
  .subst z;split
   .grind
   .rename_i q;rcases h3 with h3|h3
    .obtain rfl:k=0:=by simpa using h3.symm
     simp[Gh,g]
    .grind
  .rw[TG]at z;have a:x≠fin:=h1 y (x::ys) Bh x Bl;rw[Ag a]
   have d:Aim xs=k∨xs.getLast? =X fin:=by
    rcases h3 with h3|h3
    .grind
    .grind
   rw[Xe h xs k (p+l.getD x 0) (fun u m=>h0 u Bh) (fun u i m v n=>h1 u (x::i) Bh v Bh) Bh d f];simp_all;omega
def Hs(now x:Y):Bs:=(BG (x-now) [Af,Aj]).flatten++(BG (now-x) [Af,Af]).flatten++[Aj]
def HN:Y->Bi->Bs
 |_,[]=>[]
 |now,x::l=>Hs now x++HN x l
def dShow(l:Bi):Bs:=nb 5 (l.headD 0)++HN (l.headD 0) l
def Ft(s:By):Y->Y->Y->Y->Bi->Av (Bi×Y)
 |_,p,0,_,acc=>X (acc,p)
 |0,_,_+1,_,_=>Aa
 |f+1,p,k+1,now,acc=>
  if now<1∨20<now then Aa
  else if 8*Aim s<=p then Aa
  else if Co s p=Aj then Ft s f (p+1) k now (acc++[now])
  else if 8*Aim s<=p+1 then Aa
  else Ft s f (p+2) (k+1) (if Co s (p+1)then now-1 else now+1) acc
def NT{s:By}{p:Y}{b:Aw}{l:Bs}(h:Dt s p (b::l)):p<8*Aim s/\Co s p=b/\Dt s (p+1) l:=by
 have a:=h.1;rw[Cv]at a;refine⟨J,by simpa using h.2 0 Bl,by have:=Dt.right (l:=[b]) h;omega⟩
def fG{s:By}{x:Y}(hx:x<=20){rest:Bs}{k:Y}{acc:Bi}:∀(d f p now:Y),now+d=x->1<=now->Dt s p ((BG d [Af,Aj]).flatten++rest)->2*d<=f->Ft s f p (k+1) now acc=Ft s (f-d) (p+2*d) (k+1) x acc
 |0,f,p,now,h1,_,_,_=>by grind
 |d+1,f,p,now,h1,h2,hs,hf=>by
  obtain⟨f,rfl⟩:∃g,f=g+1:=⟨f-1,J⟩;rw[HI,Nj,Cq]at hs;obtain⟨a1,a2,a3⟩:=NT hs;obtain⟨b1,b2,b3⟩:=NT a3;rw[Ft,Ag J,Ag J,Ag Bh,Ag J,b2];rw[Ag Bl,fG hx d f (p+1+1) (now+1) J J b3 J];grind
def fD{s:By}{x:Y}(hx:1<=x){rest:Bs}{k:Y}{acc:Bi}:∀(d f p now:Y),x+d=now->now<=20->Dt s p ((BG d [Af,Af]).flatten++rest)->2*d<=f->Ft s f p (k+1) now acc=Ft s (f-d) (p+2*d) (k+1) x acc
 |0,f,p,now,h1,_,_,_=>by grind
 |d+1,f,p,now,h1,h2,hs,hf=>by
  obtain⟨f,rfl⟩:∃g,f=g+1:=⟨f-1,J⟩;rw[HI,Nj,Cq]at hs;obtain⟨a1,a2,a3⟩:=NT hs;obtain⟨b1,b2,b3⟩:=NT a3;rw[Ft,Ag J,Ag J,Ag Bh,Ag J,b2];rw[Ai Z,fD hx d f (p+1+1) (now-1) J J b3 J];grind
def Yu(b c:Aw):∀d,Aim ((BG d [b,c]).flatten)=2*d
 |0=>rfl
 |d+1=>by simp;omega
def fC{s:By}:∀(l:Bi) (f p now:Y) (acc:Bi),(∀x∈l,1<=x/\x<=20)->1<=now/\now<=20->Dt s p (HN now l)->Aim (HN now l)<=f->Ft s f p (Aim l) now acc=X (acc++l,p+Aim (HN now l))
 |[],f,p,now,acc,_,_,_,_=>by
  have e:Ft s f p 0 now acc=X (acc,p):=by cases f<;>rfl
  rw[EZ,e];simp[HN]
 |x::l,f,p,now,acc,hl,hn,hs,hf=>by
  have d:=hl x Bl;unfold HN Hs at hs hf ⊢;simp only[BA,Yu,CJ]at hf;rw[Cq,Cq]at hs;have a:=hs.right;rw[Yu]at a;have h:=a.right;rw[Yu]at h;rw[Cv]
  have e:Ft s f p (Aim l+1) now acc=Ft s (f-(x-now)-(now-x)) (p+2*(x-now)+2*(now-x)) (Aim l+1) x acc:=by
   rcases TX now x with q|q
   .have z:now-x=0:=J;rw[z,Nat.mul_zero,Jv,Nat.sub_zero];exact fG d.2 (x-now) f p now J hn.1 hs J
   .have z:x-now=0:=J;rw[z,Nat.mul_zero,Jv,Nat.sub_zero];rw[z]at a;exact fD d.1 (now-x) f p now J hn.2 a J
  obtain⟨n,k,j⟩:=NT h;obtain⟨g,i⟩:∃g,f-(x-now)-(now-x)=g+1:=⟨f-(x-now)-(now-x)-1,J⟩;rw[e,i,Ft,Ag J,Ag J,Ai k,fC l g _ x (acc++[x]) (fun y m=>hl y Bh) d j J];simp;omega
end Bz
namespace Bz
structure Pl where
 tabs:Ae (Bi)
 picks:Bi
structure Pl.Ok(p:Pl)(n:Y):Prop where
 tabs:2<=Aim p.tabs/\Aim p.tabs<=6
 picks:1<=Aim p.picks/\Aim p.picks<=32767
 len:∀t∈p.tabs,Aim t=n
 low:3<=n/\n<=258
 ok:∀t∈p.tabs,LOk t
 lt:∀k∈p.picks,k<Aim p.tabs
def grpN(m:Y):Y:=(m+49)/50
def Ew(l:Bi)(k:Y):Bi:=(l.drop (50*k)).take 50
def Gm(m:Y):Y:=if m<200 then 2 else if m<600 then 3 else if m<1200 then 4 else if m<2400 then 5 else 6
def Ik(t g:Bi):Y:=CU (g.map fun s=>t.getD s 0)
def KF(w:Bi):Bi:=LB 31 (w.map fun x=>max x 1)
def EQ(w:Bi)(i j:Y):Prop:=max (w.getD j 0) 1<max (w.getD i 0) 1∨(max (w.getD j 0) 1=max (w.getD i 0) 1/\i<j)
instance(w:Bi)(i j:Y):Decidable (EQ w i j):=by unfold EQ;infer_instance
def Pz(w:Bi)(j:Y):Y:=Aim ((BE (Aim w)).filter fun i=>decide (EQ w i j))
def Gk(w:Bi):Bi:=(BE (Aim w)).map fun i=>if Pz w i<2 ^ (DL (Aim w)+1)-Aim w then DL (Aim w)else DL (Aim w)+1
def dy(w:Bi)(i:Y):¬EQ w i i:=by unfold EQ;omega
def dz{w:Bi}{i j k:Y}(h:EQ w i j)(h2:EQ w j k):EQ w i k:=by unfold EQ at*;omega
def qM(w:Bi){i j:Y}(h:i≠j):EQ w i j∨EQ w j i:=by unfold EQ;omega
structure IsOw(w:Bi)(o:Bi):Prop where
 perm:o.Perm (BE (Aim w))
 sorted:o.Pairwise (EQ w)
def IsOw.ex(w:Bi):∃o,IsOw w o:=by
 refine⟨(BE (Aim w)).mergeSort fun i j=>decide (i=j∨EQ w i j),TS _ _,?_⟩
 have g:=de (le:=fun i j=>decide (i=j∨EQ w i j)) (fun a b c f d=>by
  simp only[decide_eq_true_eq]at f d ⊢;rcases f with rfl|f
  .omega
  .rcases d with rfl|d
   .grind
   .exact .inr (dz f d)) (fun a b=>by
  simp only[PP,decide_eq_true_eq];rcases Tu (a=b)with e|e
  .omega
  .rcases qM w e with q|q
   .grind
   .grind) (BE (Aim w))
 have h:((BE (Aim w)).mergeSort fun i j=>decide (i=j∨EQ w i j)).Nodup:=(TS _ _).nodup_iff.2 Nn;refine GS.imp₂ ?_ g h;grind
def IsOw.rank{w o:Bi}(h:IsOw w o){p:Y}(g:p<Aim o):Pz w o[p]=p:=by
 unfold Pz;rw[<-(h.perm.filter _).length_eq];have e:o=o.take p++o[p]::o.drop (p+1):=by rw[<-Ds g,Ho]
 have d:=h.sorted
 have m:∀x∈o.take p,EQ w x o[p]:=fun x a=>by
  grind
 have j:∀x∈o.drop (p+1),EQ w o[p] x:=fun x a=>by
  rw[e]at d;exact(Hn.1 (Mb.1 d).2.1).1 x a
 have l:(o.take p).filter (fun i=>decide (EQ w i o[p]))=o.take p:=Ww.2 fun x a=>by grind
 have k:(o.drop (p+1)).filter (fun i=>decide (EQ w i o[p]))=[]:=List.filter_eq_nil_iff.2 fun x a=>by
  have:=j x a;simp only[decide_eq_true_eq];exact fun q=>dy w _ (dz q this)
 have f:∀q:Y,q=p->Aim (o.filter fun i=>decide (EQ w i o[p]))=p:=fun q _=>by
  have:o.filter (fun i=>decide (EQ w i o[p]))=(o.take p++o[p]::o.drop (p+1)).filter fun i=>decide (EQ w i o[p]):=Ar _ e;rw[this,KY,LY,Ag (by simpa using dy w _),l,k,List.append_nil,BY];omega
 grind
def gK{w:Bi}(h2:2<=Aim w)(L:Aim w<=258):LOk (Gk w):=by
 have a:Aim w≠0:=J;have G:2 ^ DL (Aim w)<=Aim w:=Nat.log2_self_le a;have E:Aim w<2 ^ (DL (Aim w)+1):=Nat.lt_log2_self;have D:DL (Aim w)<9:=(TY a).2 J
 have C:1<=DL (Aim w):=by
  rcases Jy (DL (Aim w))with z|z
  .grind
  .omega
 generalize l:DL (Aim w)=k at*;have r:Gk w=(BE (Aim w)).map fun i=>if Pz w i<2 ^ (k+1)-Aim w then k else k+1:=by unfold Gk;rw[l]
 refine⟨fun x I=>?_,?_⟩
 .grind
 .obtain⟨o,d⟩:=IsOw.ex w;rw[r,EE,<-VG (d.perm.map _)];have g:Aim o=Aim w:=by rw[d.perm.length_eq,GV]
  have e:o.map ((fun x=>2 ^ (20-x))∘fun i=>if Pz w i<2 ^ (k+1)-Aim w then k else k+1)=(BE (Aim w)).map fun p=>if p<2 ^ (k+1)-Aim w then 2 ^ (20-k)else 2 ^ (20-(k+1)):=by
   apply GU;intro p;rcases Db p (Aim w)with q|q
   .rw[DP,BN (by omega:p<Aim o),DP,Nk q,FO,FO];show X (2 ^ (20-if Pz w o[p]<_ then k else k+1))=_;rw[d.rank];grind
   .grind
  rw[e]
  have part:∀(A B m n:Y),m<=n->CU ((BE n).map fun p=>if p<m then A else B)=m*A+(n-m)*B:=fun A B m n=>by
   induction n with
   |zero=>
    intro h;obtain rfl:m=0:=J;simp[CU]
   |succ n ih=>
    intro h;rw[FV,DX,Tj,Ma];rcases Db n m with q|q
    .obtain rfl:m=n+1:=J
     have f:(BE n).map (fun p=>if p<n+1 then A else B)=(BE n).map fun p=>if p<n then A else B:=Ju fun p K=>by
      grind
     have y:CU ((BE n).map fun p=>if p<n then A else B)=n*A:=by
      have:(BE n).map (fun p=>if p<n then A else B)=BG n A:=by
       apply GU;intro p;rcases Db p n with z|z
       .grind
       .grind
      rw[this];clear this f q ih h
      induction n with
      |zero=>simp[CU]
      |succ n ih=>rw[HI,Ga,ih,Ql];omega
     rw[f,y,Ai J];simp only[CU,List.foldr,EP,Nat.zero_mul,Ql];omega
    .rw[ih q,Ag J];simp only[CU,List.foldr];rw[show n+1-m=(n-m)+1 by omega,Ql];omega
  have j:2 ^ (k+1)-Aim w<=Aim w:=by rw[IQ];omega
  rw[part _ _ _ _ j];have v:2 ^ (20-k)=2*2 ^ (20-(k+1)):=by rw[show 20-k=(20-(k+1))+1 by omega,IQ];omega
  have t:2 ^ 20=2 ^ (k+1)*2 ^ (20-(k+1)):=by rw[<-Ua];congr 1;omega
  rw[v,t];generalize 2 ^ (20-(k+1))=B;rw[<-WR,<-RV];grind
def jO{w:Bi}(h2:2<=Aim w)(g:Aim w<=258)(f:∀x∈w,x<=2147483648):LOk (KF w)/\Aim (KF w)=Aim w:=by
 obtain⟨d,e⟩:=Zl 31 (w.map fun x=>max x 1) (fun x a=>by
  grind) Bh Bh
 refine⟨⟨fun x a=>⟨d.pos x a,by have:=e x a;omega⟩,?_⟩,d.len.trans (DQ ..)⟩;rw[show KF w=LB 31 (w.map fun x=>max x 1)from Z,d.kraft (fun x a=>by have:=e x a;omega)];simp
def Yx(w:Bi):Aim (Gk w)=Aim w:=by simp[Gk]
def UN{m:Y}(h:1<=m):1<=grpN m:=by unfold grpN;omega
def ke(m:Y):2<=Gm m/\Gm m<=6:=by
 unfold Gm;grind
def GK:Bi->Bi->Bs
 |_,[]=>[]
 |l,p::ps=>BG (l.idxOf p) Af++Aj::GK (Ey l (l.idxOf p)) ps
def planBits(p:Pl):Bs:=nb 3 (Aim p.tabs)++(nb 15 (Aim p.picks)++(GK (BE (Aim p.tabs)) p.picks++p.tabs.flatMap dShow))
def Jj(s:By)(most p:Y):Y->Y->Av (Y×Y)
 |0,_=>Aa
 |f+1,n=>if 8*Aim s<=p+n then Aa else if Co s (p+n)=Aj then X (n,p+n+1)else if n=most then Aa else Jj s most p f (n+1)
def KK(s:By)(most:Y):Y->Bi->Y->Bi->Av (Bi×Y)
 |0,_,p,acc=>X (acc,p)
 |k+1,l,p,acc=>match Jj s most p (most+1) 0 with
  |none=>Aa
  |some (j,q)=>KK s most k (Ey l j) q (acc++[l.getD j 0])
def JI(s:By)(p n:Y):Av (Bi×Y):=if 8*Aim s<p+5 then Aa else Ft s (8*Aim s-(p+5)) (p+5) n (num (BW s p 5)) []
noncomputable def KL(s:By)(n:Y):Y->Y->Ae (Bi)->Av (Ae (Bi)×Y)
 |0,p,acc=>X (acc,p)
 |k+1,p,acc=>match JI s p n with
  |none=>Aa
  |some (t,q)=>open Classical in if LOk t then KL s n k q (acc++[t])else Aa
noncomputable def MR(s:By)(p n:Y):Av (Pl×Y):=
 if 8*Aim s<p+3 then Aa
 else if num (BW s p 3)<2∨6<num (BW s p 3)then Aa
 else if 8*Aim s<p+3+15 then Aa
 else if num (BW s (p+3) 15)=0 then Aa
 else match KK s (num (BW s p 3)-1) (num (BW s (p+3) 15)) (BE (num (BW s p 3))) (p+18) []with
  |none=>Aa
  |some (picks,q)=>(KL s n (num (BW s p 3)) q []).map fun r=>(⟨r.1,picks⟩,r.2)
def PC{s:By}{p n v:Y}(h:Dt s p (nb n v))(hv:v<2 ^ n):p+n<=8*Aim s/\num (BW s p n)=v:=by
 have d:=h.1;have a:=h.bits;rw[nb_length]at d a;exact⟨d,by rw[a,yg hv]⟩
def oG{s:By}{most p:Y}:∀(k n f:Y),Dt s (p+n) (BG k Af++[Aj])->n+k<=most->k<f->Jj s most p f n=X (n+k,p+(n+k)+1)
 |0,n,f,hs,_,hf=>by
  obtain⟨g,rfl⟩:∃g,f=g+1:=⟨f-1,J⟩;obtain⟨a1,a2,_⟩:=NT (l:=[]) (b:=Aj) (by simpa using hs);rw[Jj,Ag J,Ai a2];rfl
 |k+1,n,f,hs,hm,hf=>by
  obtain⟨g,rfl⟩:∃g,f=g+1:=⟨f-1,J⟩;rw[HI,FM]at hs;obtain⟨a1,a2,a3⟩:=NT hs;rw[Jj,Ag J,Ag Bh,Ag J,oG k (n+1) g a3 J J];grind
def nL{s:By}{most:Y}:∀(ps l:Bi) (p:Y) (acc:Bi),Aim l=most+1->(∀x∈ps,x∈l)->Dt s p (GK l ps)->KK s most (Aim ps) l p acc=X (acc++ps,p+Aim (GK l ps))
 |[],l,p,acc,_,_,_=>by simp[KK,GK]
 |x::ps,l,p,acc,hl,hx,hs=>by
  have hm:=hx x Bl;have hlt:=Qf hm;have e0:GK l (x::ps)=(BG (l.idxOf x) Af++[Aj])++GK (Ey l (l.idxOf x)) ps:=by rw[GK,Cq];rfl
  rw[e0]at hs ⊢;have g:=hs.left;have e:=hs.right;rw[BA,Cm,CJ]at e;have a:=oG (s:=s) (most:=most) (p:=p) (l.idxOf x) 0 (most+1) J J J;rw[FW]at a;rw[Cv,KK,a];simp only
  have d:l.getD (l.idxOf x) 0=x:=by
   rw[BX,BN hlt];exact TN hlt
  rw[d,nL ps (Ey l (l.idxOf x)) _ (acc++[x]) (by rw[Pm hlt];omega) (fun y f=>(SH hlt y).2 (hx y Bh)) J];grind
def sN{s:By}{p:Y}{t:Bi}(h:LOk t)(g:t≠[])(a:Dt s p (dShow t)):JI s p (Aim t)=X (t,p+Aim (dShow t)):=by
 unfold dShow at a ⊢
 have i:∃x r,t=x::r:=by
  cases t with
  |nil=>grind
  |cons x r=>simp
 obtain⟨x,r,rfl⟩:=i;simp only[List.headD_cons]at a ⊢;have f:=h.pos x Bl;obtain⟨j,e⟩:=PC a.left (show x<2 ^ 5 by omega);have d:=a.right;rw[nb_length]at d;unfold JI;rw[Ag J,e];have:=fC (x::r) (8*Aim s-(p+5)) (p+5) x [] h.pos f d (by have:=d.1;omega);rw[this];simp only[Ev,BA,nb_length];grind
def nM{s:By}{n:Y}:∀(ts:Ae (Bi)) (p:Y) (acc:Ae (Bi)),(∀t∈ts,Aim t=n/\LOk t)->1<=n->Dt s p (ts.flatMap dShow)->KL s n (Aim ts) p acc=X (acc++ts,p+Aim (ts.flatMap dShow))
 |[],p,acc,_,_,_=>by simp[KL]
 |t::ts,p,acc,h,hn,hs=>by
  have ht:=h t Bl;rw[EY]at hs ⊢;have e:=sN ht.2 (fun e=>by grind) hs.left;rw[ht.1]at e;rw[Cv,KL,e];simp only;rw[Ai ht.2,nM ts _ (acc++[t]) (fun u hu=>h u Bh) hn hs.right];grind
def Ads{s:By}{p n:Y}{pl:Pl}(h:pl.Ok n)(d:Dt s p (planBits pl)):MR s p n=X (pl,p+Aim (planBits pl)):=by
 unfold planBits at d ⊢;have m:=h.tabs;have o:=h.picks;obtain⟨r,l⟩:=PC d.left (show Aim pl.tabs<2 ^ 3 by omega);have f:=d.right;rw[nb_length]at f;obtain⟨q,k⟩:=PC f.left (show Aim pl.picks<2 ^ 15 by omega);have e:=f.right;rw[nb_length]at e;have g:=e.right;have j:=nL (s:=s) (most:=Aim pl.tabs-1) pl.picks (BE (Aim pl.tabs)) (p+18) [] Bh (fun x a=>CQ.2 (h.lt x a)) (by rw[show p+18=p+3+15 by omega];exact e.left);have i:=nM (s:=s) (n:=n) pl.tabs (p+3+15+Aim (GK (BE (Aim pl.tabs)) pl.picks)) [] (fun t a=>⟨h.len t a,h.ok t a⟩) (by have:=h.low;omega) g;unfold MR;rw[Ag J,l,Ag J,Ag J,k,Ag J,j];simp only[Ev];rw[show p+18+Aim (GK (BE (Aim pl.tabs)) pl.picks)=p+3+15+Aim (GK (BE (Aim pl.tabs)) pl.picks) by omega,i];simp only[Ev,FO,BA,nb_length];grind
def Ej(p:Pl)(l:Bi):Bs:=(l.zipIdx).flatMap fun x=>Ku (p.tabs.getD (p.picks.getD (x.2/50) 0) []) x.1
noncomputable def Ip(tabs:Ae (Bi))(s:By)(fin:Y):Bi->Y->Bi->Av (Bi×Y)
 |[],_,_=>Aa
 |k::ks,p,acc=>match Gh (tabs.getD k []) s fin 50 p with
  |none=>Aa
  |some (xs,q)=>if xs.getLast? =X fin then X (acc++xs,q)else Ip tabs s fin ks q (acc++xs)
def LI(tabs:Ae (Bi)):Bi->Bi->Bs
 |[],_=>[]
 |k::ks,l=>(l.take 50).flatMap (Ku (tabs.getD k []))++LI tabs ks (l.drop 50)
def lQ(a:Ae (Bi)):∀(ks l:Bi) (off:Y) (all:Bi),grpN (Aim l)<=Aim ks->all.drop off=ks->(l.zipIdx (50*off)).flatMap (fun x=>Ku (a.getD (all.getD (x.2/50) 0) []) x.1)=LI a ks l
 |[],l,off,all,h,_=>by
  have:Aim l=0:=by unfold grpN at h;simp only[EZ]at h;omega
  rw[Gx this];rfl
 |k::ks,l,off,all,h,hd=>by
  have f:all.getD off 0=k:=by
   have:(all.drop off)[0]? =X k:=by rw[hd];rfl
   rw[TL,Jv]at this;rw[BX,this];rfl
  have d:all.drop (off+1)=ks:=by rw[<-Ge,hd];rfl
  have e:l=l.take 50++l.drop 50:=(Ho 50 l).symm;unfold LI
  conv=>lhs;rw[e]
  rw[List.zipIdx_append,Ia];congr 1
  .have:∀(m:Bi) (j:Y),j+Aim m<=50->(m.zipIdx (50*off+j)).flatMap (fun x=>Ku (a.getD (all.getD (x.2/50) 0) []) x.1)=m.flatMap (Ku (a.getD k [])):=fun m=>by
    induction m with
    |nil=>simp
    |cons x m ih=>
     intro j g;rw[Cv]at g;rw[WM,EY,EY];simp only;rw[show(50*off+j)/50=off by omega,f,show 50*off+j+1=50*off+(j+1) by omega,ih (j+1) J]
   have:=this (l.take 50) 0 (by rw[BY];omega);omega
  .rcases Db 50 (Aim l)with q|q
   .have i:Aim (l.take 50)=50:=by rw[BY];omega
    rw[i,show 50*off+50=50*(off+1) by omega];refine lQ a ks (l.drop 50) (off+1) all ?_ d;unfold grpN at h ⊢;grind
   .rw[KX q]
    have:∀ks,LI a ks []=[]:=fun ks=>by
     induction ks with
     |nil=>rfl
     |cons k ks ih=>assumption
    rw[this];rfl
def ja{a:Ae (Bi)}{s:By}{fin n:Y}(v:∀k,k<Aim a->LOk (a.getD k [])/\Aim (a.getD k [])=n):∀(ks l:Bi) (p:Y) (acc:Bi),(∀k∈ks,k<Aim a)->(∀x∈l,x<n)->(∃r,l=r++[fin]/\∀x∈r,x≠fin)->grpN (Aim l)<=Aim ks->Dt s p (LI a ks l)->Ip a s fin ks p acc=X (acc++l,p+Aim (LI a ks l))
 |[],l,p,acc,_,_,⟨r,h,_⟩,hg,_=>by
  rw[h]at hg;unfold grpN at hg;grind
 |k::ks,l,p,acc,hk,hl,⟨r,hr,hr2⟩,hg,hs=>by
  have hkk:=v k (hk k Bl);unfold LI at hs ⊢;have hmem:∀x∈l.take 50,x<Aim (a.getD k []):=fun x i=>by grind
  have j:∀y f,l.take 50=f++[y]->∀x∈f,x≠fin:=fun y f w x i=>by
   have d:f++[y]<+:r++[fin]:=by rw[<-w,<-hr];exact List.take_prefix 50 l
   have C:f<+:r:=by
    have o:Aim (f++[y])<=Aim (r++[fin]):=d.length_le;simp only[BA,CJ]at o;have t:f<+:r++[fin]:=(WH f [y]).trans d;exact List.prefix_of_prefix_length_le t (WH r [fin]) J
   grind
  rcases Db 50 (Aim l)with q|q
  .have g:Aim (l.take 50)=50:=by rw[BY];omega
   have e:=Xe hkk.1 (l.take 50) 50 p hmem j J (.inl g) hs.left
   have m:(l.take 50).getLast?≠X fin:=by
    intro z
    have d:l.take 50<+:r:=by
     have t:l.take 50<+:r++[fin]:=by rw[<-hr];exact List.take_prefix 50 l
     refine List.prefix_of_prefix_length_le t (WH r [fin]) ?_;rw[hr]at q;simp only[BA,CJ]at q;rw[g];omega
    have:=d.subset (List.mem_of_getLast? z);exact hr2 _ this Z
   have A:∃r',l.drop 50=r'++[fin]/\∀x∈r',x≠fin:=by
    refine⟨r.drop 50,?_,fun x i=>hr2 x (TR i)⟩;rw[hr]at q ⊢;simp only[BA,CJ]at q;rw[TH J]
   rw[Ip,e];simp only;rw[Ag m,ja v ks (l.drop 50) _ (acc++l.take 50) (fun u B=>hk u Bh) (fun x i=>hl x (TR i)) A (by unfold grpN at hg ⊢;grind) hs.right,Cq,Ho,BA];grind
  .have E:l.take 50=l:=DA q;have e:=Xe hkk.1 (l.take 50) 50 p hmem j Bh (.inr Bh) hs.left
   have D:LI a ks (l.drop 50)=[]:=by
    rw[KX q]
    have:∀ks,LI a ks []=[]:=fun ks=>by
     induction ks with
     |nil=>rfl
     |cons k ks ih=>assumption
    exact this ks
   rw[Ip,e];grind
def uJ{p:Pl}{n:Y}(h:p.Ok n){s:By}{at_ fin:Y}{l:Bi}(hl:∀x∈l,x<n)(i:∃r,l=r++[fin]/\∀x∈r,x≠fin)(g:grpN (Aim l)<=Aim p.picks)(a:Dt s at_ (Ej p l)):Ip p.tabs s fin p.picks at_ []=X (l,at_+Aim (Ej p l)):=by
 have e:=lQ p.tabs p.picks l 0 p.picks g (by rfl);rw[Nat.mul_zero]at e;have m:Ej p l=LI p.tabs p.picks l:=e;rw[m]at a ⊢
 have j:∀k,k<Aim p.tabs->LOk (p.tabs.getD k [])/\Aim (p.tabs.getD k [])=n:=fun k f=>by
  have d:p.tabs.getD k []∈p.tabs:=by rw[BX,BN f];exact BM f
  exact⟨h.ok _ d,h.len _ d⟩
 have:=ja j p.picks l at_ [] h.lt hl i g a;grind
def CP(p:Pl)(l:Bi):Y:=Aim (planBits p)+Aim (Ej p l)
end Bz
section
attribute [local irreducible] OW KW QW EX GW NV
open Bz
def MW(B wb:Y)(l:Bs)(w:Ad)(h:FB w B wb l):Bn prog 137 [.pointer (X ⟨wb,0,Aa⟩)] w fun v w'=>v=U ((Aim l:Y):H)/\w=w':=by
 obtain⟨a,f,e,d⟩:=h;refine Bw func137 Z ntmps137 (by rfl) Z ?_;refine(O 20∘Bu) ?_;simp
def Oa(B wb:Y)(l:Bs)(w:Ad)(h:FB w B wb l):Bn prog 136 [.pointer (X ⟨wb,0,Aa⟩)] w fun v w'=>v=Bj (pack l)/\w=w':=by
 obtain⟨e,g,f,d⟩:=h;obtain⟨A,c,rfl,_,a⟩:=d.slice;refine Bw func136 Z ntmps136 (by rfl) Z ?_;refine(O 18∘Zv (DZ a)∘O 2∘Bu) ?_;simp
structure RdAt(w:Ad)(B rb:Y)(s:Bg)(p:Y):Prop where
 ex:∃sb,B<=rb/\Bk w rb 294 [.func (.func 194) #[] #[.pointer (X ⟨sb,0,Aa⟩)],U (p:H),U ((8*Aim s:Y):H)]/\Bk w sb 9 [Bj s]
def IZ(T:Ay):Aw:=T==294
def RdAt.ext{w w':Ad}{B a:Y}{s:Bg}{p:Y}(h:RdAt w B a s p)(hx:Bf w w'):RdAt w' B a s p:=by
 obtain⟨d,g,f,e⟩:=h.ex;exact⟨d,g,f.ext hx,e.ext hx⟩
def rq(s:Bg)(i:Y):((s.getD (i/8) 0).toNat/2 ^ (7-i%8))%2=(Co s i).toNat:=by
 unfold Co;grind
def dQ(d:Y)(s:Bg)(i:Y)(hi:i<8*Aim s)(f:Aim s<=140737488355328)(w:Ad)(h:Bk w d 9 [Bj s]):
 Bn prog 194 [U (i:H),.pointer (X ⟨d,0,Aa⟩)] w fun v w'=>v=.int .u64 (((Co s i).toNat:Y):H)/\w=w':=by
 have a:i/8<Aim s:=J;have k:=(s[i/8]).toNat_lt;have e:s.getD (i/8) 0=s[i/8]:=by rw[BX,BN a];rfl
 have g:(s[i/8]).toNat/2 ^ (7-i%8)<=(s[i/8]).toNat:=Oz _ _;refine Bw func194 Z ntmps194 (by rfl) Z ?_;refine(O 15∘Zv (by exact PV Z Z (by show _<=64;omega))∘Zv (by exact Nb (b:=1) (j:=1) (p:=2) (m:=18446744073709551615) Z Z Bc Bc Z J)∘O 2∘Bu) ?_;refine⟨Ar (Value.int .u64) (Ar Mf ?_),Z⟩;rw[<-rq,e]
def xM(s:Bg)(at_:H)(a0:-9223372036854775808<=at_)(a1:at_<=9223372036854775807)(n:Aim s<=140737488355328)(w:Ad):
 Bn prog 157 [Bj s,U at_] w fun v w'=>Bf w w'/\((v=.pointer Aa/\(at_<0∨((8*Aim s:Y):H)<at_))∨(0<=at_/\at_<=((8*Aim s:Y):H)/\∃rb,v=.pointer (X ⟨rb,0,Aa⟩)/\RdAt w' w.heap.size rb s at_.toNat)):=by
 refine Bw func157 Z ntmps157 Be Z ?_;refine(O 2) ?_;refine Mh Z Z Z Z ?_;rintro i m h f d;refine(O 8)<|Zd 7 (fun k=>?_) fun k=>?_
 .refine(O 12∘Bu) ?_;grind
 .refine(O 7)<|Zi (fun j=>?_) fun j=>?_
  .refine(O 4∘Bu) ?_;grind
  .obtain⟨p,rfl⟩:=Fq (show 0<=at_ by omega);refine(O 3∘Zv (by exact Gc Z Z)∘O 5) ?_;refine DB Z Z Z ?_;rintro rb l g e a;refine(O 2∘Bu) ?_;refine⟨d.trans a,.inr ⟨J,J,rb,Z,⟨i,by have:=d.size;omega,e,f.ext a⟩⟩⟩
def SS(B a:Y)(s:Bg)(p:Y)(w:Ad)(h:RdAt w B a s p):Bn prog 198 [.pointer (X ⟨a,0,Aa⟩)] w fun v w'=>v=U (p:H)/\w=w':=by
 obtain⟨d,g,f,e⟩:=h.ex;refine Bw func198 Z ntmps198 (by rfl) Z ?_;refine(O 20∘Bu) ?_;simp
def lw(v:Y)(b:Aw):(v*2)|||b.toNat=2*v+b.toNat:=by
 have h:b.toNat<2 ^ 1:=by cases b<;>decide
 have:=Nat.two_pow_add_eq_or_of_lt h v;grind
def Iy(s:Bg)(p n:Y):Y×Y×Y:=if 8*Aim s<p+n then(0,10,p)else(num (BW s p n),0,p+n)
def MT(B k:Y)(s:Bg)(p n:Y)(W:n<=64)(V:p<=8*Aim s)(N:Aim s<=140737488355328)(w:Ad)(h:RdAt w B k s p):
 Bn prog 158 [.pointer (X ⟨k,0,Aa⟩),U (n:H)] w fun v w'=>v=.tuple #[.int .u64 (((Iy s p n).1:Y):H),U (((Iy s p n).2.1:Y):H)]/\RdAt w' B k s (Iy s p n).2.2/\Tm w w' B IZ:=by
 obtain⟨E,K,g,I⟩:=h.ex;refine Bw func158 Z ntmps158 Be Z ?_;refine(O 15) ?_;refine OW.val Z Z (by first|exact bW underlying292 Z Z|exact EX.eqlF0 underlying292 Z Z)<|(O 10∘Ig 19∘O 4∘Cd 22∘O 9∘Zq (by exact fun _=>Bo (g.drewN _))∘O 3∘Zq (by exact fun _=>Bo (g.drewN _))∘O 2∘QW.nil) fun l=>Zi (fun t=>?_) fun t=>?_
 .have e:Iy s p n=(0,10,p):=Ai J;refine(O 5∘BH) ?_;rw[e];exact⟨Z,h.ext (Bf.drewN w l),Tm.Age (Bf.drewN w l) _ _⟩
 .have e:Iy s p n=(num (BW s p n),0,p+n):=Ag J;have j:=Bf.drewN w l;generalize w.drewN l=w0 at j;refine(O 12)<|Lo (fun((i,v,wr):Y×Y×Ad)=>(i<=n/\v=num (BW s p i)/\Bf w wr,[(0,.pointer (X ⟨k,0,Aa⟩)),(1,U n),(6,.int .u64 v),(34,U n),(35,U i)],wr,n-i)) (0,0,w0) ?_ ?_
  .exact⟨BD _,Z,j⟩
  .rintro⟨i,v,wr⟩⟨hi,r,a⟩;refine(O 5)<|Zi (fun y=>?_) fun y=>?_
   .have f:=(g.ext a).drew;have C:=(I.ext a).drew;have q:=Pq (BW s p i);rw[Sf,<-r]at q;have Q:2 ^ i<=2 ^ 63:=FN Bc J;have S:(2:Y) ^ 63=9223372036854775808:=by decide
    have P:=PR (Co s (p+i));have o:num (BW s p (i+1))=2*v+(Co s (p+i)).toNat:=by rw[rr,ZE,r]
    refine(O 8∘Yr 15 (fun w'=>Bf wr w') (Bf.drew wr)) fun G=>(Gv [0]∘Yw 1 (he:=fun _ _=>by first|exact Hk (s:=1) (p:=2) (m:=18446744073709551615) Z Z Bc Bc Z J|exact IF (s:=1) (p:=2) (m:=18446744073709551616) Z Z Bc Bc Z Bc)∘Gv [2,3,4]∘Yw 5 (he:=by exact fun _ d=>Bo ((g.ext a).ext d))∘Gv [6,7,8]∘Yw 9 (he:=by exact fun _ d=>Bo ((g.ext a).ext d))∘Gv [10,11]) ?_;refine GR 12 Z Be Z Z Z Z Z (dQ E s (p+i) J N wr.drew C) ?_;rintro _ _⟨rfl,rfl⟩;refine⟨G,fun G=>?_⟩;refine(Yw 13 (he:=by exact fun _ _=>Ol (m:=18446744073709551615) Z Z Z J)∘Gv [14]∘Yd∘O 5∘Cw 6 (.int .u64 ((num (BW s p (i+1)):Y):H)) (e:=by exact Ar (Value.int .u64) (Ar Mf ((lw v _).trans o.symm))))<|Lb ((i+1),(num (BW s p (i+1))),wr.drew) ?_;exact⟨J,Z,a.trans (Bf.drew wr)⟩
   .obtain rfl:i=n:=J;have f:=g.ext a;refine(O 11∘Zt f) ?_;rintro L A x;refine(O 7∘BH) ?_;rw[e,r];have D:Tm wr L B IZ:=(Tm.set f x K).mono fun T hT=>by assumption
    exact⟨Z,⟨E,K,A,D.bk (I.ext a) Bc⟩,(Tm.Age a _ _).trans D⟩
def Aev(B l:Y)(s:Bg)(p most:Y)(hm:most<=1000000)(hp:p<=8*Aim s)(hs:Aim s<=140737488355328)(w:Ad)(h:RdAt w B l s p):
 Bn prog 200 [.pointer (X ⟨l,0,Aa⟩),U (most:H)] w fun v w'=>((∃k q,Jj s most p (most+1) 0=X (k,q)/\k<=most/\q<=8*Aim s/\v=.tuple #[U (k:H),U ((0:Y):H)]/\RdAt w' B l s q)∨(Jj s most p (most+1) 0=Aa/\∃e:Y,1<=e/\e<=400/\v=.tuple #[U ((0:Y):H),U (e:H)]/\RdAt w' B l s p))/\Tm w w' B IZ:=by
 obtain⟨P,V,L,K⟩:=h.ex;refine Bw func200 Z ntmps200 Be Z ?_;refine(O 15) ?_;refine OW.val Z Z (by first|exact bW underlying292 Z Z|exact EX.eqlF0 underlying292 Z Z)<|(O 10)<|Zi (fun m=>?_) fun m=>?_
 .omega
 .refine(O 7)<|Lo (fun((n,wr):Y×Ad)=>(n<=most/\Jj s most p (most+1-n) n=Jj s most p (most+1) 0/\Bf w wr,[(0,.pointer (X ⟨l,0,Aa⟩)),(1,U most),(6,U n)],wr,most+1-n)) (0,w) ?_ ?_
  .exact⟨BD _,Z,Bf.refl _⟩
  .rintro⟨n,wr⟩⟨hn,i,y⟩;obtain⟨f,hf⟩:∃f,most+1-n=f+1:=⟨most-n,J⟩;have D:f=most+1-(n+1):=J;rw[hf,Jj]at i;have t:=L.ext y;have af:=K.ext y;refine(O 6∘Zq (by exact fun _=>Bo (t.drewN _))∘O 5∘Zq (by exact fun _=>Bo (t.drewN _))∘O 1∘QW.nil) fun Q=>?_;have g:=y.trans (Bf.drewN wr Q);generalize wr.drewN Q=w1 at g;refine Zi (fun C=>?_) fun C=>?_
   .have x:=L.ext g;have I:=K.ext g;rw[Ag J]at i;refine(O 5∘Yr 12 (fun w'=>Bf w1 w') (Bf.drew w1)) fun S=>(Gv [0,1,2]∘Yw 3 (he:=by exact fun _ j=>Bo (x.ext j))∘Gv [4,5,6]∘Yw 7 (he:=by exact fun _ j=>Bo (x.ext j))∘Gv [8,9]) ?_;refine GR 10 Z Be Z Z Z Z Z (dQ P s (p+n) J hs w1.drew I.drew) ?_;rintro _ _⟨rfl,rfl⟩;refine⟨S,fun S=>?_⟩;refine(Gv [11]∘Yd) ?_;have d:=g.trans (Bf.drew w1);generalize w1.drew=w2 at d;have r:=L.ext d;have G:=K.ext d;have o:(Co s (p+n)).toNat=0↔Co s (p+n)=Aj:=by cases Co s (p+n)<;>simp
    refine Zi (fun E=>?_) fun E=>?_
    .rw[Ai (o.1 E)]at i;refine(O 11∘Zt r) ?_;rintro W ab A;refine(O 7∘BH) ?_;have N:Tm w2 W B IZ:=(Tm.set r A V).mono fun T hT=>by assumption
     refine⟨.inl ⟨n,p+n+1,i.symm,hn,J,Z,⟨P,V,?_,N.bk G Bc⟩⟩,(Tm.Age d _ _).trans N⟩;grind
    .rw[Ag (fun z=>E (o.2 z))]at i;refine(O 7)<|Zi (fun a=>?_) fun a=>?_
     .rw[Ai a]at i;refine(O 5∘BH) ?_;exact⟨.inr ⟨i.symm,3,Bc,Bc,Z,h.ext d⟩,Tm.Age d _ _⟩
     .rw[Ag a,D]at i;refine(O 7)<|Lb ((n+1),w2) ?_;grind
   .rw[Ai J]at i;refine(O 6∘BH) ?_;exact⟨.inr ⟨i.symm,10,Bc,Bc,Z,h.ext g⟩,Tm.Age g _ _⟩
def Po(s:Bg)(p:Y)(hp:p<=8*Aim s)(hs:Aim s<=140737488355328)(w:Ad):
 Bn prog 157 [Bj s,U (p:H)] w fun v w'=>∃rb,v=.pointer (X ⟨rb,0,Aa⟩)/\RdAt w' w.heap.size rb s p/\Bf w w':=
 (xM s (p:H) J J hs w).mono fun v w'⟨h1,h2⟩=>by
  grind
def RdAt.tm{w w':Ad}{B a C:Y}{s:Bg}{q:Y}{p:Ay->Aw}(h:RdAt w B a s q)(t:Tm w w' C p)(p1:p 294=Aj)(p2:p 9=Aj):RdAt w' B a s q:=by
 obtain⟨d,g,f,e⟩:=h.ex;exact⟨d,g,t.bk f p1,t.bk e p2⟩
def xH(b:Aw):nb 1 b.toNat=[b]:=by cases b<;>rfl
def SU{s:Bg}{p:Y}(h:p<8*Aim s):Iy s p 1=((Co s p).toNat,0,p+1):=by
 unfold Iy;rw[Ag J];have:num (BW s p 1)=(Co s p).toNat:=by simp[BW,num]
 grind
def vT(l:Bs)(h:Aim l%8≠0):(Fs l (Aim l/8)*2 ^ (Aim l%8))%256=0:=by
 have a:Fs l (Aim l/8)%2 ^ (8-Aim l%8)=0:=by
  apply TV;intro i;rw[Nat.testBit_mod_two_pow,Nat.zero_testBit];rcases Db i (8-Aim l%8)with q|q
  .have:=Un l (Aim l/8) (7-i) J;grind
  .grind
 obtain⟨q,d⟩:=Nat.dvd_of_mod_eq_zero a;rw[d,OD (2 ^ _) q,WR,<-Ua,show 8-Aim l%8+Aim l%8=8 by omega];simp
abbrev DT(l:Bs):Bm:=[Bj (pack l),U ((Aim l:Y):H)]
def rB(l:Bs)(hl:Aim l<=1000000000)(w:Ad):Bn prog 182 [.agg (DT l).toArray] w fun v w'=>v=.bool Af/\Bf w w':=by
 have t:=pack_length l;refine Bw func182 Z ntmps182 Be Z ?_;refine(O 2) ?_;refine DB Z Z Z ?_;rintro x n q a g;refine(O 9∘Ig 6∘O 15)<|Zi (fun h=>?_) fun h=>?_
 .exact AK h J
 .refine(O 2) ?_;rcases Nat.decEq (Aim l%8) 0 with h8|h8
  .have o:0<Aim (pack l):=J;have f:Aim (pack l)-1=Aim l/8:=J;have k:Aim (pack l)-1<Aim (pack l):=J
   have r:(pack l)[Aim (pack l)-1].toNat=Fs l (Aim l/8):=by
    have e:=SQ (l:=l) (j:=Aim (pack l)-1) J;rw[BN k]at e;injection e with e;rw[e,f,WY,IP (Qu _ _)]
   have d:=vT l h8;rw[<-r]at d;refine Ws Be Be<|(O 1∘Zq (by exact fun _=>Bo (a.drewN _))∘O 1) ?_;refine QW.val Z Z (fun _=>by first|exact Oe (b:=0) Z Z|exact Of Z Z)<|(O 1∘Zqf 25∘O 1∘Zq (by exact fun _=>Bo (a.drewN _))∘O 1∘Zq (by exact fun _=>Bo (a.drewN _))∘O 2) ?_;refine QW.val Z Z (fun _=>EW underlying9 Z Z (BN J))<|(O 1∘Zq (by exact fun _=>Bo (a.drewN _))∘O 2∘Zq (by exact fun _=>IF (s:=Aim l%8) (p:=2 ^ (Aim l%8)) (m:=256) Z Z Z (by show _<=8;omega) Z Bc)∘O 3∘QW.nil) fun i=>(If 2 (e:=d)∘Bu) ?_;exact⟨Z,g.trans (Bf.drewN n i)⟩
  .refine(O 2∘Zq (by exact fun _=>Bo (a.drewN _))∘O 3∘Zqa 25 (e:=h8)∘O 15∘QW.nil) fun i=>(Bu) ?_;exact⟨Z,g.trans (Bf.drewN n i)⟩
abbrev Jd(l:Ae Bs):Bm:=l.flatMap DT
def NF(a:Ae Bs)(a4:∀l∈a,Aim l<=100000000)(hn:Aim a<=1000000)(bf:Aim a.flatten<=100000000)(A:Av AC)(c C:Y)(w:Ad)(hs:Sl w C A (Jd a)):
 Bn prog 135 [.slice A (Aim a) c] w fun v w'=>v=.tuple #[.agg (DT a.flatten).toArray,U 0]/\Bf w w':=by
 refine Bw func135 Z ntmps135 Be Z ?_;refine(O 2∘Zn) ?_;rintro B y S ba I;refine(O 4∘Zc (Pp y)) ?_;rintro _ w1⟨p,rfl,L,G⟩;refine(O 10) ?_;have x1:=I.trans G;have ab:=I.size;refine Lo (fun((i,wr):Y×Ad)=>(i<=Aim a/\FB wr y.heap.size p (a.take i).flatten/\(∃W V,Bk wr B 226 [W,V])/\Bf w wr,[(2,.pointer (X ⟨B,0,Aa⟩)),(4,.pointer (X ⟨p,0,Aa⟩)),(11,.slice A (Aim a) c),(12,U ((Aim a:Y):H)),(13,U i)],wr,Aim a-i)) (0,w1) ?_ ?_
 .exact⟨BD _,L,⟨_,_,ba.ext G⟩,x1⟩
 .rintro⟨i,wr⟩⟨hi,f,⟨W,V,Q⟩,hx⟩;refine(O 5)<|Zi (fun d=>?_) fun d=>?_
  .obtain⟨b,o,rfl,_,g⟩:=(hs.ext hx).flat (c:=2) (fun _=>rfl) Bc d;have a5:=a4 a[i] (BM d);have t:(a.take (i+1)).flatten=(a.take i).flatten++a[i]:=by rw[<-CR d,List.flatten_append,List.flatten_singleton]
   have n:(a.take i).flatten.length+Aim a[i]<=100000000:=by
    have e:Aim a.flatten=((a.take (i+1))++a.drop (i+1)).flatten.length:=by rw[Ho]
    rw[List.flatten_append,BA,t,BA]at e;omega
   generalize a[i]=l at g a5 t n;generalize(a.take i).flatten=pre at f t n;have bj:=pack_length l;refine(O 6∘Zv (Do (DT l) g)∘Zn) ?_;rintro bb w2 bh a9 E;refine(Zs a9 (hlt:=Bq _)) ?_;rintro w3 h a3;refine(O 4) ?_;replace h:Bk w3 bb 226 (DT l):=h;have y3:Bf wr w3:=Bv E a3 E.size (fun k hk=>by simp at hk;omega);have x3:=hx.trans y3;refine(Zv (Cf h)∘Zc (rB l J w3)) ?_;rintro _ w4⟨rfl,r⟩;refine(O 2) ?_;have y4:=y3.trans r;have a8:=h.ext r;refine(O 6∘Zc (Po (pack l) 0 (BD _) J w4)) ?_;rintro _ w5⟨rb,rfl,P,q⟩;refine(O 5) ?_;have x4:=x3.trans r;have x5:=x4.trans q;have y5:=y4.trans q;have bm:=a8.ext q;refine(O 4)<|Lo (fun((j,m):Y×Ad)=>(j<=Aim l/\FB m y.heap.size p (pre++l.take j)/\RdAt m w4.heap.size rb (pack l) j/\(∃W V,Bk m B 226 [W,V])/\Bf w m,[(2,.pointer (X ⟨B,0,Aa⟩)),(4,.pointer (X ⟨p,0,Aa⟩)),(7,.pointer (X ⟨rb,0,Aa⟩)),(11,.slice (X ⟨b,o,Aa⟩) (Aim a) c),(12,U ((Aim a:Y):H)),(13,U i),(25,U ((Aim l:Y):H)),(26,U j)],m,Aim l-j)) (0,w5) ?_ ?_
   .exact⟨BD _,by rw[Ox,List.append_nil];exact f.ext y5,P,⟨W,V,Q.ext y5⟩,x5⟩
   .rintro⟨j,m⟩⟨hj,N,af,⟨b0,b1,al⟩,D⟩;refine(O 5)<|Zi (fun x=>?_) fun x=>?_
    .have a6:j<8*Aim (pack l):=J;have e1:=SU a6
     have T:Co (pack l) j=l[j]:=by
      rw[dP J,BX,BN x];rfl
     have c1:=MT w4.heap.size rb (pack l) j 1 Bc J J m af;rw[e1,T]at c1;have bn:=PR l[j];have aj:Aim (pre++l.take j)<=1000000000:=by rw[BA,BY];omega
     have bi:pre++l.take (j+1)=(pre++l.take j)++nb 1 (l[j]).toNat:=by rw[xH,Cq,CR x]
     refine(O 6∘Zc c1) ?_;rintro _ w6⟨rfl,ai,t6⟩;refine(O 9) ?_;have K:=N.tm t6 Bc Bc;have ao:=t6.bk al Bc;have x6:Bf w w6:=Tm.below D t6 D.size (by have:=x4.size;omega);refine(Zc (GJ y.heap.size p (pre++l.take j) (l[j]).toNat 1 J Bc J aj w6 K)) ?_;rintro _ w7⟨rfl,bc,t7⟩;refine(O 6) ?_;have x7:Bf w w7:=Tm.below x6 t7 x6.size ab;refine Lb ((j+1),w7) ?_;exact⟨J,Bh,ai.tm t7 Bc Bc,⟨b0,b1,t7.bk ao Bc⟩,x7⟩
    .obtain rfl:j=Aim l:=J;rw[DY]at N;refine(O 6)<|Lb ((i+1),m) ?_;grind
  .obtain rfl:i=Aim a:=J;rw[DY]at f;refine(O 4∘Zc (Oa y.heap.size p _ wr f)) ?_;rintro _ _⟨rfl,rfl⟩;refine(O 1∘Zc (MW y.heap.size p _ wr f)) ?_;rintro _ _⟨rfl,rfl⟩;refine(O 1∘Zs Q (hlt:=Bq 2)) ?_;rintro w8 a7 a2;refine(O 2∘Du a7) ?_;have bl:w.heap.size<=B:=S;exact⟨Z,Bv hx a2 hx.size (fun k hk=>by simp at hk;omega)⟩
def PA{s:Bg}{i:Y}(hi:i<Aim s):s.drop i=s[i]::s.drop (i+1):=Ds hi
def Aaz{s:Bg}{b:AH}{m k:Y}(hk:k<Aim s)(a:s[k]=b):FK b (m+1) (s.drop k)=FK b m (s.drop (k+1))+1:=by
 rw[PA hk,FK,Ai a]
def Aba{s:Bg}{b:AH}{m k:Y}(hk:k<Aim s)(a:s[k]≠b):FK b m (s.drop k)=0:=by
 rw[PA hk];cases m with
 |zero=>rfl
 |succ m=>rw[FK,Ag a]
def Aay{s:Bg}{b:AH}{m k:Y}(hk:Aim s<=k):FK b m (s.drop k)=0:=by
 rw[KX hk];cases m<;>rfl
def Abb(b:AH)(r:Bg):FK b 0 r=0:=by rfl
def mJ(s:Bg)(i:Y)(hi:i<Aim s)(o:Aim s<=140737488355328)(w:Ad):
 Bn prog 225 [Bj s,U (i:H)] w fun v w'=>v=U ((Dy (s.drop i):Y):H)/\Bf w w':=by
 have f:1+FK s[i] (255-1) (s.drop (i+1))=Dy (s.drop i):=by rw[PA hi,Dy]
 refine Bw func225 Z ntmps225 Be Z ?_;refine(O 10)<|Lo (fun((n,wr):Y×Ad)=>(1<=n/\n<=255/\i+n<=Aim s/\n+FK (s[i]'hi) (255-n) (s.drop (i+n))=Dy (s.drop i)/\Bf w wr,[(0,Bj (s)),(1,U i),(5,U n)],wr,255-n)) (1,w) ?_ ?_
 .exact⟨Bq _,Bl,J,f,Bf.refl _⟩
 .rintro⟨n,wr⟩⟨r,q,p,d,a⟩;refine(O 6)<|Nw 8 (fun m=>?_) fun m=>?_
  .refine(O 8)<|Nw 16 (fun l=>?_) fun l=>?_
   .have j:i+n<Aim s:=J;refine(O 4) ?_;refine QW.val Z Z (fun _=>EW underlying9 Z Z (BN J))<|(O 2∘Zq (by exact fun _=>EW underlying9 Z Z (BN (hi)))∘O 2∘QW.nil) fun h=>Zi (fun g=>?_) fun g=>?_
    .have k:s[i+n]=s[i]:=Ll.1 g;rw[show 255-n=(254-n)+1 by omega,Aaz j k]at d;refine(O 8) ?_;refine Lb ((n+1),_) ?_;exact⟨J,J,J,Bh,a.trans (Bf.drewN _ _)⟩
    .rw[Aba j (fun e=>g (Ar UInt8.toNat e))]at d;refine(O 6∘Bu) ?_;exact⟨Ar (Value.int .i64) (Ar Mf J),a.trans (Bf.drewN _ _)⟩
   .rw[Aay J]at d;refine(O 10∘QW.nil) fun h=>(O 7∘Bu) ?_;exact⟨Ar (Value.int .i64) (Ar Mf J),a.trans (Bf.drewN _ _)⟩
  .obtain rfl:n=255:=J;rw[EP,Abb]at d;refine(O 18∘QW.nil) fun h=>(O 7∘Bu) ?_;exact⟨Ar (Value.int .i64) (Ar Mf J),a.trans (Bf.drewN _ _)⟩
def dZ(a b:Bg):BI a++BI b=BI (a++b):=by simp[BI]
def UF{s:Bg}{i:Y}(hi:i<Aim s):enc (s.drop i)=Bz.runT (Dy (s.drop i)) s[i]++enc (s.drop (i+Dy (s.drop i))):=by
 rw[PA hi,UG,<-PA hi,Ge]
def Abk{s:Bg}{i n:Y}(hi:i<Aim s)(a:n<=Dy (s.drop i)):(s.drop i).take (i+n-i)=BG n s[i]:=by
 have h:=mG s[i] (s.drop (i+1));rw[<-PA hi]at h;rw[Ki,show(s.drop i).take n=((s.drop i).take (Dy (s.drop i))).take n by grind,h,List.take_replicate,Hq a]
def mF{s:Bg}{i:Y}(hi:i<Aim s):1<=Dy (s.drop i)/\Dy (s.drop i)<=255/\i+Dy (s.drop i)<=Aim s:=by
 have d:=Tb (s:=s.drop i) (by simp_all);have a:=an (s.drop i);grind
def Aai(s:Bg)(hs:Aim s<=1000000000)(w:Ad):
 Bn prog 172 [Bj s] w fun v w'=>v=Bj (enc s)/\Bf w w':=by
 refine Bw func172 Z ntmps172 (by rfl) Z ?_;refine(O 12) ?_;refine WU (len:=0) Z Z underlying23 CD Z Z Z J J CE ?_;rintro K G j p;refine(O 8)<|Lo (fun((i,o,m,wr):Y×(Bg)×Ah×Ad)=>(i<=Aim s/\Aim o<=2*i/\o++enc (s.drop i)=enc s/\Bp wr w.heap.size 5 1 m (Aim o) (BI o)/\Bf w wr,[(0,Bj (s)),(3,m),(4,U i)],wr,Aim s-i)) (0,([]),K,G) ?_ ?_
 .exact⟨BD _,BD _,Z,j,p⟩
 .rintro⟨i,o,m,wr⟩⟨hi,T,D,g,S⟩;refine(O 8)<|Zi (fun d=>?_) fun d=>?_
  .obtain⟨P,N,L⟩:=mF d;have W:=UF d;have k:=fun n C=>Abk (n:=n) d C;refine(O 6∘Zc (mJ s i d J wr)) ?_;rintro _ w2⟨rfl,l⟩;refine(O 4) ?_;generalize C:Dy (s.drop i)=n at P N L W k;have x:=S.trans l;have f:=g.ext l;refine Ld (fun((u,e):Ah×Ad)=>(Bp e w.heap.size 5 1 u (Aim (o++Bz.runT n s[i])) (BI (o++Bz.runT n s[i]))/\Bf w e,[(0,Bj (s)),(3,u),(4,U i),(5,U n)],e)) ?_ ?_
   .refine(O 4)<|Zi (fun r=>?_) fun r=>?_
    .have t:Bz.runT n s[i]=BG n s[i]:=Ai r;have tl:=Ar DW (k n (Bq n));rw[Cm]at tl;refine(O 7∘Zv (by exact Oo underlying9 Z Z Z J)) ?_;refine Ie Z Z underlying23 CD Z Bc Z Z (x) (f) (Src.Agq underlying9 _) CE J ?_;rintro y e a h _ _;refine(O 2∘Lm (y,e)) ?_;rw[t];rw[k n (Bq n)]at a;have V:Aim (BG n s[i])=n:=Cm;rw[V,dZ]at a;grind
    .have t:Bz.runT n s[i]=BG 4 s[i]++[BS (n-4)]:=Ag r;have tl:=Ar DW (k 4 J);rw[Cm]at tl;refine(O 7∘Zv (by exact Oo underlying9 Z Z Z J)) ?_;refine Ie Z Z underlying23 CD Z Bc Z Z (x) (f) (Src.Agq underlying9 _) CE J ?_;rintro y e a h _ _;rw[k 4 J,Cm,dZ]at a;have hq:(n-4)%256=n-4:=IP J;refine(O 7∘GZ h a) ?_;rintro _ I E B Q _ _;refine(O 2∘Lm (I,E)) ?_;rw[t,<-Cq,Qv,show((BS (n-4)).toNat:H)=((n-4:Y):H) by simp;omega,BA,BA,Cm,CJ];grind
   .rintro⟨u,e⟩⟨a,h⟩;refine(O 7)<|Lb ((i+n),(o++Bz.runT n s[i]),u,e) ?_;have rl:=mH n s[i];grind
  .obtain rfl:i=Aim s:=J;rw[IK,XY,List.append_nil]at D;subst D;obtain⟨A,c,rfl,_,q⟩:=g.slice;refine(O 4∘Zv (DZ q)∘O 2∘Bu) ?_;grind
def fit_s(s:Bg)(most:Y)(hm:2*Aim s<=most)(k:most<=1000000000)(w:Ad):
 Bn prog 171 [Bj s,U (most:H)] w fun v w'=>v=U ((Aim s:Y):H)/\Bf w w':=by
 refine Bw func171 Z ntmps171 (by rfl) Z ?_;refine(O 14)<|Lo (fun((i,u,wr):Y×Y×Ad)=>(i<=Aim s/\u<=2*i/\Bf w wr,[(0,Bj (s)),(1,U most),(5,U u),(6,U i)],wr,Aim s-i)) (0,0,w) ?_ ?_
 .exact⟨BD _,BD _,Bf.refl _⟩
 .rintro⟨i,u,wr⟩⟨r,p,j⟩;refine(O 8)<|Zi (fun a=>?_) fun a=>?_
  .obtain⟨h,g,f⟩:=mF a;refine(O 6∘Zc (mJ s i a J wr)) ?_;rintro _ e⟨rfl,d⟩;refine(O 10) ?_;generalize q:Dy (s.drop i)=n at h g f;have o:=j.trans d;refine Ld (fun(c:Y)=>(c<=2*n/\c<=5,[(0,Bj (s)),(1,U most),(5,U u),(6,U i),(7,U n),(8,U c)],e)) ?_ ?_
   .refine(O 4)<|Zi (fun m=>?_) fun m=>?_
    .refine(O 3∘Lm 5) ?_;exact⟨J,J⟩
    .refine(O 1∘Lm (min n 3)) ?_;exact⟨J,J⟩
   .rintro c⟨x,t⟩;refine(O 9)<|Zi (fun l=>?_) fun l=>?_
    .omega
    .refine(O 15)<|Lb ((i+n),(u+c),e) ?_;grind
  .obtain rfl:i=Aim s:=J;refine(O 7∘Bu) ?_;grind
def Bk.Agv{w:Ad}{b:Y}{T:Ay}{l:Bm}(h:Bk w b T l)(o m:Y):Sl w w.heap.size (X ⟨b,o,Aa⟩) ((l.drop o).take m):=by
 refine .inr ⟨b,o,Z,h.lt,fun j u a=>?_⟩;rw[List.getElem?_take]at a;split at a
 .rw[TL]at a;exact h.cell_of a
 .grind
def ti(same:Y)(o:Bg):dec same o []=if same=4 then([],30)else(o,0):=by rfl
def sU(same:Y)(o:Bg)(x:AH)(r:Bg):dec same o (x::r)=if same=4 then(if 262144<Aim o+x.toNat then([],3)else dec 0 (o++BG x.toNat (o.getLastD 0)) r)else if Aim o=262144 then([],3)else dec (HP same o x) (o++[x]) r:=by rfl
def Aag(s:Bg)(hs:Aim s<=1000000000)(w:Ad):
 Bn prog 209 [Bj s] w fun v w'=>v=.tuple #[Bj (dec 0 [] s).1,U (((dec 0 [] s).2:Y):H)]/\Bf w w':=by
 refine Bw func209 Z ntmps209 Be Z ?_;refine(O 8) ?_;refine Li 0 Z Z underlying23 CD Z Z Z Z (by rfl) Bc ?_;rintro b1 w1 I a4 W;refine(O 14)<|Lo (fun((i,same,o,Q,wr):Y×Y×(Bg)×Ah×Ad)=>(i<=Aim s/\Bz.Ends same o/\Aim o<=262144/\dec same o (s.drop i)=dec 0 [] s/\Bp wr w.heap.size 5 1 Q (Aim o) (BI o)/\Bf w wr,[(0,Bj (s)),(4,Q),(5,U same),(6,U i)],wr,Aim s-i)) (0,0,([]),(.slice (X ⟨b1,0,Aa⟩) 0 0),w1) ?_ ?_
 .exact⟨BD _,Bz.Ends.zero _,BD _,Z,Bp.Agf (l:=[]) a4 I Z Bc,W⟩
 .rintro⟨i,same,o,Q,wr⟩⟨hi,K,bb,f,a,N⟩;obtain⟨q1,q2,q3⟩:=id K;refine(O 8)<|Zi (fun d=>?_) fun d=>?_
  .rw[PA d,sU]at f;have hc:=(s[i]).toNat_lt;refine(O 9)<|Zi (fun r=>?_) fun r=>?_
   .rw[Ai r]at f;subst r;obtain⟨b,o',ho⟩:=q3;have al:o.getLastD 0=b:=by rw[ho,show BG 4 b=BG 3 b++[b]from Z,<-Cq,List.getLastD_concat]
    rw[al]at f;obtain⟨g,a5,rest,rfl,bj,hg,bh,bc,bf⟩:=a.blk (by rw[EF];omega);have a6:Aim o=Aim o'+4:=by rw[ho,BA,Cm]
    refine(O 12)<|Zi (fun L=>?_) fun L=>?_
    .rw[Ai J]at f;refine(O 5∘BH) ?_;grind
    .rw[Ag J]at f;refine(O 7∘Gf) ?_;rintro h w2 a7 bl a8;refine(O 8) ?_;have bi:g≠h:=fun e=>by have:=hg.lt;omega
     refine Lo (fun((j,C):Y×Ad)=>(j<=(s[i]'d).toNat/\Bk C h 5 (BG j (.int .u8 (b.toNat:H))++BG ((s[i]'d).toNat-j) (.int .u8 0))/\Bf wr C,[(0,Bj (s)),(4,.slice (X ⟨g,0,Aa⟩) (Aim o) a5),(5,U ((4:Y):H)),(6,U i),(7,.slice (X ⟨h,0,Aa⟩) (s[i]'d).toNat (s[i]'d).toNat),(8,U j)],C,(s[i]'d).toNat-j)) (0,w2) ?_ ?_
     .grind
     .rintro⟨j,C⟩⟨hj,y,p⟩;refine(O 8)<|Zi (fun a0=>?_) fun a0=>?_
      .have a2:=hg.ext p
       have af:((BI o++rest).drop (Aim o-4)).take (min 4 (s[i].toNat-j))=BG (min 4 (s[i].toNat-j)) (.int .u8 (b.toNat:H)):=by
        rw[TH (by rw[EF];omega),WK (by rw[CK,EF];omega),ho,BA,Cm,RW];unfold BI;rw[DX,TH Bl,KX Bl,Ev,List.map_replicate,List.take_replicate];congr 1;omega
       have k:=a2.drew.Agv (Aim o-4) (min 4 (s[i].toNat-j));rw[af]at k;refine(O 5) ?_;have ai:Aim (BG (min 4 (s[i].toNat-j)) (Value.int .u8 (b.toNat:H)))=min 4 (s[i].toNat-j):=Cm;refine(Yr 12 (fun w'=>True) AB) fun hS=>(Gv [0,1,2]∘Yw 3 (he:=by exact fun _ _=>Wh underlying23 CD Z Z J)∘Gv [4,5,6,7]∘Yw 8 (he:=by exact fun _ _=>Wh underlying23 CD Z Z J)) ?_;refine Wl 9 _ Z Be Z Z underlying23 underlying23 CD Z Z (k) J (fun u hu=>by rw[cZ hu];rfl) (y.drew) Bx ?_;rintro D a1 aj;refine⟨AB,fun hS=>?_⟩;refine(Gv [10,11]∘Yd∘Cw 8 (U (((j+min 4 (s[i].toNat-j)):Y):H)) (e:=by exact Ar (Value.int .i64) (by rw[Cm]))) ?_;refine Lb ((j+min 4 (s[i].toNat-j)),D) ?_;have q:=Bv (p.trans (Bf.drew C)) aj (p.trans (Bf.drew C)).size Bx;refine⟨J,?_,q⟩;rw[ai,Hp Cm,List.replicate_append_replicate,<-Ge,RN Cm,List.drop_replicate,Nat.sub_sub]at a1;omega
      .obtain rfl:j=s[i].toNat:=J;rw[EP,TT,List.append_nil]at y;have T:=N.trans p;have G:=a.ext p;refine(O 5) ?_;refine Ie Z Z underlying23 CD Z Bc Z Z (T) (G) (Src.Agh underlying23 y.sl Bl (fun u hu=>by rw[cZ hu];rfl) Bc) CE J ?_;rintro S P n t _ _;refine(O 12)<|Lb ((i+1),0,(o++BG s[i].toNat b),S,P) ?_;refine⟨J,Bz.Ends.zero _,Bh,f,?_,t⟩;have e:BI (o++BG s[i].toNat b)=BI o++BG s[i].toNat (.int .u8 (b.toNat:H)):=by simp[BI]
       rw[e,BA,Cm];exact n
   .rw[Ag r]at f;obtain⟨A,c0,rfl,_,k⟩:=a.slice;refine(O 3)<|Ld (fun((m,D):Y×Ad)=>(m=HP same o s[i]/\Bf wr D,[(0,Bj (s)),(4,.slice A (Aim o) c0),(5,U m),(6,U i)],D)) ?_ ?_
    .refine(O 4)<|Nw 51 (fun h0=>?_) fun h0=>?_
     .have ba:0<Aim o:=J;obtain⟨ab,ao,rfl,_,B⟩:=k.at_ (by rw[EF];omega);have x:o.getLast? =X o[Aim o-1]:=by rw[dc,BN J]
      have a3:(BI o)[Aim o-1]? =X (.int .u8 ((o[Aim o-1]).toNat:H)):=by
       unfold BI;rw[DP,BN J,FO]
      refine(O 2∘Zq (by exact fun _=>EW underlying9 Z Z (BN (d)))∘O 5∘Zq (by exact fun _=>BZ (B _ _ a3))∘O 2∘QW.nil) fun nq=>Zi (fun hq=>?_) fun hq=>?_
      .have a9:s[i]=o[Aim o-1]:=Ll.1 hq
       have e:HP same o s[i]=same+1:=by
        unfold HP;rw[Ai ⟨h0,Bh⟩]
       refine(O 5∘Lm ((same+1),_)) ?_;exact⟨e.symm,Bf.drewN _ _⟩
      .have e:HP same o s[i]=1:=by
        unfold HP;rw[Ag];rintro⟨_,z⟩;rw[x]at z;injection z with z;exact hq (by rw[z])
       refine(O 3∘Lm (1,_)) ?_;exact⟨e.symm,Bf.drewN _ _⟩
     .refine(O 11∘QW.nil) fun nq=>(O 4∘Lm (1,_)) ?_;refine⟨?_,Bf.drewN _ _⟩;unfold HP;grind
    .rintro⟨m,D⟩⟨rfl,q⟩;have E:=a.ext q;have t:=N.trans q;refine(O 7)<|Zi (fun hf=>?_) fun hf=>?_
     .rw[Ai hf]at f;refine(O 5∘BH) ?_;grind
     .rw[Ag hf]at f;refine(O 6∘GZ t E) ?_;rintro _ S P n V _ _;refine(O 8)<|Lb ((i+1),(HP same o s[i]),(o++[s[i]]),S,P) ?_;refine⟨J,K.next r _,Bh,f,?_,V⟩;rw[Qv,BA,CJ];exact n
  .obtain rfl:i=Aim s:=J;rw[IK,ti]at f;obtain⟨A,c0,rfl,_,k⟩:=a.slice;refine(O 7)<|Zi (fun r=>?_) fun r=>?_
   .rw[Ai r]at f;refine(O 5∘BH) ?_;rw[<-f];exact⟨Z,N⟩
   .rw[Ag r]at f;refine(O 4∘Zv (DZ k)∘O 3∘BH) ?_;rw[<-f];exact⟨Z,N⟩
end
namespace Bz
def Ed:By->By->Prop
 |[],_=>True
 |_::_,[]=>False
 |x::a,y::b=>x.toNat<y.toNat∨(x=y/\Ed a b)
def QL:∀a:By,Ed a a
 |[]=>trivial
 |x::a=>.inr ⟨Z,QL a⟩
def US:∀a b:By,Ed a b∨Ed b a
 |[],_=>.inl AB
 |_::_,[]=>.inr AB
 |x::a,y::b=>by
  rcases TZ x.toNat y.toNat with h|h|h
  .exact .inl (.inl h)
  .have e:x=y:=Ll.1 h;rcases US a b with q|q
   .exact .inl (.inr ⟨e,q⟩)
   .exact .inr (.inr ⟨e.symm,q⟩)
  .exact .inr (.inl h)
def Pe:∀{a b:By},Ed a b->Ed b a->a=b
 |[],[],_,_=>rfl
 |[],_::_,_,h=>h.elim
 |_::_,[],h,_=>h.elim
 |x::a,y::b,h1,h2=>by
  rcases h1 with h1|⟨e,h1⟩
  .rcases h2 with h2|⟨e,h2⟩
   .omega
   .grind
  .subst e;rcases h2 with h2|⟨_,h2⟩
   .omega
   .rw[Pe h1 h2]
def YY:∀{a b c:By},Ed a b->Ed b c->Ed a c
 |[],_,_,_,_=>trivial
 |_::_,[],_,h,_=>h.elim
 |_::_,_::_,[],_,h=>h.elim
 |x::a,y::b,z::c,h1,h2=>by
  rcases h1 with h1|⟨e,h1⟩
  .rcases h2 with h2|⟨e,h2⟩
   .exact .inl J
   .subst e;exact .inl h1
  .subst e;rcases h2 with h2|⟨e,h2⟩
   .exact .inl h2
   .exact .inr ⟨e,YY h1 h2⟩
def jM:∀{a b:By} (k:Y),Aim a=Aim b->Ed a b->Ed (a.take k) (b.take k)
 |[],_,k,_,_=>by grind
 |_::_,[],_,h,_=>by grind
 |x::a,y::b,0,_,_=>trivial
 |x::a,y::b,k+1,hl,h=>by
  rcases h with h|⟨e,h⟩
  .exact .inl h
  .exact .inr ⟨e,jM k Bh h⟩
def aH{α:Type}(le:α->α->Prop)(d:∀a b,le a b->le b a->a=b)(refl:∀a,le a a):∀{a b:Ae α},a.Pairwise le->b.Pairwise le->a.Perm b->a=b
 |[],b,_,_,p=>(Nf.nil_eq p)
 |x::a,[],_,_,p=>by simp_all
 |x::a,y::b,ha,hb,p=>by
  have e:x=y:=by
   have g:x∈y::b:=p.subset Bl;have f:y∈x::a:=p.symm.subset Bl;rcases List.mem_cons.1 g with e|g
   .exact e
   .rcases List.mem_cons.1 f with e|f
    .grind
    .exact d _ _ ((Hn.1 ha).1 y f) ((Hn.1 hb).1 x g)
  subst e;rw[aH le d refl (Hn.1 ha).2 (Hn.1 hb).2 (Nf.cons_inv p)]
def Cu(s:By)(i:Y):By:=s.drop i++s.take i
def Rc(s:By)(i:Y)(h:i<=Aim s):Aim (Cu s i)=Aim s:=by unfold Cu;grind
def Aao(s:By):Cu s 0=s:=by simp[Cu]
def Re:By->By
 |[]=>[]
 |x::a=>a++[x]
def Hz(a:By):By:=match a.getLast? with
 |none=>[]
 |some x=>x::a.dropLast
def Rf(a:By)(x:AH):Hz (a++[x])=x::a:=by simp[Hz]
def mw(a:By):Hz (Re a)=a:=by
 cases a with
 |nil=>rfl
 |cons x a=>exact Rf a x
def Aap(a:By):Re (Hz a)=a:=by
 rcases TJ a with h|⟨b,x,h⟩
 .rw[h];rfl
 .rw[h,TG,Rf];rfl
def Vy(s:By){i:Y}(h:i<Aim s):Re (Cu s i)=Cu s (i+1):=by
 unfold Cu;rw[Ds h,FM];show s.drop (i+1)++s.take i++[s[i]]=_;simp
def Aal(s:By):Cu s (Aim s)=s:=by simp[Cu]
def Aaq(s:By){i:Y}(h:i<Aim s):Hz (Cu s i)=if i=0 then Cu s (Aim s-1)else Cu s (i-1):=by
 split
 .rename_i e;subst e;have:=Vy s (i:=Aim s-1) J;rw[show Aim s-1+1=Aim s by omega,Aal]at this;rw[Aao,<-this,mw];grind
 .have:=Vy s (i:=i-1) J;rw[show i-1+1=i by omega]at this;rw[<-this,mw]
def Ee(L:By):Bi:=(BE 256).flatMap fun b=>(BE (Aim L)).filter fun i=>decide ((L.getD i 0).toNat=b)
def gB{α:Type}(f:α->Y)(m:Y):∀l:Ae α,(l.filter fun x=>decide (f x<m+1)).Perm ((l.filter fun x=>decide (f x<m))++l.filter fun x=>decide (f x=m))
 |[]=>.nil
 |x::l=>by
  have ih:=gB f m l;simp only[LY];rcases TZ (f x) m with h|h|h
  .rw[Ai Bh,Ai (by simpa using h),Ag Bx,FM];simp_all
  .rw[Ai Bx,Ag Bx,Ai (by simpa using h)];exact(ih.cons x).trans List.perm_middle.symm
  .grind
def eM{α:Type}(f:α->Y)(l:Ae α):∀m,((BE m).flatMap fun b=>l.filter fun x=>decide (f x=b)).Perm (l.filter fun x=>decide (f x<m))
 |0=>by simp
 |m+1=>by
  rw[FV,Ia,List.flatMap_singleton];exact((eM f l m).append_right _).trans (gB f m l).symm
def Ti(L:By):(Ee L).Perm (BE (Aim L)):=by
 unfold Ee;refine(eM (fun i=>(L.getD i 0).toNat) (BE (Aim L)) 256).trans ?_;rw[Ww.2];intro i _;have:=(L.getD i 0).toNat_lt;grind
def Th(L:By):Aim (Ee L)=Aim L:=by rw[(Ti L).length_eq,GV]
def nw{L:By}{j:Y}(h:j<Aim L):(Ee L).getD j 0<Aim L:=by
 have a:j<Aim (Ee L):=by rw[Th];exact h
 rw[BX,BN a];exact CQ.1 ((Ti L).subset (BM a))
def bk(P:Bi)(L:By):Y->Y->By
 |0,_=>[]
 |t+1,p=>L.getD (P.getD p 0) 0::bk P L t (P.getD p 0)
def Xl(P:Bi)(L:By):∀t p,Aim (bk P L t p)=t
 |0,_=>rfl
 |t+1,p=>by simp[bk,Xl P L t]
def back(L:By)(row:Y):By:=bk (Ee L) L (Aim L) row
def Acu{R:Ae By}{L:By}{n:Y}(Q:∀r∈R,Aim r=n)(hL:L=R.map fun r=>r.getLastD 0)(h0:0<n)(I:R.Pairwise Ed)(hp:(R.map Hz).Perm R):
 ((Ee L).map fun i=>Hz (R.getD i []))=R:=by
 have p:Aim L=Aim R:=by rw[hL,DQ]
 have d:∀i,i<Aim L->∃a x,R.getD i []=a++[x]/\L.getD i 0=x/\Aim a+1=n:=fun i k=>by
  have g:i<Aim R:=J;have m:R.getD i []=R[i]:=by rw[BX,BN g];rfl
  have w:=Q R[i] (BM g);rcases TJ R[i]with h|⟨a,x,h⟩
  .grind
  .rw[TG]at h;refine⟨a,x,Bh,?_,Bh⟩;simp_all
 apply aH Ed (fun _ _=>Pe) QL ?_ I
 .refine((Ti L).map _).trans ?_
  have e:(BE (Aim L)).map (fun i=>Hz (R.getD i []))=R.map Hz:=by
   apply GU;intro j;rw[p];rcases Db j (Aim R)with h|h
   .simp_all
   .grind
  grind
 .unfold Ee;rw[List.map_flatMap,List.pairwise_flatMap];refine⟨fun b _=>?_,?_⟩
  .refine Mc.2 ?_;have V:((BE (Aim L)).filter fun i=>decide ((L.getD i 0).toNat=b)).Pairwise (·<·):=GS.filter _ WG;refine(List.pairwise_iff_forall_sublist.2 fun {i j} f=>?_)
   have D:i<j:=by
    have:=GS.sublist f V;simpa using this
   have k:=Le.1 (f.subset (Fa ..));have l:=Le.1 (f.subset (El _ (Fa ..)));obtain⟨G,B,m,w,e3⟩:=d i (CQ.1 k.1);obtain⟨K,A,o,E,W⟩:=d j (CQ.1 l.1)
   have T:B=A:=by
    have v:(L.getD i 0).toNat=b:=by simpa using k.2
    have t:(L.getD j 0).toNat=b:=by simpa using l.2
    rw[w]at v;rw[E]at t;exact Ll.1 (v.trans t.symm)
   rw[m,o,Rf,Rf];refine .inr ⟨T,?_⟩;have g:i<Aim R:=by have:=CQ.1 k.1;omega
   have q:j<Aim R:=by have:=CQ.1 l.1;omega
   have C:Ed (G++[B]) (K++[A]):=by
    have:=Ib.1 I i j g q D;rw[BX,BN g]at m;rw[BX,BN q]at o;simp only[Option.getD_some]at m o;rw[m,o]at this;exact this
   have:=jM (Aim G) Bh C;grind
  .refine GS.imp_of_mem ?_ (WG (n:=256));intro b c _ _ S x P y N;obtain⟨i,k,rfl⟩:=Ck.1 P;obtain⟨j,l,rfl⟩:=Ck.1 N;have k:=Le.1 k;have l:=Le.1 l;obtain⟨G,B,m,w,e3⟩:=d i (CQ.1 k.1);obtain⟨K,A,o,E,W⟩:=d j (CQ.1 l.1);have v:(L.getD i 0).toNat=b:=by simpa using k.2
   have t:(L.getD j 0).toNat=c:=by simpa using l.2
   rw[w]at v;rw[E]at t;rw[m,o,Rf,Rf];exact .inl J
def uG(a:By):(Re a).getLastD 0=a.headD 0:=by
 cases a with
 |nil=>rfl
 |cons x a=>simp[Re]
def dU{R:Ae By}{L:By}{n:Y}(x:∀r∈R,Aim r=n)(hL:L=R.map fun r=>r.getLastD 0)(h0:0<n)(o:R.Pairwise Ed)(w:(R.map Hz).Perm R)(s:By)(g:Aim s=n):
 ∀t i p,i+t=n->p<Aim L->R.getD p []=Cu s i->bk (Ee L) L t p=s.drop i
 |0,i,p,hi,_,_=>by
  rw[KX J];rfl
 |t+1,i,p,hi,hpl,hr=>by
  have hlen:Aim L=Aim R:=by rw[hL,DQ]
  have f:=Acu x hL h0 o w;have v:=nw hpl
  have A:Hz (R.getD ((Ee L).getD p 0) [])=R.getD p []:=by
   have h:((Ee L).map fun i=>Hz (R.getD i []))[p]? =R[p]?:=by rw[f]
   have d:p<Aim (Ee L):=by rw[Th];exact hpl
   rw[DP,BN d,FO]at h;have e:(Ee L).getD p 0=(Ee L)[p]:=by rw[BX,BN d];rfl
   rw[e,BX (l:=R) (i:=p),<-h];rfl
  have m:R.getD ((Ee L).getD p 0) []=Re (Cu s i):=by rw[<-hr,<-A,Aap]
  have a:i<Aim s:=J;rw[Vy s a]at m;rw[bk,dU x hL h0 o w s g t (i+1) _ J v m,Ds a];congr 1;have j:(Ee L).getD p 0<Aim R:=J
  have k:∀q,q<Aim R->L.getD q 0=(R.getD q []).getLastD 0:=fun q v=>by
   grind
  have y:=k _ j;rw[y,m,<-Vy s a,uG];unfold Cu;rw[Ds a];rfl
structure IsOrd(s:By)(o:Bi):Prop where
 perm:o.Perm (BE (Aim s))
 sorted:o.Pairwise fun i j=>Ed (Cu s i) (Cu s j)/\(Cu s i=Cu s j->i<j)
def IsOrd.one{s:By}{o g:Bi}(h:IsOrd s o)(k:IsOrd s g):o=g:=by
 refine aH (fun i j=>i=j∨(Ed (Cu s i) (Cu s j)/\(Cu s i=Cu s j->i<j))) (fun a b f d=>?_) (fun a=>.inl Z) (h.sorted.imp .inr) (k.sorted.imp .inr) (h.perm.trans k.perm.symm);rcases f with f|⟨f,m⟩
 .omega
 .rcases d with d|⟨d,l⟩
  .omega
  .have e:=Pe f d;grind
def IsOrd.lng{s:By}{o:Bi}(h:IsOrd s o):Aim o=Aim s:=by rw[h.perm.length_eq,GV]
def FG(s:By)(o:Bi):By:=o.map fun i=>s.getD ((if i=0 then Aim s else i)-1) 0
def Iz(o:Bi):Y:=o.idxOf 0
def Aam(s:By){i:Y}(h:i<Aim s):(Cu s i).getLastD 0=s.getD ((if i=0 then Aim s else i)-1) 0:=by
 unfold Cu;grind
def dK{s:By}{o:Bi}(h:IsOrd s o)(h0:s≠[]):Iz o<Aim s/\Aim (FG s o)=Aim s/\back (FG s o) (Iz o)=s:=by
 have a:0<Aim s:=Kg.2 h0;have k:∀i∈o,i<Aim s:=fun i l=>CQ.1 (h.perm.subset l);have n:Aim (FG s o)=Aim s:=by unfold FG;rw[DQ,h.lng]
 have p:0∈o:=h.perm.symm.subset (CQ.2 a);have d:Iz o<Aim o:=Qf p;refine⟨by rw[<-h.lng];exact d,n,?_⟩;unfold back;rw[n]
 have y:∀r∈o.map (Cu s),Aim r=Aim s:=fun r w=>by
  obtain⟨i,l,rfl⟩:=Ck.1 w;exact Rc s i (OB (k i l))
 have A:FG s o=(o.map (Cu s)).map fun r=>r.getLastD 0:=by
  unfold FG;rw[EE];exact Ju fun i l=>(Aam s (k i l)).symm
 have v:(o.map (Cu s)).Pairwise Ed:=Mc.2 (h.sorted.imp fun q=>q.1)
 have x:((o.map (Cu s)).map Hz).Perm (o.map (Cu s)):=by
  have t:=h.perm.map (Cu s);refine(t.map Hz).trans (Nf.trans ?_ t.symm);obtain⟨m,hm⟩:∃m,Aim s=m+1:=⟨Aim s-1,J⟩
  have e:((BE (Aim s)).map (Cu s)).map Hz=Cu s m::(BE m).map (Cu s):=by
   rw[EE];apply GU;intro j;rcases Db j (Aim s)with q|q
   .rw[DP,Nk q,FO];show X (Hz (Cu s j))=_;rw[Aaq s q];grind
   .grind
  rw[e,hm,FV,DX,Ma];exact(List.perm_append_singleton _ _).symm
 have f:(o.map (Cu s)).getD (Iz o) []=Cu s 0:=by
  rw[BX,DP,BN d];have g:o.idxOf 0<Aim o:=d;have B:o[o.idxOf 0]=0:=TN g;show Cu s (o[o.idxOf 0])=_;rw[B]
 have:=dU y A a v x s Z (Aim s) 0 (Iz o) J Bh f;grind
end Bz
namespace Bz
def jL:∀{a b:By} (c d:By),Aim a=Aim b->(Ed (a++c) (b++d)↔(Ed a b/\a≠b)∨(a=b/\Ed c d))
 |[],[],c,d,_=>by simp
 |[],_::_,_,_,h=>by simp at h
 |_::_,[],_,_,h=>by simp at h
 |x::a,y::b,c,d,h=>by
  have ih:=jL (a:=a) (b:=b) c d Bh;simp only[FM,Ed,Qc.injEq,ne_eq,ih];grind
def pre(s:By)(k i:Y):By:=(BE k).map fun t=>s.getD ((i+t)%Aim s) 0
def MG(s:By)(k i:Y):Aim (pre s k i)=k:=by simp[pre]
def QZ(s:By)(k m i:Y):pre s (k+m) i=pre s k i++pre s m ((i+k)%Aim s):=by
 unfold pre;rw[List.range_add,DX,EE];congr 1;apply Ju;intro t _;show s.getD ((i+(k+t))%Aim s) 0=_;congr 1;rw[Nat.mod_add_mod,No]
def Vk(s:By){i:Y}(h:i<Aim s):pre s (Aim s) i=Cu s i:=by
 apply GU;intro t;rcases Db t (Aim s)with q|q
 .unfold pre Cu;rw[DP,Nk q,FO,List.getElem?_append];split
  .rename_i a;rw[CK]at a;rw[TL,IP J,BX,BN J];rfl
  .rename_i a;rw[CK]at a ⊢
   have e:(i+t)%Aim s=t-(Aim s-i):=by
    rw[Nat.mod_eq_sub_mod J,IP J];omega
   grind
 .rw[IM (by rw[MG];exact q),IM (by rw[Rc s i J];exact q)]
def Iu(a b:By):Prop:=Ed a b/\a≠b
def YZ(a b:By):Iu a b∨a=b∨Iu b a:=by
 rcases Tu (a=b)with h|h
 .grind
 .rcases US a b with q|q
  .exact .inl ⟨q,h⟩
  .exact .inr (.inr ⟨q,fun e=>h e.symm⟩)
def jW{a:By}:¬Iu a a:=fun q=>q.2 Z
def jX{a b c:By}(h:Iu a b)(h2:Iu b c):Iu a c:=⟨YY h.1 h2.1,fun e=>by subst e;exact h.2 (Pe h.1 h2.1)⟩
def jV{a b:By}(c d:By)(h:Aim a=Aim b):Iu (a++c) (b++d)↔Iu a b∨(a=b/\Iu c d):=by
 unfold Iu;rw[jL c d h];constructor
 .grind
 .rintro(q|⟨rfl,q,f⟩)
  .exact⟨.inl q,fun e=>q.2 (Wt e h)⟩
  .simp_all
structure Rk(s:By)(k:Y)(rank:Bi):Prop where
 len:Aim rank=Aim s
 lt:∀i j,i<Aim s->j<Aim s->(rank.getD i 0<rank.getD j 0↔Iu (pre s k i) (pre s k j))
def Rk.eq{s:By}{k:Y}{rank:Bi}(h:Rk s k rank){i j:Y}(hi:i<Aim s)(a:j<Aim s):rank.getD i 0=rank.getD j 0↔pre s k i=pre s k j:=by
 have f:=h.lt i j hi a;have d:=h.lt j i a hi;constructor
 .intro e;rcases YZ (pre s k i) (pre s k j)with q|q|q
  .grind
  .exact q
  .grind
 .grind
def Aaf(s:By):Rk s 1 (s.map fun b=>b.toNat):=by
 refine⟨Bl,fun i j a d=>?_⟩
 have e:∀i,i<Aim s->(s.map fun b=>b.toNat).getD i 0=(s.getD i 0).toNat/\pre s 1 i=[s.getD i 0]:=fun i a=>by
  refine⟨?_,?_⟩
  .grind
  .simp[pre,IP a]
 rw[(e i a).1,(e j d).1,(e i a).2,(e j d).2];unfold Iu;simp only[Ed,and_true,ne_eq,Qc.injEq];grind
def Mt(rank:Bi)(b i j:Y):H:=
 if rank.getD i 0≠rank.getD j 0 then(rank.getD i 0:H)-rank.getD j 0
 else if rank.getD ((i+b)%Aim rank) 0≠rank.getD ((j+b)%Aim rank) 0 then(rank.getD ((i+b)%Aim rank) 0:H)-rank.getD ((j+b)%Aim rank) 0
 else(i:H)-j
structure Key(s:By)(K:Y)(rank:Bi)(b:Y):Prop where
 neg:∀i j,i<Aim s->j<Aim s->(Mt rank b i j<0↔Iu (pre s K i) (pre s K j)∨(pre s K i=pre s K j/\i<j))
 same:∀i j,i<Aim s->j<Aim s->((rank.getD i 0≠rank.getD j 0∨rank.getD ((i+b)%Aim rank) 0≠rank.getD ((j+b)%Aim rank) 0)↔pre s K i≠pre s K j)
def Rk.key0{s:By}{k:Y}{rank:Bi}(h:Rk s k rank):Key s k rank 0:=by
 have e:∀i,i<Aim s->(i+0)%Aim rank=i:=fun i a=>by rw[Jv,h.len,IP a]
 refine⟨fun i j a d=>?_,fun i j a d=>?_⟩
 .have g:=h.lt i j a d;have f:=h.eq a d;unfold Mt;grind
 .rw[e i a,e j d];have f:=h.eq a d;grind
def Rk.key2{s:By}{k:Y}{rank:Bi}(h:Rk s k rank):Key s (k+k) rank k:=by
 have f:∀i,i<Aim s->(i+k)%Aim s<Aim s:=fun i a=>Kk _ J;refine⟨fun i j a d=>?_,fun i j a d=>?_⟩
 .have o:=h.lt i j a d;have g:=h.eq a d;have n:=h.lt _ _ (f i a) (f j d);have l:=h.eq (f i a) (f j d);unfold Mt;rw[h.len,QZ,QZ,jV _ _ (by rw[MG,MG])];split
  .rename_i q;have:¬pre s k i=pre s k j:=fun e=>q (g.2 e);rw[<-o];constructor
   .omega
   .rintro((z|z)|z)
    .omega
    .grind
    .exact AK (Wt z.1 (by rw[MG,MG])) this
  .rename_i q;have e:pre s k i=pre s k j:=g.1 J;split
   .rename_i m;have p:¬pre s k ((i+k)%Aim s)=pre s k ((j+k)%Aim s):=fun e=>m (l.2 e);rw[<-n,e];constructor
    .grind
    .rintro((z|z)|z)
     .exact AK z jW
     .omega
     .simp_all
   .grind
 .rw[h.len,QZ,QZ];have g:=h.eq a d;have l:=h.eq (f i a) (f j d);constructor
  .rintro(q|q)e
   .exact q (g.2 (Wt e (by rw[MG,MG])))
   .exact q (l.2 (List.append_inj_right e (by rw[MG,MG])))
  .grind
structure Sd(s:By)(K:Y)(o:Bi):Prop where
 perm:o.Perm (BE (Aim s))
 sorted:o.Pairwise fun i j=>Iu (pre s K i) (pre s K j)∨(pre s K i=pre s K j/\i<j)
def Sd.lng{s:By}{K:Y}{o:Bi}(h:Sd s K o):Aim o=Aim s:=by rw[h.perm.length_eq,GV]
def Sd.lt{s:By}{K:Y}{o:Bi}(h:Sd s K o):∀i∈o,i<Aim s:=fun i a=>CQ.1 (h.perm.subset a)
def Sd.Aif{s:By}{K b:Y}{rank o:Bi}(hk:Key s K rank b)(d:o.Perm (BE (Aim s)))(h:∀i j (hi:i<Aim o) (hj:j<Aim o),i<j->¬Mt rank b o[j] o[i]<0):Sd s K o:=by
 refine⟨d,Ib.2 fun i j hi hj a=>?_⟩;have l:=h i j hi hj a;have g:=CQ.1 (d.subset (BM hi));have f:=CQ.1 (d.subset (BM hj));rw[hk.neg _ _ f g]at l
 have k:o[i]≠o[j]:=by
  have e:o.Nodup:=d.nodup_iff.2 Nn;exact Ib.1 e i j hi hj a
 rcases YZ (pre s K o[i]) (pre s K o[j])with q|q|q
 .grind
 .grind
 .grind
def FD(s:By)(K:Y)(o:Bi):Y->Y
 |0=>0
 |k+1=>FD s K o k+if pre s K (o.getD k 0)≠pre s K (o.getD (k+1) 0)then 1 else 0
def Xw(s:By)(K:Y)(o:Bi):∀k,FD s K o k<=k
 |0=>Bq _
 |k+1=>by
  have:=Xw s K o k;unfold FD;grind
def eI{s:By}{K:Y}{o:Bi}(h:Sd s K o)(a:Y):∀d,a+d<Aim o->FD s K o a<=FD s K o (a+d)/\(FD s K o a<FD s K o (a+d)↔pre s K (o.getD a 0)≠pre s K (o.getD (a+d) 0))
 |0,_=>⟨Bq _,Bl⟩
 |d+1,hd=>by
  obtain⟨i1,i2⟩:=eI h a d J
  have hs:∀i j,i<j->j<Aim o->Ed (pre s K (o.getD i 0)) (pre s K (o.getD j 0)):=fun i j f k=>by
   have:=Ib.1 h.sorted i j J k f;rw[BX,BN (by omega:i<Aim o),BX,BN k];rcases this with q|q
   .exact q.1
   .show Ed (pre s K o[i]) (pre s K o[j]);rw[q.1];exact QL _
  have e:FD s K o (a+(d+1))=FD s K o (a+d)+if pre s K (o.getD (a+d) 0)≠pre s K (o.getD (a+(d+1)) 0)then 1 else 0:=rfl;have l:=hs (a+d) (a+(d+1)) J hd;rw[e];split
  .rename_i q;refine⟨J,⟨fun _ z=>?_,fun _=>by omega⟩⟩
   have g:Ed (pre s K (o.getD a 0)) (pre s K (o.getD (a+d) 0)):=by
    rcases Jy d with z|z
    .grind
    .grind
   rw[z]at g;exact q (Pe l g|>fun e=>e)
  .grind
def Aae{s:By}{K:Y}{o next:Bi}(h:Sd s K o)(hl:Aim next=Aim s)(v:∀k,k<Aim o->next.getD (o.getD k 0) 0=FD s K o k):Rk s K next:=by
 refine⟨hl,fun i j p y=>?_⟩
 have m:∀i,i<Aim s->∃a,a<Aim o/\o.getD a 0=i:=fun i p=>by
  have x:i∈o:=h.perm.symm.subset (CQ.2 p);obtain⟨a,r,e⟩:=Hm.1 x;grind
 obtain⟨a,r,rfl⟩:=m i p;obtain⟨b,g,rfl⟩:=m j y;rw[v a r,v b g]
 have l:∀a b,a<=b->b<Aim o->(FD s K o a<=FD s K o b/\(FD s K o a<FD s K o b↔pre s K (o.getD a 0)≠pre s K (o.getD b 0)))/\Ed (pre s K (o.getD a 0)) (pre s K (o.getD b 0)):=fun a b f g=>by
  obtain⟨d,rfl⟩:∃d,b=a+d:=⟨b-a,J⟩;refine⟨eI h a d g,?_⟩;rcases Jy d with z|z
  .subst z;exact QL _
  .have:=Ib.1 h.sorted a (a+d) J g J;rw[BX,BN (by omega:a<Aim o),BX,BN g];rcases this with q|q
   .exact q.1
   .show Ed (pre s K o[a]) (pre s K o[a+d]);rw[q.1];exact QL _
 rcases TX a b with f|f
 .obtain⟨⟨w,t⟩,n⟩:=l a b f g;rw[t];exact⟨fun q=>⟨n,q⟩,fun q=>q.2⟩
 .obtain⟨⟨w,t⟩,n⟩:=l b a f r;constructor
  .omega
  .intro q;have:pre s K (o.getD b 0)≠pre s K (o.getD a 0):=fun e=>q.2 e.symm;exact AK (Pe q.1 n) q.2
def vG{s:By}{K:Y}{o:Bi}(h:Sd s K o)(v:Aim s<=K):IsOrd s o:=by
 refine⟨h.perm,?_⟩;refine GS.imp_of_mem ?_ h.sorted;intro i j k g a;have f:=h.lt i k;have d:=h.lt j g;obtain⟨m,rfl⟩:∃m,K=Aim s+m:=⟨K-Aim s,J⟩;rw[QZ,QZ,Vk s f,Vk s d,jV _ _ (by rw[Rc s i J,Rc s j J]),Nat.add_mod_right,Nat.add_mod_right,IP f,IP d]at a
 have more:Cu s i=Cu s j->pre s m i=pre s m j:=fun e=>by
  have n:pre s (Aim s) i=pre s (Aim s) j:=by rw[Vk s f,Vk s d,e]
  unfold pre;apply Ju;intro t _;have l:(pre s (Aim s) i)[t%Aim s]? =(pre s (Aim s) j)[t%Aim s]?:=by rw[n]
  have r:t%Aim s<Aim s:=Kk _ J;unfold pre at l;simp_all
 rcases a with(q|⟨e,q⟩)|⟨e,q⟩
 .exact⟨q.1,fun e=>absurd e q.2⟩
 .exact AK (more e) q.2
 .have p:=Wt e (by rw[Rc s i J,Rc s j J]);exact⟨by rw[p];exact QL _,fun _=>q⟩
end Bz
section
attribute [local irreducible] OW KW QW EX GW NV
open Bz
def Fw{k:AI}{l:Bi}{i:Y}(h:i<Aim l):(BC k l)[i]? =X (.int k ((l.getD i 0:Y):H)):=by
 unfold BC;grind
def Sl.at2{w:Ad}{B:Y}{A:Av AC}{xs:Bm}(h:Sl w B A xs)(hx:0<Aim xs):∃b o,A=X ⟨b,o,Aa⟩/\b<B/\∀W,Bf w W->∀j u,xs[j]? =X u->W.cell? ⟨b,o+j,Aa⟩=X u:=by
 obtain⟨b,o,f,a,_⟩:=h.at_ hx;refine⟨b,o,f,a,fun W d=>?_⟩;obtain⟨i,g,e,_,q⟩:=(h.ext d).at_ hx;grind
def NO(A:Av AC)(n c by_:Y):Bm:=[.slice A n c,U (by_:H)]
def YV(A:Av AC)(c e:Y)(rank:Bi)(i:Y)(hi:i<Aim rank)(n:Aim rank<=1000000000)(o:e<=1000000000)(C:Y)(w:Ad)(h:Sl w C A (BC .i64 rank)):
 Bn prog 263 [.agg (NO A (Aim rank) c e).toArray,U (i:H)] w fun v w'=>v=.tuple #[U ((rank.getD i 0:Y):H),U ((rank.getD ((i+e)%Aim rank) 0:Y):H)]/\Bf w w':=by
 have j:(i+e)%Aim rank<Aim rank:=Kk _ J;obtain⟨q,p,rfl,_,a⟩:=h.at2 (by rw[DF];omega);refine Bw func263 Z ntmps263 Be Z ?_;refine(O 2) ?_;refine DB Z Z Z ?_;rintro l k g d f;refine(O 6∘Zq (by exact fun _=>Bo (d.drewN _))∘O 2∘Zq (by exact fun _=>BZ (a _ (f.trans (Bf.drewN _ _)) _ _ (Fw hi)))∘O 1∘Zq (by exact fun _=>Bo (d.drewN _))∘O 2∘Zq (by exact fun _=>Bo (d.drewN _))∘O 2∘Zq (by exact fun _=>Bo (d.drewN _))∘O 3∘Zq (by exact fun _=>BZ (a _ (f.trans (Bf.drewN _ _)) _ _ (Fw j)))∘O 2∘QW.nil) fun m=>(BH) ?_;exact⟨Z,f.trans (Bf.drewN _ _)⟩
def sn(A:Av AC)(c e:Y)(rank:Bi)(i j:Y)(hi:i<Aim rank)(I:j<Aim rank)(y:Aim rank<=1000000000)(D:e<=1000000000)(hr:∀x∈rank,x<=1000000000)(C:Y)(w:Ad)(h:Sl w C A (BC .i64 rank)):
 Bn prog 265 [.agg (NO A (Aim rank) c e).toArray,U (i:H),U (j:H)] w fun v w'=>v=U (Mt rank e i j)/\Bf w w':=by
 have m:∀k,rank.getD k 0<=1000000000:=fun k=>by
  rw[BX];by_cases hk:k<Aim rank
  .simp_all
  .grind
 have V:=m i;have T:=m j;have S:=m ((i+e)%Aim rank);have Q:=m ((j+e)%Aim rank);refine Bw func265 Z ntmps265 (by rfl) Z ?_;refine(O 2) ?_;refine DB Z Z Z ?_;rintro rb G B l g;refine(O 4∘Zv (Cf l)∘O 1∘Zc (YV A c e rank i hi y D C G (h.ext g))) ?_;rintro _ E⟨rfl,f⟩;refine(O 8) ?_;have r:=l.ext f;have t:=g.trans f;refine(Zv (Cf r)∘O 1∘Zc (YV A c e rank j I y D C E (h.ext t))) ?_;rintro _ w3⟨rfl,n⟩;refine(O 15) ?_;have W:=t.trans n;generalize L:rank.getD i 0=a at V;generalize K:rank.getD j 0=cc at T;generalize q:rank.getD ((i+e)%Aim rank) 0=b at S;generalize o:rank.getD ((j+e)%Aim rank) 0=d at Q;have p:Mt rank e i j=if a≠cc then(a:H)-cc else if b≠d then(b:H)-d else(i:H)-j:=by unfold Mt;rw[L,K,q,o]
 rw[p];refine Zi (fun P=>?_) fun P=>?_
 .refine(O 7∘Bu) ?_;grind
 .refine(O 7)<|Zi (fun N=>?_) fun N=>?_
  .refine(O 7∘Bu) ?_;grind
  .refine(O 9∘Bu) ?_;grind
end
section
attribute [local irreducible] OW KW QW EX GW NV
open Go.Sort
section
variable{α:Type}[Inhabited α]{enc:α->Ah}{cf:α->α->H}
def Jb(enc:α->Ah)(d:Ap α):Bm:=d.toList.map enc
def HT(d:Ap α):Aim (Jb enc d)=d.size:=by simp[Jb]
def BQ{d:Ap α}{i:Y}(h:i<d.size):(Jb enc d)[i]? =X (enc d[i]!):=by
 unfold Jb;grind
def GM(d:Ap α)(i j:Y):(swp d i j).size=d.size:=by simp[swp]
def Aas(d:Ap α)(i j:Y):((Jb enc d).set i (enc d[j]!)).set j (enc d[i]!)=Jb enc (swp d i j):=by
 unfold Jb swp;simp
structure CmpAt(w0:Ad)(g f:Y)(rv:Ah)(enc:α->Ah)(cf:α->α->H):Prop where
 call:∀W x y,Mo w0 W [g]->Bn prog f [rv,enc x,enc y] W fun v W'=>v=U (cf x y)/\Bf W W'
 one:∀x,(enc x).oneCell'=Af
 body:∃fn:Func,prog.funcs[f]? =X fn
def Br(cf:α->α->H)(x y:α):Aw:=decide (cf x y<0)
structure RowAt(w0 w:Ad)(g:Y)(enc:α->Ah)(d:Ap α):Prop where
 bk:Bk w g 3 (Jb enc d)
 mo:Mo w0 w [g]
def RowAt.ext{w0 w w':Ad}{g:Y}{d:Ap α}(h:RowAt w0 w g enc d)(hx:Bf w w'):RowAt w0 w' g enc d:=⟨h.bk.ext hx,h.mo.trans (Mo.Age hx _)⟩
def RowAt.swapped{w0 w3 w5 w6:Ad}{g:Y}{d:Ap α}{i j:Y}(h:RowAt w0 w3 g enc d)(m5:Mo w3 w5 [g])(m6:Mo w5 w6 [g])(hb:Bk w6 g 3 (((Jb enc d).set i (enc d[j]!)).set j (enc d[i]!))):RowAt w0 w6 g enc (swp d i j):=
 ⟨by rw[<-Aas];omega,(h.mo.trans m5).trans m6⟩
def vv(lt:α->α->Aw){a j:Y}(d:Ap α)(h:¬a<j):insInner lt a j d=d:=by
 cases j with
 |zero=>rfl
 |succ j=>rw[insInner,Ag Bh]
def vr(lt:α->α->Aw){a j:Y}(d:Ap α)(h:a<j)(h2:lt d[j]! d[j-1]! =Aj):insInner lt a j d=d:=by
 obtain⟨j,rfl⟩:∃k,j=k+1:=⟨j-1,J⟩;rw[RW]at h2;rw[insInner,Ag Bh]
def vm(lt:α->α->Aw){a j:Y}(d:Ap α)(h:a<j)(h2:lt d[j]! d[j-1]! =Af):insInner lt a j d=insInner lt a (j-1) (swp d j (j-1)):=by
 obtain⟨j,rfl⟩:∃k,j=k+1:=⟨j-1,J⟩;rw[RW]at h2 ⊢;rw[insInner,Ai Bh]
def vy{r:Ad}{g f:Y}{D:Ah}(S:CmpAt r g f D enc cf)(d:Ap α)(a b:Y)(al:a<=b)(hb:b<=d.size)(hsz:d.size<=1000000000)(w:Ad)(h:RowAt r w g enc d):
 Bn prog 294 [.slice (X ⟨g,0,Aa⟩) d.size d.size,U (a:H),U (b:H),.func (.func f) #[D] #[]] w fun v w'=>v=.tuple #[]/\RowAt r w' g enc (insertionSort (Br cf) d a b)/\(insertionSort (Br cf) d a b).size=d.size:=by
 refine Bw func294 Z ntmps294 Be Z ?_;refine(O 7)<|Lo (fun((i,e,wr):Y×(Ap α)×Ad)=>(a+1<=i/\i<=b+1/\insOuter (Br cf) a b i e=insertionSort (Br cf) d a b/\e.size=d.size/\RowAt r wr g enc e,[(0,.slice (X ⟨g,0,Aa⟩) d.size d.size),(1,U a),(2,U b),(3,.func (.func f) #[D] #[]),(8,U i)],wr,b+1-i)) ((a+1),d,w) ?_ ?_
 .exact⟨Bq _,J,Z,Z,h⟩
 .rintro⟨i,e,wr⟩⟨ai,af,q,aj,hr⟩;rw[insOuter]at q;refine(O 7)<|Zi (fun y=>?_) fun y=>?_
  .rw[Ai y]at q;refine(O 9)<|Lo (fun((j,m,l):Y×(Ap α)×Ad)=>(j<=i/\insInner (Br cf) a j m=insInner (Br cf) a i e/\m.size=d.size/\RowAt r l g enc m,[(0,.slice (X ⟨g,0,Aa⟩) d.size d.size),(1,U a),(2,U b),(3,.func (.func f) #[D] #[]),(8,U i),(9,U j)],l,j)) (i,e,wr) ?_ ?_
   .grind
   .rintro⟨j,m,l⟩⟨hj,p,V,P⟩;have n:=P.ext (Bf.drew l);refine(O 2∘Yr 17 (fun w'=>RowAt r w' g enc m) n) fun o=>(Gv [0,1,2,3]) ?_;refine Kc 21 Z (fun I=>?_) (fun I=>?_)
    .refine(Gv [4,5,6,7]∘Yw 8 (he:=by exact fun _ C=>Bo C.bk (hi:=BQ J))∘Gv [9,10,11,12]∘Yw 13 (he:=by exact fun _ C=>Bo C.bk (hi:=BQ J))) ?_;refine GR 14 Z Be Z Z Z Z Z (S.call l.drew _ _ n.mo) ?_;rintro _ T⟨rfl,E⟩;refine⟨o.ext E,fun o=>?_⟩;refine(Gv [15,16]∘Yd) ?_;have N:=n.ext E;refine Zi (fun Q=>?_) fun Q=>?_
     .rw[vm _ _ I (AM Q)]at p;have ab:=HT (enc:=enc) m;have k:=N.ext (Bf.drew T);have o1:=S.one m[j-1]!;have o2:=S.one m[j]!;refine(O 3)<|Lc (fun(G:Ad)=>(RowAt r G g enc (swp m j (j-1)),[(0,.slice (X ⟨g,0,Aa⟩) d.size d.size),(1,U a),(2,U b),(3,.func (.func f) #[D] #[]),(8,U i),(9,U j)],G)) ?_ ?_
      .refine(Yr 18 (fun w'=>True) AB) fun o=>(Gv [0,1,2,3,4,5,6,7,8,10,11,12])<|Ye 9 13 ?_ ?_
       .refine(Jo 9 (he:=by exact Bo k.bk (hi:=BQ J))) fun o=>(Yo 13 (he:=by exact Bo k.bk (hi:=BQ J))) fun o=>(Gv [14]∘Yt 15 k.bk) ?_;rintro W B x;refine⟨AB,fun o=>?_⟩;refine(Gv [16]∘Yt 17 B) ?_;rintro K A t;refine⟨AB,fun o=>?_⟩;refine(Yd∘Lm K) ?_;exact k.swapped x t A
       .refine(Jo 13 (he:=by exact Bo k.bk (hi:=BQ J))) fun o=>(Yo 9 (he:=by exact Bo k.bk (hi:=BQ J))) fun o=>(Gv [14]∘Yt 15 k.bk) ?_;rintro W B x;refine⟨AB,fun o=>?_⟩;refine(Gv [16]∘Yt 17 B) ?_;rintro K A t;refine⟨AB,fun o=>?_⟩;refine(Yd∘Lm K) ?_;exact k.swapped x t A
      .rintro G L;refine(O 6)<|Lb ((j-1),(swp m j (j-1)),G) ?_;exact⟨J,p,by rw[GM];omega,L⟩
     .rw[vr _ _ I (AN Q)]at p;refine(O 7)<|Lb ((i+1),m,T) ?_;grind
    .rw[vv _ _ I]at p;refine(Gv [4,5,6,7,8,9,10,11,12,13,14,15,16]∘Yd∘O 8)<|Lb ((i+1),m,l.drew) ?_;grind
  .rw[Ag y]at q;refine(O 1) ?_;refine KW.done<|HS Z ?_;grind
end
section
variable{α:Type}[Inhabited α]{enc:α->Ah}{cf:α->α->H}
def Aaa{t:Ad}{g f:Y}{y:Ah}(C:CmpAt t g f y enc cf)(d:Ap α)(a b:Y)(K:a<b)(Q:b<=d.size)(hsz:d.size<=1000000000)(w:Ad)(h:RowAt t w g enc d):
 Bn prog 298 [.slice (X ⟨g,0,Aa⟩) d.size d.size,U (a:H),U (b:H),.func (.func f) #[y] #[]] w fun v w'=>v=.tuple #[]/\RowAt t w' g enc (reverseRange d a b)/\(reverseRange d a b).size=d.size:=by
 refine Bw func298 Z ntmps298 Be Z ?_;refine(O 12)<|Lo (fun((i,j,e,wr):Y×Y×(Ap α)×Ad)=>(j<b/\reverseLoop i j e=reverseRange d a b/\e.size=d.size/\RowAt t wr g enc e,[(0,.slice (X ⟨g,0,Aa⟩) d.size d.size),(1,U a),(2,U b),(3,.func (.func f) #[y] #[]),(8,U i),(9,U j)],wr,b-i)) (a,(b-1),d,w) ?_ ?_
 .exact⟨J,Z,Z,h⟩
 .rintro⟨i,j,e,wr⟩⟨P,l,I,E⟩;rw[reverseLoop]at l;refine(O 7)<|Zi (fun p=>?_) fun p=>?_
  .rw[Ai p]at l;have N:=C.one e[j]!;have L:=C.one e[i]!;have G:=HT (enc:=enc) e;have k:=E.ext (Bf.drew wr);refine(O 3)<|Lc (fun(x:Ad)=>(RowAt t x g enc (swp e (i) (j)),[(0,.slice (X ⟨g,0,Aa⟩) d.size d.size),(1,U a),(2,U b),(3,.func (.func f) #[y] #[]),(8,U i),(9,U j)],x)) ?_ ?_
   .refine(Yr 16 (fun w'=>True) AB) fun m=>(Gv [0,1,2,3,4,5,6,8,9,10])<|Ye 7 11 ?_ ?_
    .refine(Jo 7 (he:=by exact Bo k.bk (hi:=BQ J))) fun m=>(Yo 11 (he:=by exact Bo k.bk (hi:=BQ J))) fun m=>(Gv [12]∘Yt 13 k.bk) ?_;rintro D r o;refine⟨AB,fun m=>?_⟩;refine(Gv [14]∘Yt 15 r) ?_;rintro A q n;refine⟨AB,fun m=>?_⟩;refine(Yd∘Lm A) ?_;exact k.swapped o n q
    .refine(Jo 11 (he:=by exact Bo k.bk (hi:=BQ J))) fun m=>(Yo 7 (he:=by exact Bo k.bk (hi:=BQ J))) fun m=>(Gv [12]∘Yt 13 k.bk) ?_;rintro D r o;refine⟨AB,fun m=>?_⟩;refine(Gv [14]∘Yt 15 r) ?_;rintro A q n;refine⟨AB,fun m=>?_⟩;refine(Yd∘Lm A) ?_;exact k.swapped o n q
   .rintro x B;refine(O 12)<|Lb ((i+1),(j-1),(swp e i j),x) ?_;exact⟨J,l,by rw[GM];omega,B⟩
  .rw[Ag p]at l;refine(O 1) ?_;refine KW.done<|HS Z ?_;grind
def KD(lt:α->α->Aw)(hi first root:Y)(e:Ap α):Y:=if 2*root+1+1<hi/\lt e[first+(2*root+1)]! e[first+(2*root+1)+1]! =Af then 2*root+1+1 else 2*root+1
def vM{lt:α->α->Aw}{hi first a:Y}{e:Ap α}(h:2*a+1<hi):a<KD lt hi first a e/\KD lt hi first a e<hi:=by
 unfold KD;grind
def Aca{lt:α->α->Aw}{hi first a:Y}{e:Ap α}(h:2*a+1<hi):siftDown lt hi first a e=if lt e[first+a]! e[first+KD lt hi first a e]! =Af then siftDown lt hi first (KD lt hi first a e) (swp e (first+a) (first+KD lt hi first a e))else e:=by
 rw[siftDown,dif_neg J];unfold KD;by_cases q:2*a+1+1<hi/\lt e[first+(2*a+1)]! e[first+(2*a+1)+1]! =Af
 .grind
 .grind
def Acb{lt:α->α->Aw}{hi first a:Y}{e:Ap α}(h:hi<=2*a+1):siftDown lt hi first a e=e:=by
 rw[siftDown,AQ h]
def mY{q:Ad}{g f:Y}{C:Ah}(G:CmpAt q g f C enc cf)(N:Y)(d:Ap α)(n hi first:Y)(hN:N=d.size)(hb:first+hi<=d.size)(af:n<=hi)(hsz:d.size<=1000000000)(w:Ad)(h:RowAt q w g enc d):
 Bn prog 311 [.slice (X ⟨g,0,Aa⟩) N N,U (n:H),U (hi:H),U (first:H),.func (.func f) #[C] #[]] w fun v w'=>v=.tuple #[]/\RowAt q w' g enc (siftDown (Br cf) hi first n d)/\(siftDown (Br cf) hi first n d).size=d.size:=by
 subst hN;refine Bw func311 Z ntmps311 Be Z ?_;refine(O 6)<|Lo (fun((a,e,wr):Y×(Ap α)×Ad)=>(a<=hi/\siftDown (Br cf) hi first a e=siftDown (Br cf) hi first n d/\e.size=d.size/\RowAt q wr g enc e,[(0,.slice (X ⟨g,0,Aa⟩) d.size d.size),(1,U n),(2,U hi),(3,U first),(4,.func (.func f) #[C] #[]),(10,U a)],wr,hi-a)) (n,d,w) ?_ ?_
 .grind
 .rintro⟨a,e,wr⟩⟨ab,k,aj,hr⟩;refine(O 15)<|Zi (fun K=>?_) fun K=>?_
  .rw[Acb J]at k;refine(O 1) ?_;refine KW.done<|HS Z ?_;grind
  .have hk:=vM (lt:=Br cf) (first:=first) (e:=e) (show 2*a+1<hi by omega);rw[Aca J]at k;have i:=hr.ext (Bf.drew wr);refine(O 3)<|Ld (fun((c,p):Y×Ad)=>(c=KD (Br cf) hi first a e/\RowAt q p g enc e,[(0,.slice (X ⟨g,0,Aa⟩) d.size d.size),(1,U n),(2,U hi),(3,U first),(4,.func (.func f) #[C] #[]),(10,U a),(11,U c)],p)) ?_ ?_
   .refine(Yr 22 (fun w'=>RowAt q w' g enc e) i) fun l=>(Gv [0,1,2,3,4]) ?_;refine Kc 23 Z (fun T=>?_) (fun T=>?_)
    .refine(Gv [5,6,7,8,9,10]∘Yw 11 (he:=by exact fun _ j=>Bo j.bk (hi:=BQ J))∘Gv [12,13,14,15,16,17]∘Yw 18 (he:=by exact fun _ j=>Bo j.bk (hi:=BQ J))) ?_;refine GR 19 Z Be Z Z Z Z Z (G.call wr.drew _ _ i.mo) ?_;rintro _ p⟨rfl,r⟩;refine⟨l.ext r,fun l=>?_⟩;refine(Gv [20,21]∘Yd)<|Zi (fun t=>?_) fun t=>?_
     .have o:KD (Br cf) hi first a e=2*a+1+1:=Ai ⟨T,AM t⟩;refine(O 5∘Lm ((2*a+1+1),p)) ?_;exact⟨o.symm,i.ext r⟩
     .have o:KD (Br cf) hi first a e=2*a+1:=Ag fun z=>t (AO z.2);refine(O 1∘Lm ((2*a+1),p)) ?_;exact⟨o.symm,i.ext r⟩
    .have o:KD (Br cf) hi first a e=2*a+1:=Ag fun z=>T z.1;refine(Gv [5,6,7,8,9,10,11,12,13,14,15,16,17,18,19,20,21]∘Yd∘O 2∘Lm ((2*a+1),_)) ?_;grind
   .rintro⟨c,p⟩⟨S,Q⟩;rw[<-S]at k hk;have m:=Q.ext (Bf.drew p);refine(O 2∘Yr 16 (fun w'=>RowAt q w' g enc e) m) fun l=>(Gv [0,1,2,3,4,5]∘Yw 6 (he:=by exact fun _ j=>Bo j.bk (hi:=BQ J))∘Gv [7,8,9,10,11]∘Yw 12 (he:=by exact fun _ j=>Bo j.bk (hi:=BQ J))) ?_;refine GR 13 Z Be Z Z Z Z Z (G.call p.drew _ _ m.mo) ?_;rintro _ W⟨rfl,D⟩;refine⟨l.ext D,fun l=>?_⟩;refine(Gv [14,15]∘Yd) ?_;have P:=m.ext D;refine Zi (fun t=>?_) fun t=>?_
    .rw[Ag (show ¬Br cf e[first+a]! e[first+c]! =Af from fun z=>t (AO z))]at k;refine Gd<|HS Z ?_;grind
    .rw[Ai (show Br cf e[first+a]! e[first+c]! =Af from AM (Dm.1 t))]at k;have o1:=G.one e[first+c]!;have o2:=G.one e[first+a]!;have ai:=HT (enc:=enc) e;have i:=P.ext (Bf.drew W);refine(O 2)<|Lc (fun(E:Ad)=>(RowAt q E g enc (swp e (first+a) (first+c)),[(0,.slice (X ⟨g,0,Aa⟩) d.size d.size),(1,U n),(2,U hi),(3,U first),(4,.func (.func f) #[C] #[]),(10,U a),(11,U c)],E)) ?_ ?_
     .refine(Yr 24 (fun w'=>True) AB) fun l=>(Gv [0,1,2,3,4,5,6,7,8,9,10,11,12,14,15,16,17,18])<|Ye 13 19 ?_ ?_
      .refine(Jo 13 (he:=by exact Bo i.bk (hi:=BQ J))) fun l=>(Yo 19 (he:=by exact Bo i.bk (hi:=BQ J))) fun l=>(Gv [20]∘Yt 21 i.bk) ?_;rintro V B y;refine⟨AB,fun l=>?_⟩;refine(Gv [22]∘Yt 23 B) ?_;rintro I A x;refine⟨AB,fun l=>?_⟩;refine(Yd∘Lm I) ?_;exact i.swapped y x A
      .refine(Jo 19 (he:=by exact Bo i.bk (hi:=BQ J))) fun l=>(Yo 13 (he:=by exact Bo i.bk (hi:=BQ J))) fun l=>(Gv [20]∘Yt 21 i.bk) ?_;rintro V B y;refine⟨AB,fun l=>?_⟩;refine(Gv [22]∘Yt 23 B) ?_;rintro I A x;refine⟨AB,fun l=>?_⟩;refine(Yd∘Lm I) ?_;exact i.swapped y x A
     .rintro E L;refine(O 5)<|Lb (c,(swp e (first+a) (first+c)),E) ?_;exact⟨J,k,by rw[GM];omega,L⟩
def va{A:Ad}{g f:Y}{C:Ah}(K:CmpAt A g f C enc cf)(N:Y)(d:Ap α)(a b:Y)(hN:N=d.size)(al:a<b)(hb:b<=d.size)(hsz:d.size<=1000000000)(w:Ad)(h:RowAt A w g enc d):
 Bn prog 295 [.slice (X ⟨g,0,Aa⟩) N N,U (a:H),U (b:H),.func (.func f) #[C] #[]] w fun v w'=>v=.tuple #[]/\RowAt A w' g enc (heapSort (Br cf) d a b)/\(heapSort (Br cf) d a b).size=d.size:=by
 subst hN;refine Bw func295 Z ntmps295 Be Z ?_;refine(O 25)<|Lo (fun((i,e,wr):H×(Ap α)×Ad)=>((∃k:Y,i=(k:H)-1/\k<=(b-a-1)/2+1/\heapPop (Br cf) a (b-a) (heapBuild (Br cf) (b-a) a k e)=heapSort (Br cf) d a b)/\e.size=d.size/\RowAt A wr g enc e,[(0,.slice (X ⟨g,0,Aa⟩) d.size d.size),(1,U a),(2,U b),(3,.func (.func f) #[C] #[]),(8,U a),(9,U ((0:Y):H)),(10,U (((b-a):Y):H)),(11,U (i:H))],wr,(i+1).toNat)) ((((b-a-1)/2:Y):H),d,w) ?_ ?_
 .exact⟨⟨_,J,Bq _,Z⟩,Z,h⟩
 .rintro⟨i,e,wr⟩⟨⟨k,aj,hk,B⟩,T,hr⟩;refine(O 6)<|Zi (fun E=>?_) fun E=>?_
  .obtain⟨j,rfl⟩:=Fq E;obtain rfl:k=j+1:=J;rw[heapBuild]at B;refine(O 9∘Zc (mY K d.size e j (b-a) a T.symm J J J wr hr)) ?_;rintro _ y⟨rfl,D,ab⟩;refine(O 7)<|Lb (((j:H)-1),(siftDown (Br cf) (b-a) a j e),y) ?_;grind
  .obtain rfl:k=0:=J;rw[heapBuild]at B;refine(O 8)<|Lo (fun((I,m,y):H×(Ap α)×Ad)=>((∃k:Y,I=(k:H)-1/\k<=b-a/\heapPop (Br cf) a k m=heapSort (Br cf) d a b)/\m.size=d.size/\RowAt A y g enc m,[(0,.slice (X ⟨g,0,Aa⟩) d.size d.size),(1,U a),(2,U b),(3,.func (.func f) #[C] #[]),(8,U a),(9,U ((0:Y):H)),(12,U (I:H))],y,(I+1).toNat)) (((b-a-1:Y):H),e,wr) ?_ ?_
   .grind
   .rintro⟨I,m,y⟩⟨⟨k,V,ai,r⟩,W,D⟩;refine(O 6)<|Zi (fun n=>?_) fun n=>?_
    .obtain⟨j,rfl⟩:=Fq n;obtain rfl:k=j+1:=J;rw[heapPop]at r;have o1:=K.one m[a+j]!;have o2:=K.one m[a]!;have af:=HT (enc:=enc) m;have l:=D.ext (Bf.drew y);refine(O 4)<|Lc (fun(G:Ad)=>(RowAt A G g enc (swp m (a) (a+j)),[(0,.slice (X ⟨g,0,Aa⟩) d.size d.size),(1,U a),(2,U b),(3,.func (.func f) #[C] #[]),(8,U a),(9,U ((0:Y):H)),(12,U j)],G)) ?_ ?_
     .refine(Yr 20 (fun w'=>True) AB) fun o=>(Gv [0,1,2,3,4,5,6,7,8,9,10,12,13,14])<|Ye 11 15 ?_ ?_
      .refine(Jo 11 (he:=by exact Bo l.bk (hi:=BQ J))) fun o=>(Yo 15 (he:=by exact Bo l.bk (hi:=BQ J))) fun o=>(Gv [16]∘Yt 17 l.bk) ?_;rintro w5 x q;refine⟨AB,fun o=>?_⟩;refine(Gv [18]∘Yt 19 x) ?_;rintro L t p;refine⟨AB,fun o=>?_⟩;refine(Yd∘Lm L) ?_;exact l.swapped q p t
      .refine(Jo 15 (he:=by exact Bo l.bk (hi:=BQ J))) fun o=>(Yo 11 (he:=by exact Bo l.bk (hi:=BQ J))) fun o=>(Gv [16]∘Yt 17 l.bk) ?_;rintro w5 x q;refine⟨AB,fun o=>?_⟩;refine(Gv [18]∘Yt 19 x) ?_;rintro L t p;refine⟨AB,fun o=>?_⟩;refine(Yd∘Lm L) ?_;exact l.swapped q p t
     .rintro G S;refine(O 6∘Zc (mY K d.size (swp m a (a+j)) 0 j a (by rw[GM];omega) (by rw[GM];omega) J (by rw[GM];omega) G S)) ?_;rintro _ w8⟨rfl,Q,P⟩;refine(O 7)<|Lb (((j:H)-1),(siftDown (Br cf) j a 0 (swp m a (a+j))),w8) ?_;exact⟨⟨j,Z,J,r⟩,P.trans (by rw[GM];omega),Q⟩
    .obtain rfl:k=0:=J;rw[heapPop]at r;refine(O 1) ?_;refine KW.done<|HS Z ?_;grind
end
section
variable{α:Type}[Inhabited α]{enc:α->Ah}{cf:α->α->H}
def aw(p:α->Aw){d:Ap α}{j i:Y}(h:i<=j)(a:p d[i]! =Af):scanUp p d j i=scanUp p d j (i+1):=by
 rw[scanUp,Ai Bh]
def Ro(p:α->Aw){d:Ap α}{j i:Y}(h:¬(i<=j/\p d[i]! =Af)):scanUp p d j i=i:=by
 rw[scanUp,Ag Bh]
def av(p:α->Aw){d:Ap α}{j i:Y}(h:i<=j)(e:0<j)(a:p d[j]! =Af):scanDown p d i j=scanDown p d i (j-1):=by
 obtain⟨j,rfl⟩:∃k,j=k+1:=⟨j-1,J⟩;rw[scanDown,Ai Bh];rfl
def Rm(p:α->Aw){d:Ap α}{j i:Y}(h:¬(i<=j/\p d[j]! =Af)):scanDown p d i j=j:=by
 cases j with
 |zero=>rfl
 |succ j=>rw[scanDown,Ag Bh]
def yL{D:Ad}{g f:Y}{L:Ah}(hc:CmpAt D g f L enc cf)(N:Y)(d:Ap α)(a b k:Y)(hN:N=d.size)(a9:a<=k)(a4:k<b)(hb:b<=d.size)(hsz:d.size<=1000000000)(w:Ad)(h:RowAt D w g enc d):
 Bn prog 300 [.slice (X ⟨g,0,Aa⟩) N N,U (a:H),U (b:H),U (k:H),.func (.func f) #[L] #[]] w fun v w'=>v=U (((partitionEqual (Br cf) d a b k).1:Y):H)/\RowAt D w' g enc (partitionEqual (Br cf) d a b k).2/\(partitionEqual (Br cf) d a b k).2.size=d.size:=by
 subst hN;refine Bw func300 Z ntmps300 Be Z ?_;have o1:=hc.one d[k]!;have o2:=hc.one d[a]!;have a0:=HT (enc:=enc) d;have l:=h.ext (Bf.drew w);refine(O 5)<|Lc (fun(w1:Ad)=>(RowAt D w1 g enc (swp d (a) (k)),[(0,.slice (X ⟨g,0,Aa⟩) d.size d.size),(1,U a),(2,U b),(3,U k),(4,.func (.func f) #[L] #[])],w1)) ?_ ?_
 .refine(Yr 16 (fun w'=>True) AB) fun m=>(Gv [0,1,2,3,4,5,6,8,9,10])<|Ye 7 11 ?_ ?_
  .refine(Jo 7 (he:=by exact Bo l.bk (hi:=BQ J))) fun m=>(Yo 11 (he:=by exact Bo l.bk (hi:=BQ J))) fun m=>(Gv [12]∘Yt 13 l.bk) ?_;rintro w5 t q;refine⟨AB,fun m=>?_⟩;refine(Gv [14]∘Yt 15 t) ?_;rintro S r p;refine⟨AB,fun m=>?_⟩;refine(Yd∘Lm S) ?_;exact l.swapped q p r
  .refine(Jo 11 (he:=by exact Bo l.bk (hi:=BQ J))) fun m=>(Yo 7 (he:=by exact Bo l.bk (hi:=BQ J))) fun m=>(Gv [12]∘Yt 13 l.bk) ?_;rintro w5 t q;refine⟨AB,fun m=>?_⟩;refine(Gv [14]∘Yt 15 t) ?_;rintro S r p;refine⟨AB,fun m=>?_⟩;refine(Yd∘Lm S) ?_;exact l.swapped q p r
 .rintro w1 ao;have ai:=GM d a k;refine(O 11)<|Lo (fun((i,j,e,wr):Y×Y×(Ap α)×Ad)=>(a+1<=i/\i<=j+2/\j<b/\partEqLoop (Br cf) a i j e=partitionEqual (Br cf) d a b k/\e.size=d.size/\RowAt D wr g enc e,[(0,.slice (X ⟨g,0,Aa⟩) d.size d.size),(1,U a),(2,U b),(3,U k),(4,.func (.func f) #[L] #[]),(11,U i),(12,U j)],wr,j+1-i)) ((a+1),(b-1),(swp d a k),w1) ?_ ?_
  .exact⟨Bq _,J,J,Z,ai,ao⟩
  .rintro⟨i,j,e,wr⟩⟨a7,a6,a5,o,a8,hr⟩;rw[partEqLoop_eq]at o;have af:=scanUp_ge (fun x=>!Br cf e[a]! x) e j i;have ab:=scanDown_le (fun x=>Br cf e[a]! x) e (scanUp (fun x=>!Br cf e[a]! x) e j i) j;refine(O 2)<|Lc (fun((A,w2):Y×Ad)=>(A=scanUp (fun x=>!Br cf e[a]! x) e (j) (i)/\RowAt D w2 g enc e,[(0,.slice (X ⟨g,0,Aa⟩) d.size d.size),(1,U a),(2,U b),(3,U k),(4,.func (.func f) #[L] #[]),(11,U (((A):Y):H)),(12,U (((j):Y):H))],w2)) ?_ ?_
   .refine(O 1)<|Lo (fun((K,E):Y×Ad)=>(i<=K/\scanUp (fun x=>!Br cf e[a]! x) e (j) (K)=scanUp (fun x=>!Br cf e[a]! x) e (j) (i)/\RowAt D E g enc e,[(0,.slice (X ⟨g,0,Aa⟩) d.size d.size),(1,U a),(2,U b),(3,U k),(4,.func (.func f) #[L] #[]),(11,U (((K):Y):H)),(12,U (((j):Y):H))],E,j+1-K)) (i,wr) ?_ ?_
    .grind
    .rintro⟨K,E⟩⟨C,B,T⟩;have n:=T.ext (Bf.drew E);refine(O 2∘Yr 17 (fun w'=>RowAt D w' g enc e) n) fun m=>(Gv [0,1,2,3]) ?_;refine Kc 34 Z (fun W=>?_) (fun W=>?_)
     .refine(Gv [4,5,6,7]∘Yw 8 (he:=by exact fun _ y=>Bo y.bk (hi:=BQ J))∘Gv [9,10,11]∘Yw 12 (he:=by exact fun _ y=>Bo y.bk (hi:=BQ J))) ?_;refine GR 13 Z Be Z Z Z Z Z (hc.call E.drew _ _ n.mo) ?_;rintro _ v3⟨rfl,G⟩;refine⟨m.ext G,fun m=>?_⟩;refine(Gv [14,15,16]∘Yd) ?_;have I:=n.ext G;refine Zi (fun hq=>?_) fun hq=>?_
      .rw[aw (fun x=>!Br cf e[a]! x) W (show(!decide (cf e[a]! e[K]!<0))=Af by grind)]at B;refine(O 8)<|Lb ((K+1),v3) ?_;exact⟨J,B,I⟩
      .rw[Ro (fun x=>!Br cf e[a]! x) (fun z=>hq (fun hh=>by have z2:(!decide (cf e[a]! e[K]!<0))=Af:=z.2;grind))]at B;refine(O 1∘Lm (K,v3)) ?_;exact⟨B,I⟩
     .rw[Ro (fun x=>!Br cf e[a]! x) (fun z=>W z.1)]at B;refine(Gv [4,5,6,7,8,9,10,11,12,13,14,15,16]∘Yd∘O 2∘Lm (K,_)) ?_;exact⟨B,n⟩
   .rintro⟨A,w2⟩⟨a2,a3⟩;rw[<-a2]at o af ab;refine(O 1)<|Lc (fun((Q,w3):Y×Ad)=>(Q=scanDown (fun x=>Br cf e[a]! x) e (A) (j)/\RowAt D w3 g enc e,[(0,.slice (X ⟨g,0,Aa⟩) d.size d.size),(1,U a),(2,U b),(3,U k),(4,.func (.func f) #[L] #[]),(11,U (((A):Y):H)),(12,U (((Q):Y):H))],w3)) ?_ ?_
    .refine(O 1)<|Lo (fun((P,E):Y×Ad)=>(P<=j/\scanDown (fun x=>Br cf e[a]! x) e (A) (P)=scanDown (fun x=>Br cf e[a]! x) e (A) (j)/\RowAt D E g enc e,[(0,.slice (X ⟨g,0,Aa⟩) d.size d.size),(1,U a),(2,U b),(3,U k),(4,.func (.func f) #[L] #[]),(11,U (((A):Y):H)),(12,U (((P):Y):H))],E,P)) (j,w2) ?_ ?_
     .grind
     .rintro⟨P,E⟩⟨C,B,T⟩;have n:=T.ext (Bf.drew E);refine(O 2∘Yr 16 (fun w'=>RowAt D w' g enc e) n) fun m=>(Gv [0,1,2,3]) ?_;refine Kc 53 Z (fun W=>?_) (fun W=>?_)
      .refine(Gv [4,5,6,7]∘Yw 8 (he:=by exact fun _ y=>Bo y.bk (hi:=BQ J))∘Gv [9,10,11]∘Yw 12 (he:=by exact fun _ y=>Bo y.bk (hi:=BQ J))) ?_;refine GR 13 Z Be Z Z Z Z Z (hc.call E.drew _ _ n.mo) ?_;rintro _ v3⟨rfl,G⟩;refine⟨m.ext G,fun m=>?_⟩;refine(Gv [14,15]∘Yd) ?_;have I:=n.ext G;refine Zi (fun hq=>?_) fun hq=>?_
       .rw[av (fun x=>Br cf e[a]! x) W J (AM hq)]at B;refine(O 8)<|Lb ((P-1),v3) ?_;exact⟨J,B,I⟩
       .rw[Rm (fun x=>Br cf e[a]! x) (fun z=>hq (AO z.2))]at B;refine(O 1∘Lm (P,v3)) ?_;exact⟨B,I⟩
      .rw[Rm (fun x=>Br cf e[a]! x) (fun z=>W z.1)]at B;refine(Gv [4,5,6,7,8,9,10,11,12,13,14,15]∘Yd∘O 2∘Lm (P,_)) ?_;exact⟨B,n⟩
    .rintro⟨Q,w3⟩⟨a1,al⟩;rw[<-a1]at o ab;refine(O 7)<|Zi (fun V=>?_) fun V=>?_
     .rw[Ai V]at o;refine(O 6∘Bu) ?_;grind
     .rw[Ag V]at o;have o1:=hc.one e[Q]!;have o2:=hc.one e[A]!;have a0:=HT (enc:=enc) e;have l:=al.ext (Bf.drew w3);refine(O 2)<|Lc (fun(w7:Ad)=>(RowAt D w7 g enc (swp e (A) (Q)),[(0,.slice (X ⟨g,0,Aa⟩) d.size d.size),(1,U a),(2,U b),(3,U k),(4,.func (.func f) #[L] #[]),(11,U (((A):Y):H)),(12,U (((Q):Y):H))],w7)) ?_ ?_
      .refine(Yr 16 (fun w'=>True) AB) fun m=>(Gv [0,1,2,3,4,5,6,8,9,10])<|Ye 7 11 ?_ ?_
       .refine(Jo 7 (he:=by exact Bo l.bk (hi:=BQ J))) fun m=>(Yo 11 (he:=by exact Bo l.bk (hi:=BQ J))) fun m=>(Gv [12]∘Yt 13 l.bk) ?_;rintro w5 t q;refine⟨AB,fun m=>?_⟩;refine(Gv [14]∘Yt 15 t) ?_;rintro S r p;refine⟨AB,fun m=>?_⟩;refine(Yd∘Lm S) ?_;exact l.swapped q p r
       .refine(Jo 11 (he:=by exact Bo l.bk (hi:=BQ J))) fun m=>(Yo 7 (he:=by exact Bo l.bk (hi:=BQ J))) fun m=>(Gv [12]∘Yt 13 l.bk) ?_;rintro w5 t q;refine⟨AB,fun m=>?_⟩;refine(Gv [14]∘Yt 15 t) ?_;rintro S r p;refine⟨AB,fun m=>?_⟩;refine(Yd∘Lm S) ?_;exact l.swapped q p r
      .rintro w7 aj;refine(O 12)<|Lb ((A+1),(Q-1),(swp e A Q),w7) ?_;exact⟨J,J,J,o,by rw[GM];omega,aj⟩
def yK{K:Ad}{g f:Y}{P:Ah}(hc:CmpAt K g f P enc cf)(N:Y)(d:Ap α)(a b k:Y)(hN:N=d.size)(bx:a<=k)(bl:k<b)(hb:b<=d.size)(hsz:d.size<=1000000000)(w:Ad)(h:RowAt K w g enc d):
 Bn prog 301 [.slice (X ⟨g,0,Aa⟩) N N,U (a:H),U (b:H),U (k:H),.func (.func f) #[P] #[]] w fun v w'=>v=.tuple #[U (((partition (Br cf) d a b k).1:Y):H),.bool (partition (Br cf) d a b k).2.1]/\RowAt K w' g enc (partition (Br cf) d a b k).2.2/\(partition (Br cf) d a b k).2.2.size=d.size:=by
 subst hN;refine Bw func301 Z ntmps301 Be Z ?_;have o1:=hc.one d[k]!;have o2:=hc.one d[a]!;have ai:=HT (enc:=enc) d;have l:=h.ext (Bf.drew w);refine(O 6)<|Lc (fun(w1:Ad)=>(RowAt K w1 g enc (swp d (a) (k)),[(0,.slice (X ⟨g,0,Aa⟩) d.size d.size),(1,U a),(2,U b),(3,U k),(4,.func (.func f) #[P] #[])],w1)) ?_ ?_
 .refine(Yr 16 (fun w'=>True) AB) fun m=>(Gv [0,1,2,3,4,5,6,8,9,10])<|Ye 7 11 ?_ ?_
  .refine(Jo 7 (he:=by exact Bo l.bk (hi:=BQ J))) fun m=>(Yo 11 (he:=by exact Bo l.bk (hi:=BQ J))) fun m=>(Gv [12]∘Yt 13 l.bk) ?_;rintro w5 t q;refine⟨AB,fun m=>?_⟩;refine(Gv [14]∘Yt 15 t) ?_;rintro D r p;refine⟨AB,fun m=>?_⟩;refine(Yd∘Lm D) ?_;exact l.swapped q p r
  .refine(Jo 11 (he:=by exact Bo l.bk (hi:=BQ J))) fun m=>(Yo 7 (he:=by exact Bo l.bk (hi:=BQ J))) fun m=>(Gv [12]∘Yt 13 l.bk) ?_;rintro w5 t q;refine⟨AB,fun m=>?_⟩;refine(Gv [14]∘Yt 15 t) ?_;rintro D r p;refine⟨AB,fun m=>?_⟩;refine(Yd∘Lm D) ?_;exact l.swapped q p r
 .rintro w1 a8;have a1:=GM d a k
  have hp:partition (Br cf) d a b k=(if scanUp (fun x=>Br cf x (swp d a k)[a]!) (swp d a k) (b-1) (a+1)>scanDown (fun x=>!Br cf x (swp d a k)[a]!) (swp d a k) (scanUp (fun x=>Br cf x (swp d a k)[a]!) (swp d a k) (b-1) (a+1)) (b-1)then(scanDown (fun x=>!Br cf x (swp d a k)[a]!) (swp d a k) (scanUp (fun x=>Br cf x (swp d a k)[a]!) (swp d a k) (b-1) (a+1)) (b-1),Af,swp (swp d a k) (scanDown (fun x=>!Br cf x (swp d a k)[a]!) (swp d a k) (scanUp (fun x=>Br cf x (swp d a k)[a]!) (swp d a k) (b-1) (a+1)) (b-1)) a)
   else((partLoop (Br cf) a (scanUp (fun x=>Br cf x (swp d a k)[a]!) (swp d a k) (b-1) (a+1)+1) (scanDown (fun x=>!Br cf x (swp d a k)[a]!) (swp d a k) (scanUp (fun x=>Br cf x (swp d a k)[a]!) (swp d a k) (b-1) (a+1)) (b-1)-1) (swp (swp d a k) (scanUp (fun x=>Br cf x (swp d a k)[a]!) (swp d a k) (b-1) (a+1)) (scanDown (fun x=>!Br cf x (swp d a k)[a]!) (swp d a k) (scanUp (fun x=>Br cf x (swp d a k)[a]!) (swp d a k) (b-1) (a+1)) (b-1)))).1,Aj,swp (partLoop (Br cf) a (scanUp (fun x=>Br cf x (swp d a k)[a]!) (swp d a k) (b-1) (a+1)+1) (scanDown (fun x=>!Br cf x (swp d a k)[a]!) (swp d a k) (scanUp (fun x=>Br cf x (swp d a k)[a]!) (swp d a k) (b-1) (a+1)) (b-1)-1) (swp (swp d a k) (scanUp (fun x=>Br cf x (swp d a k)[a]!) (swp d a k) (b-1) (a+1)) (scanDown (fun x=>!Br cf x (swp d a k)[a]!) (swp d a k) (scanUp (fun x=>Br cf x (swp d a k)[a]!) (swp d a k) (b-1) (a+1)) (b-1)))).2 (partLoop (Br cf) a (scanUp (fun x=>Br cf x (swp d a k)[a]!) (swp d a k) (b-1) (a+1)+1) (scanDown (fun x=>!Br cf x (swp d a k)[a]!) (swp d a k) (scanUp (fun x=>Br cf x (swp d a k)[a]!) (swp d a k) (b-1) (a+1)) (b-1)-1) (swp (swp d a k) (scanUp (fun x=>Br cf x (swp d a k)[a]!) (swp d a k) (b-1) (a+1)) (scanDown (fun x=>!Br cf x (swp d a k)[a]!) (swp d a k) (scanUp (fun x=>Br cf x (swp d a k)[a]!) (swp d a k) (b-1) (a+1)) (b-1)))).1 a)):=by
   simp only[partition]
  generalize swp d a k=e at a1 hp a8;generalize partition (Br cf) d a b k=R at hp;have aj:=scanUp_ge (fun x=>Br cf x e[a]!) e (b-1) (a+1);have af:=scanDown_le (fun x=>!Br cf x e[a]!) e (scanUp (fun x=>Br cf x e[a]!) e (b-1) (a+1)) (b-1);have a3:=(scanDown_spec (fun x=>!Br cf x e[a]!) e (scanUp (fun x=>Br cf x e[a]!) e (b-1) (a+1)) (b-1)).2.1;have a4:=(scanUp_spec (fun x=>Br cf x e[a]!) e (b-1) _ (a+1) Z).2.1;refine(O 10)<|Lc (fun((T,w2):Y×Ad)=>(T=scanUp (fun x=>Br cf x e[a]!) e ((b-1)) ((a+1))/\RowAt K w2 g enc e,[(0,.slice (X ⟨g,0,Aa⟩) d.size d.size),(1,U a),(2,U b),(3,U k),(4,.func (.func f) #[P] #[]),(12,U (((T):Y):H)),(13,U ((((b-1)):Y):H))],w2)) ?_ ?_
  .refine(O 1)<|Lo (fun((S,E):Y×Ad)=>((a+1)<=S/\scanUp (fun x=>Br cf x e[a]!) e ((b-1)) (S)=scanUp (fun x=>Br cf x e[a]!) e ((b-1)) ((a+1))/\RowAt K E g enc e,[(0,.slice (X ⟨g,0,Aa⟩) d.size d.size),(1,U a),(2,U b),(3,U k),(4,.func (.func f) #[P] #[]),(12,U (((S):Y):H)),(13,U ((((b-1)):Y):H))],E,(b-1)+1-S)) ((a+1),w1) ?_ ?_
   .grind
   .rintro⟨S,E⟩⟨A,C,V⟩;have o:=V.ext (Bf.drew E);refine(O 2∘Yr 16 (fun w'=>RowAt K w' g enc e) o) fun m=>(Gv [0,1,2,3]) ?_;refine Kc 35 Z (fun h0=>?_) (fun h0=>?_)
    .refine(Gv [4,5,6,7]∘Yw 8 (he:=by exact fun _ B=>Bo B.bk (hi:=BQ J))∘Gv [9,10,11]∘Yw 12 (he:=by exact fun _ B=>Bo B.bk (hi:=BQ J))) ?_;refine GR 13 Z Be Z Z Z Z Z (hc.call E.drew _ _ o.mo) ?_;rintro _ v3⟨rfl,G⟩;refine⟨m.ext G,fun m=>?_⟩;refine(Gv [14,15]∘Yd) ?_;have I:=o.ext G;refine Zi (fun W=>?_) fun W=>?_
     .rw[aw (fun x=>Br cf x e[a]!) h0 (AM W)]at C;refine(O 8)<|Lb ((S+1),v3) ?_;exact⟨J,C,I⟩
     .rw[Ro (fun x=>Br cf x e[a]!) (fun z=>W (AO z.2))]at C;refine(O 1∘Lm (S,v3)) ?_;exact⟨C,I⟩
    .rw[Ro (fun x=>Br cf x e[a]!) (fun z=>h0 z.1)]at C;refine(Gv [4,5,6,7,8,9,10,11,12,13,14,15]∘Yd∘O 2∘Lm (S,_)) ?_;exact⟨C,o⟩
  .rintro⟨T,w2⟩⟨bc,bj⟩;rw[<-bc]at hp aj af a3 a4;refine(O 1)<|Lc (fun((j2,w3):Y×Ad)=>(j2=scanDown (fun x=>!Br cf x e[a]!) e (T) ((b-1))/\RowAt K w3 g enc e,[(0,.slice (X ⟨g,0,Aa⟩) d.size d.size),(1,U a),(2,U b),(3,U k),(4,.func (.func f) #[P] #[]),(12,U (((T):Y):H)),(13,U (((j2):Y):H))],w3)) ?_ ?_
   .refine(O 1)<|Lo (fun((L,E):Y×Ad)=>(L<=(b-1)/\scanDown (fun x=>!Br cf x e[a]!) e (T) (L)=scanDown (fun x=>!Br cf x e[a]!) e (T) ((b-1))/\RowAt K E g enc e,[(0,.slice (X ⟨g,0,Aa⟩) d.size d.size),(1,U a),(2,U b),(3,U k),(4,.func (.func f) #[P] #[]),(12,U (((T):Y):H)),(13,U (((L):Y):H))],E,L)) ((b-1),w2) ?_ ?_
    .grind
    .rintro⟨L,E⟩⟨A,C,V⟩;have o:=V.ext (Bf.drew E);refine(O 2∘Yr 17 (fun w'=>RowAt K w' g enc e) o) fun m=>(Gv [0,1,2,3]) ?_;refine Kc 53 Z (fun h0=>?_) (fun h0=>?_)
     .refine(Gv [4,5,6,7]∘Yw 8 (he:=by exact fun _ B=>Bo B.bk (hi:=BQ J))∘Gv [9,10,11]∘Yw 12 (he:=by exact fun _ B=>Bo B.bk (hi:=BQ J))) ?_;refine GR 13 Z Be Z Z Z Z Z (hc.call E.drew _ _ o.mo) ?_;rintro _ v3⟨rfl,G⟩;refine⟨m.ext G,fun m=>?_⟩;refine(Gv [14,15,16]∘Yd) ?_;have I:=o.ext G;refine Zi (fun W=>?_) fun W=>?_
      .rw[av (fun x=>!Br cf x e[a]!) h0 J (show(!decide (cf e[L]! e[a]!<0))=Af by rw[AN W];rfl)]at C;refine(O 8)<|Lb ((L-1),v3) ?_;exact⟨J,C,I⟩
      .rw[Rm (fun x=>!Br cf x e[a]!) (fun z=>W (fun hh=>by have z2:(!decide (cf e[L]! e[a]!<0))=Af:=z.2;rw[AM hh]at z2;cases z2))]at C;refine(O 1∘Lm (L,v3)) ?_;exact⟨C,I⟩
     .rw[Rm (fun x=>!Br cf x e[a]!) (fun z=>h0 z.1)]at C;refine(Gv [4,5,6,7,8,9,10,11,12,13,14,15,16]∘Yd∘O 2∘Lm (L,_)) ?_;exact⟨C,o⟩
   .rintro⟨j2,w3⟩⟨ba,a2⟩;rw[<-ba]at hp af a3;refine(O 7)<|Zi (fun a0=>?_) fun a0=>?_
    .rw[Ai a0]at hp;subst hp;have o1:=hc.one e[a]!;have o2:=hc.one e[j2]!;have ai:=HT (enc:=enc) e;have l:=a2.ext (Bf.drew w3);refine(O 1)<|Lc (fun(w4:Ad)=>(RowAt K w4 g enc (swp e (j2) (a)),[(0,.slice (X ⟨g,0,Aa⟩) d.size d.size),(1,U a),(2,U b),(3,U k),(4,.func (.func f) #[P] #[]),(12,U (((T):Y):H)),(13,U (((j2):Y):H))],w4)) ?_ ?_
     .refine(Yr 16 (fun w'=>True) AB) fun m=>(Gv [0,1,2,3,4,5,6,8,9,10])<|Ye 7 11 ?_ ?_
      .refine(Jo 7 (he:=by exact Bo l.bk (hi:=BQ J))) fun m=>(Yo 11 (he:=by exact Bo l.bk (hi:=BQ J))) fun m=>(Gv [12]∘Yt 13 l.bk) ?_;rintro w5 t q;refine⟨AB,fun m=>?_⟩;refine(Gv [14]∘Yt 15 t) ?_;rintro D r p;refine⟨AB,fun m=>?_⟩;refine(Yd∘Lm D) ?_;exact l.swapped q p r
      .refine(Jo 11 (he:=by exact Bo l.bk (hi:=BQ J))) fun m=>(Yo 7 (he:=by exact Bo l.bk (hi:=BQ J))) fun m=>(Gv [12]∘Yt 13 l.bk) ?_;rintro w5 t q;refine⟨AB,fun m=>?_⟩;refine(Gv [14]∘Yt 15 t) ?_;rintro D r p;refine⟨AB,fun m=>?_⟩;refine(Yd∘Lm D) ?_;exact l.swapped q p r
     .rintro w4 ao;refine(O 6∘BH) ?_;exact⟨Z,ao,by rw[GM];exact a1⟩
    .rw[Ag a0]at hp;have o1:=hc.one e[j2]!;have o2:=hc.one e[T]!;have ai:=HT (enc:=enc) e;have l:=a2.ext (Bf.drew w3);refine(O 2)<|Lc (fun(w4:Ad)=>(RowAt K w4 g enc (swp e (T) (j2)),[(0,.slice (X ⟨g,0,Aa⟩) d.size d.size),(1,U a),(2,U b),(3,U k),(4,.func (.func f) #[P] #[]),(12,U (((T):Y):H)),(13,U (((j2):Y):H))],w4)) ?_ ?_
     .refine(Yr 16 (fun w'=>True) AB) fun m=>(Gv [0,1,2,3,4,5,6,8,9,10])<|Ye 7 11 ?_ ?_
      .refine(Jo 7 (he:=by exact Bo l.bk (hi:=BQ J))) fun m=>(Yo 11 (he:=by exact Bo l.bk (hi:=BQ J))) fun m=>(Gv [12]∘Yt 13 l.bk) ?_;rintro w5 t q;refine⟨AB,fun m=>?_⟩;refine(Gv [14]∘Yt 15 t) ?_;rintro D r p;refine⟨AB,fun m=>?_⟩;refine(Yd∘Lm D) ?_;exact l.swapped q p r
      .refine(Jo 11 (he:=by exact Bo l.bk (hi:=BQ J))) fun m=>(Yo 7 (he:=by exact Bo l.bk (hi:=BQ J))) fun m=>(Gv [12]∘Yt 13 l.bk) ?_;rintro w5 t q;refine⟨AB,fun m=>?_⟩;refine(Gv [14]∘Yt 15 t) ?_;rintro D r p;refine⟨AB,fun m=>?_⟩;refine(Yd∘Lm D) ?_;exact l.swapped q p r
     .rintro w4 ao;have a5:(swp e T j2).size=d.size:=by rw[GM];exact a1
      generalize swp e T j2=e4 at hp ao a5;generalize hQ:partLoop (Br cf) a (T+1) (j2-1) e4=Q at hp;subst hp;refine(O 13)<|Lc (fun((jr,er,w9):Y×(Ap α)×Ad)=>(Q=(jr,er)/\er.size=d.size/\jr<b/\RowAt K w9 g enc er,[(0,.slice (X ⟨g,0,Aa⟩) d.size d.size),(1,U a),(2,U b),(3,U k),(4,.func (.func f) #[P] #[]),(13,U jr)],w9)) ?_ ?_
      .refine(O 1)<|Lo (fun((i,j,n,wr):Y×Y×(Ap α)×Ad)=>(a+1<=i/\i<=j+2/\j<b/\partLoop (Br cf) a i j n=Q/\n.size=d.size/\RowAt K wr g enc n,[(0,.slice (X ⟨g,0,Aa⟩) d.size d.size),(1,U a),(2,U b),(3,U k),(4,.func (.func f) #[P] #[]),(12,U i),(13,U j)],wr,j+1-i)) ((T+1),(j2-1),e4,w4) ?_ ?_
       .grind
       .rintro⟨i,j,n,wr⟩⟨bs,bq,bn,y,bf,hr⟩;rw[partLoop_eq]at y;have aj:=scanUp_ge (fun x=>Br cf x n[a]!) n j i;have af:=scanDown_le (fun x=>!Br cf x n[a]!) n (scanUp (fun x=>Br cf x n[a]!) n j i) j;refine(O 2)<|Lc (fun((i5,w5):Y×Ad)=>(i5=scanUp (fun x=>Br cf x n[a]!) n (j) (i)/\RowAt K w5 g enc n,[(0,.slice (X ⟨g,0,Aa⟩) d.size d.size),(1,U a),(2,U b),(3,U k),(4,.func (.func f) #[P] #[]),(12,U (((i5):Y):H)),(13,U (((j):Y):H))],w5)) ?_ ?_
        .refine(O 1)<|Lo (fun((S,E):Y×Ad)=>(i<=S/\scanUp (fun x=>Br cf x n[a]!) n (j) (S)=scanUp (fun x=>Br cf x n[a]!) n (j) (i)/\RowAt K E g enc n,[(0,.slice (X ⟨g,0,Aa⟩) d.size d.size),(1,U a),(2,U b),(3,U k),(4,.func (.func f) #[P] #[]),(12,U (((S):Y):H)),(13,U (((j):Y):H))],E,j+1-S)) (i,wr) ?_ ?_
         .grind
         .rintro⟨S,E⟩⟨A,C,V⟩;have o:=V.ext (Bf.drew E);refine(O 2∘Yr 16 (fun w'=>RowAt K w' g enc n) o) fun m=>(Gv [0,1,2,3]) ?_;refine Kc 108 Z (fun h0=>?_) (fun h0=>?_)
          .refine(Gv [4,5,6,7]∘Yw 8 (he:=by exact fun _ B=>Bo B.bk (hi:=BQ J))∘Gv [9,10,11]∘Yw 12 (he:=by exact fun _ B=>Bo B.bk (hi:=BQ J))) ?_;refine GR 13 Z Be Z Z Z Z Z (hc.call E.drew _ _ o.mo) ?_;rintro _ v3⟨rfl,G⟩;refine⟨m.ext G,fun m=>?_⟩;refine(Gv [14,15]∘Yd) ?_;have I:=o.ext G;refine Zi (fun W=>?_) fun W=>?_
           .rw[aw (fun x=>Br cf x n[a]!) h0 (AM W)]at C;refine(O 8)<|Lb ((S+1),v3) ?_;exact⟨J,C,I⟩
           .rw[Ro (fun x=>Br cf x n[a]!) (fun z=>W (AO z.2))]at C;refine(O 1∘Lm (S,v3)) ?_;exact⟨C,I⟩
          .rw[Ro (fun x=>Br cf x n[a]!) (fun z=>h0 z.1)]at C;refine(Gv [4,5,6,7,8,9,10,11,12,13,14,15]∘Yd∘O 2∘Lm (S,_)) ?_;exact⟨C,o⟩
        .rintro⟨i5,w5⟩⟨bb,bi⟩;rw[<-bb]at y aj af;refine(O 1)<|Lc (fun((j5,D):Y×Ad)=>(j5=scanDown (fun x=>!Br cf x n[a]!) n (i5) (j)/\RowAt K D g enc n,[(0,.slice (X ⟨g,0,Aa⟩) d.size d.size),(1,U a),(2,U b),(3,U k),(4,.func (.func f) #[P] #[]),(12,U (((i5):Y):H)),(13,U (((j5):Y):H))],D)) ?_ ?_
         .refine(O 1)<|Lo (fun((L,E):Y×Ad)=>(L<=j/\scanDown (fun x=>!Br cf x n[a]!) n (i5) (L)=scanDown (fun x=>!Br cf x n[a]!) n (i5) (j)/\RowAt K E g enc n,[(0,.slice (X ⟨g,0,Aa⟩) d.size d.size),(1,U a),(2,U b),(3,U k),(4,.func (.func f) #[P] #[]),(12,U (((i5):Y):H)),(13,U (((L):Y):H))],E,L)) (j,w5) ?_ ?_
          .grind
          .rintro⟨L,E⟩⟨A,C,V⟩;have o:=V.ext (Bf.drew E);refine(O 2∘Yr 17 (fun w'=>RowAt K w' g enc n) o) fun m=>(Gv [0,1,2,3]) ?_;refine Kc 126 Z (fun h0=>?_) (fun h0=>?_)
           .refine(Gv [4,5,6,7]∘Yw 8 (he:=by exact fun _ B=>Bo B.bk (hi:=BQ J))∘Gv [9,10,11]∘Yw 12 (he:=by exact fun _ B=>Bo B.bk (hi:=BQ J))) ?_;refine GR 13 Z Be Z Z Z Z Z (hc.call E.drew _ _ o.mo) ?_;rintro _ v3⟨rfl,G⟩;refine⟨m.ext G,fun m=>?_⟩;refine(Gv [14,15,16]∘Yd) ?_;have I:=o.ext G;refine Zi (fun W=>?_) fun W=>?_
            .rw[av (fun x=>!Br cf x n[a]!) h0 J (show(!decide (cf n[L]! n[a]!<0))=Af by rw[AN W];rfl)]at C;refine(O 8)<|Lb ((L-1),v3) ?_;exact⟨J,C,I⟩
            .rw[Rm (fun x=>!Br cf x n[a]!) (fun z=>W (fun hh=>by have z2:(!decide (cf n[L]! n[a]!<0))=Af:=z.2;rw[AM hh]at z2;cases z2))]at C;refine(O 1∘Lm (L,v3)) ?_;exact⟨C,I⟩
           .rw[Rm (fun x=>!Br cf x n[a]!) (fun z=>h0 z.1)]at C;refine(Gv [4,5,6,7,8,9,10,11,12,13,14,15,16]∘Yd∘O 2∘Lm (L,_)) ?_;exact⟨C,o⟩
         .rintro⟨j5,D⟩⟨a9,a7⟩;rw[<-a9]at y af;refine(O 7)<|Zi (fun ab=>?_) fun ab=>?_
          .rw[Ai ab]at y;refine(O 1∘Lm (j5,n,D)) ?_;grind
          .rw[Ag ab]at y;have o1:=hc.one n[j5]!;have o2:=hc.one n[i5]!;have ai:=HT (enc:=enc) n;have l:=a7.ext (Bf.drew D);refine(O 2)<|Lc (fun(w7:Ad)=>(RowAt K w7 g enc (swp n (i5) (j5)),[(0,.slice (X ⟨g,0,Aa⟩) d.size d.size),(1,U a),(2,U b),(3,U k),(4,.func (.func f) #[P] #[]),(12,U (((i5):Y):H)),(13,U (((j5):Y):H))],w7)) ?_ ?_
           .refine(Yr 16 (fun w'=>True) AB) fun m=>(Gv [0,1,2,3,4,5,6,8,9,10])<|Ye 7 11 ?_ ?_
            .refine(Jo 7 (he:=by exact Bo l.bk (hi:=BQ J))) fun m=>(Yo 11 (he:=by exact Bo l.bk (hi:=BQ J))) fun m=>(Gv [12]∘Yt 13 l.bk) ?_;rintro w5 t q;refine⟨AB,fun m=>?_⟩;refine(Gv [14]∘Yt 15 t) ?_;rintro D r p;refine⟨AB,fun m=>?_⟩;refine(Yd∘Lm D) ?_;exact l.swapped q p r
            .refine(Jo 11 (he:=by exact Bo l.bk (hi:=BQ J))) fun m=>(Yo 7 (he:=by exact Bo l.bk (hi:=BQ J))) fun m=>(Gv [12]∘Yt 13 l.bk) ?_;rintro w5 t q;refine⟨AB,fun m=>?_⟩;refine(Gv [14]∘Yt 15 t) ?_;rintro D r p;refine⟨AB,fun m=>?_⟩;refine(Yd∘Lm D) ?_;exact l.swapped q p r
           .rintro w7 al;refine(O 12)<|Lb ((i5+1),(j5-1),(swp n i5 j5),w7) ?_;exact⟨J,J,J,y,by rw[GM];omega,al⟩
      .rintro⟨jr,er,w9⟩⟨rfl,bh,bm,a6⟩;have o1:=hc.one er[a]!;have o2:=hc.one er[jr]!;have ai:=HT (enc:=enc) er;have l:=a6.ext (Bf.drew w9);refine(O 1)<|Lc (fun(w7:Ad)=>(RowAt K w7 g enc (swp er (jr) (a)),[(0,.slice (X ⟨g,0,Aa⟩) d.size d.size),(1,U a),(2,U b),(3,U k),(4,.func (.func f) #[P] #[]),(13,U jr)],w7)) ?_ ?_
       .refine(Yr 16 (fun w'=>True) AB) fun m=>(Gv [0,1,2,3,4,5,6,8,9,10])<|Ye 7 11 ?_ ?_
        .refine(Jo 7 (he:=by exact Bo l.bk (hi:=BQ J))) fun m=>(Yo 11 (he:=by exact Bo l.bk (hi:=BQ J))) fun m=>(Gv [12]∘Yt 13 l.bk) ?_;rintro w5 t q;refine⟨AB,fun m=>?_⟩;refine(Gv [14]∘Yt 15 t) ?_;rintro D r p;refine⟨AB,fun m=>?_⟩;refine(Yd∘Lm D) ?_;exact l.swapped q p r
        .refine(Jo 11 (he:=by exact Bo l.bk (hi:=BQ J))) fun m=>(Yo 7 (he:=by exact Bo l.bk (hi:=BQ J))) fun m=>(Gv [12]∘Yt 13 l.bk) ?_;rintro w5 t q;refine⟨AB,fun m=>?_⟩;refine(Gv [14]∘Yt 15 t) ?_;rintro D r p;refine⟨AB,fun m=>?_⟩;refine(Yd∘Lm D) ?_;exact l.swapped q p r
       .rintro w7 al;refine(O 6∘BH) ?_;exact⟨Z,al,by rw[GM];omega⟩
end
section
variable{α:Type}[Inhabited α]{enc:α->Ah}{cf:α->α->H}
def RowAt.other{w0 w w':Ad}{g sb:Y}{d:Ap α}(h:RowAt w0 w g enc d)(m:Mo w w' [sb])(hsb:w0.heap.size<=sb)(hne:sb≠g):RowAt w0 w' g enc d:=
 ⟨h.bk.mo m Bh,(((h.mo.mono (fun k hk=>El sb hk)).trans (m.mono Bl)).fresh (fun k hk hl=>by
  grind))⟩
def ZL{m:Ad}{g f:Y}{A:Ah}(D:CmpAt m g f A enc cf)(d:Ap α)(a b n k:Y)(G:a<d.size)(E:b<d.size)(hk:k<=1000)(hsz:d.size<=1000000000)(o:m.heap.size<=n)(x:n≠g)(w:Ad)(h:RowAt m w g enc d)(C:Bk w n 3 [U (k:H)]):
 Bn prog 324 [.slice (X ⟨g,0,Aa⟩) d.size d.size,U (a:H),U (b:H),.pointer (X ⟨n,0,Aa⟩),.func (.func f) #[A] #[]] w fun v w'=>v=.tuple #[U (((order2 (Br cf) d a b k).1:Y):H),U (((order2 (Br cf) d a b k).2.1:Y):H)]/\RowAt m w' g enc d/\Bk w' n 3 [U (((order2 (Br cf) d a b k).2.2:Y):H)]/\(order2 (Br cf) d a b k).1<d.size/\(order2 (Br cf) d a b k).2.1<d.size/\(order2 (Br cf) d a b k).2.2<=k+1:=by
 have j:=h.ext (Bf.drew w);refine Bw func324 Z ntmps324 Be Z ?_;refine(O 7∘Yr 11 (fun w'=>RowAt m w' g enc d) j) fun B=>(Gv [0,1,2,3]∘Yw 4 (he:=by exact fun _ l=>Bo l.bk (hi:=BQ J))∘Gv [5,6,7]∘Yw 8 (he:=by exact fun _ l=>Bo l.bk (hi:=BQ J))) ?_;refine GR 9 Z Be Z Z Z Z Z (D.call w.drew _ _ j.mo) ?_;rintro _ K⟨rfl,i⟩;refine⟨B.ext i,fun B=>?_⟩;refine(Gv [10]∘Yd) ?_;have r:=j.ext i;have q:=(C.ext (Bf.drew w)).ext i;refine Zi (fun t=>?_) fun t=>?_
 .have e:order2 (Br cf) d a b k=(b,a,k+1):=Ai (AM t);refine(O 7∘Zt q) ?_;rintro I p y;refine(O 8∘BH) ?_;rw[e];exact⟨Z,r.other y o x,p,E,G,Bq _⟩
 .have e:order2 (Br cf) d a b k=(a,b,k):=Ag (fun z=>t (AO z));refine(O 8∘BH) ?_;grind
def Ze{m:Ad}{g f:Y}{r:Ah}(o:CmpAt m g f r enc cf)(d:Ap α)(a b c i k:Y)(K:a<d.size)(I:b<d.size)(n:c<d.size)(hk:k<=900)(hsz:d.size<=1000000000)(j:m.heap.size<=i)(l:i≠g)(w:Ad)(h:RowAt m w g enc d)(G:Bk w i 3 [U (k:H)]):
 Bn prog 313 [.slice (X ⟨g,0,Aa⟩) d.size d.size,U (a:H),U (b:H),U (c:H),.pointer (X ⟨i,0,Aa⟩),.func (.func f) #[r] #[]] w fun v w'=>v=U (((median (Br cf) d a b c k).1:Y):H)/\RowAt m w' g enc d/\Bk w' i 3 [U (((median (Br cf) d a b c k).2:Y):H)]/\(median (Br cf) d a b c k).1<d.size/\(median (Br cf) d a b c k).2<=k+3:=by
 have e:median (Br cf) d a b c k=((order2 (Br cf) d (order2 (Br cf) d a b k).1 (order2 (Br cf) d (order2 (Br cf) d a b k).2.1 c (order2 (Br cf) d a b k).2.2).1 (order2 (Br cf) d (order2 (Br cf) d a b k).2.1 c (order2 (Br cf) d a b k).2.2).2.2).2.1,(order2 (Br cf) d (order2 (Br cf) d a b k).1 (order2 (Br cf) d (order2 (Br cf) d a b k).2.1 c (order2 (Br cf) d a b k).2.2).1 (order2 (Br cf) d (order2 (Br cf) d a b k).2.1 c (order2 (Br cf) d a b k).2.2).2.2).2.2):=rfl;rw[e];refine Bw func313 Z ntmps313 (by rfl) Z ?_;refine(O 11∘Zc (ZL o d a b i k K I J hsz j l w h G)) ?_;rintro _ B⟨rfl,N,q,y,x,E⟩;refine(O 13) ?_;generalize order2 (Br cf) d a b k=r1 at q y x E;refine(Zc (ZL o d r1.2.1 c i r1.2.2 x n J hsz j l B N q)) ?_;rintro _ A⟨rfl,L,p,t,D,C⟩;refine(O 13) ?_;generalize order2 (Br cf) d r1.2.1 c r1.2.2=r2 at p t D C;refine(Zc (ZL o d r1.1 r2.1 i r2.2.2 y t J hsz j l A L p)) ?_;rintro _ P⟨rfl,W,Q,V,T,S⟩;refine(O 11∘Bu) ?_;grind
def Zb{i:Ad}{g f:Y}{m:Ah}(r:CmpAt i g f m enc cf)(d:Ap α)(a e k:Y)(A:1<=a)(t:a+1<d.size)(hk:k<=900)(hsz:d.size<=1000000000)(j:i.heap.size<=e)(l:e≠g)(w:Ad)(h:RowAt i w g enc d)(q:Bk w e 3 [U (k:H)]):
 Bn prog 312 [.slice (X ⟨g,0,Aa⟩) d.size d.size,U (a:H),.pointer (X ⟨e,0,Aa⟩),.func (.func f) #[m] #[]] w fun v w'=>v=U (((medianAdjacent (Br cf) d a k).1:Y):H)/\RowAt i w' g enc d/\Bk w' e 3 [U (((medianAdjacent (Br cf) d a k).2:Y):H)]/\(medianAdjacent (Br cf) d a k).1<d.size/\(medianAdjacent (Br cf) d a k).2<=k+3:=by
 refine Bw func312 Z ntmps312 (by rfl) Z ?_;refine(O 14∘Zc (Ze r d (a-1) a (a+1) e k J J t hk hsz j l w h q)) ?_;rintro _ y⟨rfl,x,n,p,o⟩;refine(O 2∘Bu) ?_;exact⟨Z,x,n,p,o⟩
def OZ:Hint->Y
 |.unknown=>0
 |.increasing=>1
 |.decreasing=>2
def yV(lt:α->α->Aw)(d:Ap α)(a b:Y)(r:Y×Y)(e:r=(if b-a≥8 then
 if b-a≥50 then median lt d (medianAdjacent lt d (a+(b-a)/4*1) 0).1 (medianAdjacent lt d (a+(b-a)/4*2) (medianAdjacent lt d (a+(b-a)/4*1) 0).2).1 (medianAdjacent lt d (a+(b-a)/4*3) (medianAdjacent lt d (a+(b-a)/4*2) (medianAdjacent lt d (a+(b-a)/4*1) 0).2).2).1 (medianAdjacent lt d (a+(b-a)/4*3) (medianAdjacent lt d (a+(b-a)/4*2) (medianAdjacent lt d (a+(b-a)/4*1) 0).2).2).2
 else median lt d (a+(b-a)/4*1) (a+(b-a)/4*2) (a+(b-a)/4*3) 0
 else(a+(b-a)/4*2,0))):choosePivot lt d a b=(r.1,if r.2=0 then .increasing else if r.2=12 then .decreasing else .unknown):=by
 subst e;rfl
def yW{D:Ad}{g f:Y}{T:Ah}(C:CmpAt D g f T enc cf)(N:Y)(d:Ap α)(a b:Y)(hN:N=d.size)(ai:a+12<b)(hb:b<=d.size)(hsz:d.size<=1000000000)(w:Ad)(h:RowAt D w g enc d):
 Bn prog 297 [.slice (X ⟨g,0,Aa⟩) N N,U (a:H),U (b:H),.func (.func f) #[T] #[]] w fun v w'=>v=.tuple #[U (((choosePivot (Br cf) d a b).1:Y):H),U ((OZ (choosePivot (Br cf) d a b).2:Y):H)]/\RowAt D w' g enc d:=by
 subst hN;have e:=yV (Br cf) d a b;rw[Ai J]at e;have hq:=Nat.div_mul_le_self (b-a) 4;have af:3<=(b-a)/4:=J;have hi:a+(b-a)/4*1+1<d.size:=J;have hj:a+(b-a)/4*2+1<d.size:=J;have hk:a+(b-a)/4*3+1<d.size:=J;have B:1<=a+(b-a)/4*1:=J;have A:1<=a+(b-a)/4*2:=J;have y:1<=a+(b-a)/4*3:=J;refine Bw func297 Z ntmps297 (by rfl) Z ?_;refine(O 14∘Ml) ?_;rintro r L ab x I;refine(O 34) ?_;have h1:=h.ext I;have n:D.heap.size<=r:=by have:=h.mo.size;omega
 have p:r≠g:=by have:=h.bk.lt;omega
 generalize a+(b-a)/4*1=i at hi B e ⊢;generalize a+(b-a)/4*2=j at hj A e ⊢;generalize a+(b-a)/4*3=k at hk y e ⊢;refine Zi (fun h8=>?_) fun h8=>?_
 .refine(O 6)<|Zi (fun K=>?_) fun K=>?_
  .rw[Ai J]at e;refine(O 5∘Zc (Zb C d i r 0 B hi J hsz n p L h1 x)) ?_;rintro _ w2⟨rfl,h2,S,l2,m2⟩;refine(O 7) ?_;generalize medianAdjacent (Br cf) d i 0=r1 at S l2 m2 e;refine(Zc (Zb C d j r r1.2 A hj J hsz n p w2 h2 S)) ?_;rintro _ w3⟨rfl,h3,Q,W,m3⟩;refine(O 6) ?_;generalize medianAdjacent (Br cf) d j r1.2=r2 at Q W m3 e;refine(Zc (Zb C d k r r2.2 y hk J hsz n p w3 h3 Q)) ?_;rintro _ w4⟨rfl,h4,P,V,m4⟩;refine(O 8) ?_;generalize medianAdjacent (Br cf) d k r2.2=r3 at P V m4 e;refine(Zc (Ze C d r1.1 r2.1 r3.1 r r3.2 l2 W V J hsz n p w4 h4 P)) ?_;rintro _ w5⟨rfl,t,E,k5,G⟩;refine(O 12) ?_;generalize hm:median (Br cf) d r1.1 r2.1 r3.1 r3.2=m at E e G;have o:=e _ Z;rw[o];refine Zi (fun q=>?_) fun q=>?_
   .rw[Ai q];refine(O 6∘BH) ?_;exact⟨Z,t⟩
   .refine(O 5)<|Zi (fun l=>?_) fun l=>?_
    .rw[Ag q,Ai l];refine(O 6∘BH) ?_;exact⟨Z,t⟩
    .rw[Ag q,Ag l];refine(O 6∘BH) ?_;exact⟨Z,t⟩
  .rw[Ag J]at e;refine(O 7∘Zc (Ze C d i j k r 0 J J J J hsz n p L h1 x)) ?_;rintro _ w5⟨rfl,t,E,k5,G⟩;refine(O 12) ?_;generalize hm:median (Br cf) d i j k 0=m at E e G;have o:=e _ Z;rw[o];refine Zi (fun q=>?_) fun q=>?_
   .rw[Ai q];refine(O 6∘BH) ?_;exact⟨Z,t⟩
   .refine(O 5)<|Zi (fun l=>?_) fun l=>?_
    .rw[Ag q,Ai l];refine(O 6∘BH) ?_;exact⟨Z,t⟩
    .rw[Ag q,Ag l];refine(O 6∘BH) ?_;exact⟨Z,t⟩
 .omega
end
section
variable{α:Type}[Inhabited α]{enc:α->Ah}{cf:α->α->H}
def Abp(lt:α->α->Aw){d:Ap α}{b i:Y}(h:i<b)(a:lt d[i]! d[i-1]! =Aj):scanSorted lt d b i=scanSorted lt d b (i+1):=by
 rw[scanSorted,Ai Bh]
def mQ(lt:α->α->Aw){d:Ap α}{b i:Y}(h:¬(i<b/\lt d[i]! d[i-1]! =Aj)):scanSorted lt d b i=i:=by
 rw[scanSorted,Ag Bh]
def mV(lt:α->α->Aw){d:Ap α}{j:Y}(h:j=0∨lt d[j]! d[j-1]! =Aj):shiftDown lt j d=d:=by
 cases j with
 |zero=>rfl
 |succ j=>
  rcases h with h|h
  .cases h
  .rw[RW]at h;rw[shiftDown,h];rfl
def Abx(lt:α->α->Aw){d:Ap α}{j:Y}(a:1<=j)(h:lt d[j]! d[j-1]! =Af):shiftDown lt j d=shiftDown lt (j-1) (swp d j (j-1)):=by
 obtain⟨j,rfl⟩:∃k,j=k+1:=⟨j-1,J⟩;rw[RW]at h ⊢;rw[shiftDown,h];rfl
def mX(lt:α->α->Aw){d:Ap α}{b j:Y}(h:¬j<b∨lt d[j]! d[j-1]! =Aj):shiftUp lt b j d=d:=by
 rw[shiftUp];grind
def Aby(lt:α->α->Aw){d:Ap α}{b j:Y}(a:j<b)(h:lt d[j]! d[j-1]! =Af):shiftUp lt b j d=shiftUp lt b (j+1) (swp d j (j-1)):=by
 rw[shiftUp,Ai a,h];rfl
def yM{G:Ad}{g f:Y}{P:Ah}(hc:CmpAt G g f P enc cf)(N:Y)(d:Ap α)(a b:Y)(hN:N=d.size)(bn:a<b)(hb:b<=d.size)(hsz:d.size<=1000000000)(w:Ad)(h:RowAt G w g enc d):
 Bn prog 299 [.slice (X ⟨g,0,Aa⟩) N N,U (a:H),U (b:H),.func (.func f) #[P] #[]] w fun v w'=>v=.bool (partialInsertionSort (Br cf) d a b).2/\RowAt G w' g enc (partialInsertionSort (Br cf) d a b).1/\(partialInsertionSort (Br cf) d a b).1.size=d.size:=by
 subst hN;refine Bw func299 Z ntmps299 Be Z ?_;refine(O 16)<|Lo (fun((j,i,e,wr):Y×Y×(Ap α)×Ad)=>(j<=5/\a+1<=i/\i<=b/\partialIns (Br cf) a b (5-j) i e=partialInsertionSort (Br cf) d a b/\e.size=d.size/\RowAt G wr g enc e,[(0,.slice (X ⟨g,0,Aa⟩) d.size d.size),(1,U a),(2,U b),(3,.func (.func f) #[P] #[]),(9,U i),(10,U j)],wr,5-j)) (0,(a+1),d,w) ?_ ?_
 .exact⟨J,Bq _,J,Z,Z,h⟩
 .rintro⟨j,i,e,wr⟩⟨hj,bm,bj,x,a4,hr⟩;generalize partialInsertionSort (Br cf) d a b=R at x;refine(O 6)<|Zi (fun a2=>?_) fun a2=>?_
  .obtain⟨s,hs⟩:∃s,5-j=s+1:=⟨4-j,J⟩;have bf:s=5-(j+1):=J;rw[hs]at x;have D:(if scanSorted (Br cf) e b i=b then(e,Af)else if b-a<50 then(e,Aj)else partialIns (Br cf) a b s (scanSorted (Br cf) e b i) (if b-scanSorted (Br cf) e b i≥2 then shiftUp (Br cf) b (scanSorted (Br cf) e b i+1) (if scanSorted (Br cf) e b i-a≥2 then shiftDown (Br cf) (scanSorted (Br cf) e b i-1) (swp e (scanSorted (Br cf) e b i) (scanSorted (Br cf) e b i-1))else(swp e (scanSorted (Br cf) e b i) (scanSorted (Br cf) e b i-1)))else(if scanSorted (Br cf) e b i-a≥2 then shiftDown (Br cf) (scanSorted (Br cf) e b i-1) (swp e (scanSorted (Br cf) e b i) (scanSorted (Br cf) e b i-1))else(swp e (scanSorted (Br cf) e b i) (scanSorted (Br cf) e b i-1)))))=R:=x;clear x;refine(O 4)<|Lc (fun((n,w2):Y×Ad)=>(n=scanSorted (Br cf) e b i/\a+1<=n/\n<=b/\RowAt G w2 g enc e,[(0,.slice (X ⟨g,0,Aa⟩) d.size d.size),(1,U a),(2,U b),(3,.func (.func f) #[P] #[]),(9,U n),(10,U j)],w2)) ?_ ?_
   .refine(O 1)<|Lo (fun((i9,C):Y×Ad)=>(a+1<=i9/\i9<=b/\scanSorted (Br cf) e b i9=scanSorted (Br cf) e b i/\RowAt G C g enc e,[(0,.slice (X ⟨g,0,Aa⟩) d.size d.size),(1,U a),(2,U b),(3,.func (.func f) #[P] #[]),(9,U i9),(10,U j)],C,b-i9)) (i,wr) ?_ ?_
    .grind
    .rintro⟨i9,C⟩⟨bl,a8,ab,I⟩;have q:=I.ext (Bf.drew C);refine(O 2∘Yr 18 (fun w'=>RowAt G w' g enc e) q) fun m=>(Gv [0,1,2,3]) ?_;refine Kc 22 Z (fun h0=>?_) (fun h0=>?_)
     .refine(Gv [4,5,6,7]∘Yw 8 (he:=by exact fun _ B=>Bo B.bk (hi:=BQ J))∘Gv [9,10,11,12]∘Yw 13 (he:=by exact fun _ B=>Bo B.bk (hi:=BQ J))) ?_;refine GR 14 Z Be Z Z Z Z Z (hc.call C.drew _ _ q.mo) ?_;rintro _ v3⟨rfl,E⟩;refine⟨m.ext E,fun m=>?_⟩;refine(Gv [15,16,17]∘Yd) ?_;have L:=q.ext E;refine Zi (fun T=>?_) fun T=>?_
      .rw[Abp _ h0 (AN T)]at ab;refine(O 8)<|Lb ((i9+1),v3) ?_;grind
      .rw[mQ _ (fun z=>T (AR z.2))]at ab;refine(O 1∘Lm (i9,v3)) ?_;grind
     .rw[mQ _ (fun z=>h0 z.1)]at ab;refine(Gv [4,5,6,7,8,9,10,11,12,13,14,15,16,17]∘Yd∘O 2∘Lm (i9,_)) ?_;grind
   .rintro⟨n,w2⟩⟨a3,ba,a9,a1⟩;rw[<-a3]at D;refine(O 7)<|Zi (fun V=>?_) fun V=>?_
    .rw[Ai V]at D;refine(O 4∘Bu) ?_;grind
    .rw[Ag V]at D;refine(O 9)<|Zi (fun a7=>?_) fun a7=>?_
     .rw[Ai J]at D;refine(O 4∘Bu) ?_;grind
     .rw[Ag J]at D;have o1:=hc.one e[n-1]!;have o2:=hc.one e[n]!;have al:=HT (enc:=enc) e;have l:=a1.ext (Bf.drew w2);refine(O 2)<|Lc (fun(w4:Ad)=>(RowAt G w4 g enc (swp e (n) (n-1)),[(0,.slice (X ⟨g,0,Aa⟩) d.size d.size),(1,U a),(2,U b),(3,.func (.func f) #[P] #[]),(9,U n),(10,U j)],w4)) ?_ ?_
      .refine(Yr 18 (fun w'=>True) AB) fun m=>(Gv [0,1,2,3,4,5,6,7,8,10,11,12])<|Ye 9 13 ?_ ?_
       .refine(Jo 9 (he:=by exact Bo l.bk (hi:=BQ J))) fun m=>(Yo 13 (he:=by exact Bo l.bk (hi:=BQ J))) fun m=>(Gv [14]∘Yt 15 l.bk) ?_;rintro S A t;refine⟨AB,fun m=>?_⟩;refine(Gv [16]∘Yt 17 A) ?_;rintro Q y r;refine⟨AB,fun m=>?_⟩;refine(Yd∘Lm Q) ?_;exact l.swapped t r y
       .refine(Jo 13 (he:=by exact Bo l.bk (hi:=BQ J))) fun m=>(Yo 9 (he:=by exact Bo l.bk (hi:=BQ J))) fun m=>(Gv [14]∘Yt 15 l.bk) ?_;rintro S A t;refine⟨AB,fun m=>?_⟩;refine(Gv [16]∘Yt 17 A) ?_;rintro Q y r;refine⟨AB,fun m=>?_⟩;refine(Yd∘Lm Q) ?_;exact l.swapped t r y
      .rintro w4 a0;have ao:(swp e n (n-1)).size=d.size:=by rw[GM];exact a4
       generalize swp e n (n-1)=e4 at D a0 ao;refine(O 2)<|Ld (fun((e5,S):(Ap α)×Ad)=>(e5=(if n-a≥2 then shiftDown (Br cf) (n-1) e4 else e4)/\e5.size=d.size/\RowAt G S g enc e5,[(0,.slice (X ⟨g,0,Aa⟩) d.size d.size),(1,U a),(2,U b),(3,.func (.func f) #[P] #[]),(9,U n),(10,U j)],S)) ?_ ?_
       .refine(O 6)<|Zi (fun aj=>?_) fun aj=>?_
        .refine(O 7)<|Lo (fun((k,p,C):Y×(Ap α)×Ad)=>((k<=n)/\shiftDown (Br cf) (k) p=shiftDown (Br cf) (n-1) e4/\p.size=d.size/\RowAt G C g enc p,[(0,.slice (X ⟨g,0,Aa⟩) d.size d.size),(1,U a),(2,U b),(3,.func (.func f) #[P] #[]),(9,U n),(10,U j),(11,U k)],C,k)) ((n-1),e4,w4) ?_ ?_
         .grind
         .rintro⟨k,p,C⟩⟨hk,o,K,I⟩;refine(O 6)<|Zi (fun ai=>?_) fun ai=>?_
          .have q:=I.ext (Bf.drew C);refine(O 5∘Yr 13 (fun w'=>RowAt G w' g enc p) q) fun m=>(Gv [0,1,2,3]∘Yw 4 (he:=by exact fun _ B=>Bo B.bk (hi:=BQ J))∘Gv [5,6,7,8]∘Yw 9 (he:=by exact fun _ B=>Bo B.bk (hi:=BQ J))) ?_;refine GR 10 Z Be Z Z Z Z Z (hc.call C.drew _ _ q.mo) ?_;rintro _ v3⟨rfl,E⟩;refine⟨m.ext E,fun m=>?_⟩;refine(Gv [11,12]∘Yd) ?_;have L:=q.ext E;refine Zi (fun T=>?_) fun T=>?_
           .rw[mV _ (.inr (AN T))]at o;refine(O 1∘Lm (p,v3)) ?_;exact⟨by rw[Ai J];exact o,K,L⟩
           .rw[Abx _ J (AM (Dm.1 T))]at o;have o1:=hc.one p[k-1]!;have o2:=hc.one p[k]!;have al:=HT (enc:=enc) p;have l:=L.ext (Bf.drew v3);refine(O 1)<|Lc (fun(W:Ad)=>(RowAt G W g enc (swp p (k) (k-1)),[(0,.slice (X ⟨g,0,Aa⟩) d.size d.size),(1,U a),(2,U b),(3,.func (.func f) #[P] #[]),(9,U n),(10,U j),(11,U k)],W)) ?_ ?_
            .refine(Yr 18 (fun w'=>True) AB) fun m=>(Gv [0,1,2,3,4,5,6,7,8,10,11,12])<|Ye 9 13 ?_ ?_
             .refine(Jo 9 (he:=by exact Bo l.bk (hi:=BQ J))) fun m=>(Yo 13 (he:=by exact Bo l.bk (hi:=BQ J))) fun m=>(Gv [14]∘Yt 15 l.bk) ?_;rintro S A t;refine⟨AB,fun m=>?_⟩;refine(Gv [16]∘Yt 17 A) ?_;rintro Q y r;refine⟨AB,fun m=>?_⟩;refine(Yd∘Lm Q) ?_;exact l.swapped t r y
             .refine(Jo 13 (he:=by exact Bo l.bk (hi:=BQ J))) fun m=>(Yo 9 (he:=by exact Bo l.bk (hi:=BQ J))) fun m=>(Gv [14]∘Yt 15 l.bk) ?_;rintro S A t;refine⟨AB,fun m=>?_⟩;refine(Gv [16]∘Yt 17 A) ?_;rintro Q y r;refine⟨AB,fun m=>?_⟩;refine(Yd∘Lm Q) ?_;exact l.swapped t r y
            .rintro W af;refine(O 6)<|Lb ((k-1),(swp p k (k-1)),W) ?_;exact⟨J,o,by rw[GM];exact K,af⟩
          .rw[mV _ (.inl J)]at o;refine(O 1∘Lm (p,C)) ?_;exact⟨by rw[Ai J];exact o,K,I⟩
        .refine(O 1∘Lm (e4,w4)) ?_;grind
       .rintro⟨e5,S⟩⟨a6,bc,bi⟩;rw[<-a6]at D;refine(O 1)<|Ld (fun((e7,w8):(Ap α)×Ad)=>(e7=(if b-n≥2 then shiftUp (Br cf) b (n+1) e5 else e5)/\e7.size=d.size/\RowAt G w8 g enc e7,[(0,.slice (X ⟨g,0,Aa⟩) d.size d.size),(1,U a),(2,U b),(3,.func (.func f) #[P] #[]),(9,U n),(10,U j)],w8)) ?_ ?_
        .refine(O 6)<|Zi (fun aj=>?_) fun aj=>?_
         .refine(O 7)<|Lo (fun((k,p,C):Y×(Ap α)×Ad)=>((n<k/\k<=b)/\shiftUp (Br cf) b (k) p=shiftUp (Br cf) b (n+1) e5/\p.size=d.size/\RowAt G C g enc p,[(0,.slice (X ⟨g,0,Aa⟩) d.size d.size),(1,U a),(2,U b),(3,.func (.func f) #[P] #[]),(9,U n),(10,U j),(12,U k)],C,b-k)) ((n+1),e5,S) ?_ ?_
          .grind
          .rintro⟨k,p,C⟩⟨hk,o,K,I⟩;refine(O 7)<|Zi (fun ai=>?_) fun ai=>?_
           .have q:=I.ext (Bf.drew C);refine(O 5∘Yr 13 (fun w'=>RowAt G w' g enc p) q) fun m=>(Gv [0,1,2,3]∘Yw 4 (he:=by exact fun _ B=>Bo B.bk (hi:=BQ J))∘Gv [5,6,7,8]∘Yw 9 (he:=by exact fun _ B=>Bo B.bk (hi:=BQ J))) ?_;refine GR 10 Z Be Z Z Z Z Z (hc.call C.drew _ _ q.mo) ?_;rintro _ v3⟨rfl,E⟩;refine⟨m.ext E,fun m=>?_⟩;refine(Gv [11,12]∘Yd) ?_;have L:=q.ext E;refine Zi (fun T=>?_) fun T=>?_
            .rw[mX _ (.inr (AN T))]at o;refine(O 1∘Lm (p,v3)) ?_;exact⟨by rw[Ai J];exact o,K,L⟩
            .rw[Aby _ J (AM (Dm.1 T))]at o;have o1:=hc.one p[k-1]!;have o2:=hc.one p[k]!;have al:=HT (enc:=enc) p;have l:=L.ext (Bf.drew v3);refine(O 1)<|Lc (fun(W:Ad)=>(RowAt G W g enc (swp p (k) (k-1)),[(0,.slice (X ⟨g,0,Aa⟩) d.size d.size),(1,U a),(2,U b),(3,.func (.func f) #[P] #[]),(9,U n),(10,U j),(12,U k)],W)) ?_ ?_
             .refine(Yr 18 (fun w'=>True) AB) fun m=>(Gv [0,1,2,3,4,5,6,7,8,10,11,12])<|Ye 9 13 ?_ ?_
              .refine(Jo 9 (he:=by exact Bo l.bk (hi:=BQ J))) fun m=>(Yo 13 (he:=by exact Bo l.bk (hi:=BQ J))) fun m=>(Gv [14]∘Yt 15 l.bk) ?_;rintro S A t;refine⟨AB,fun m=>?_⟩;refine(Gv [16]∘Yt 17 A) ?_;rintro Q y r;refine⟨AB,fun m=>?_⟩;refine(Yd∘Lm Q) ?_;exact l.swapped t r y
              .refine(Jo 13 (he:=by exact Bo l.bk (hi:=BQ J))) fun m=>(Yo 9 (he:=by exact Bo l.bk (hi:=BQ J))) fun m=>(Gv [14]∘Yt 15 l.bk) ?_;rintro S A t;refine⟨AB,fun m=>?_⟩;refine(Gv [16]∘Yt 17 A) ?_;rintro Q y r;refine⟨AB,fun m=>?_⟩;refine(Yd∘Lm Q) ?_;exact l.swapped t r y
             .rintro W af;refine(O 6)<|Lb ((k+1),(swp p k (k-1)),W) ?_;exact⟨J,o,by rw[GM];exact K,af⟩
           .rw[mX _ (.inl J)]at o;refine(O 1∘Lm (p,C)) ?_;exact⟨by rw[Ai J];exact o,K,I⟩
         .refine(O 1∘Lm (e5,S)) ?_;grind
        .rintro⟨e7,w8⟩⟨a5,bb,bh⟩;rw[<-a5]at D;refine(O 6)<|Lb ((j+1),n,e7,w8) ?_;grind
  .obtain rfl:j=5:=J;have D:(e,Aj)=R:=x;refine(O 5∘Bu) ?_;grind
end
def x13(r:UInt64):(r ^^^ (r<<<13)).toNat=r.toNat ^^^ (r.toNat*2 ^ 13%18446744073709551616):=by
 rw[UInt64.toNat_xor,UInt64.toNat_shiftLeft,Nat.shiftLeft_eq];rfl
def x7(r:UInt64):(r ^^^ (r>>>7)).toNat=r.toNat ^^^ (r.toNat/2 ^ 7):=by
 rw[UInt64.toNat_xor,UInt64.toNat_shiftRight,Np];rfl
def x17(r:UInt64):(r ^^^ (r<<<17)).toNat=r.toNat ^^^ (r.toNat*2 ^ 17%18446744073709551616):=by
 rw[UInt64.toNat_xor,UInt64.toNat_shiftLeft,Nat.shiftLeft_eq];rfl
def Aft(i:Y)(r:UInt64)(w:Ad)(h:Bk w i 285 [.int .u64 (r.toNat:H)]):
 Bn prog 188 [.pointer (X ⟨i,0,Aa⟩)] w fun v w'=>v=.int .u64 (((xorNext r).toNat:Y):H)/\Bk w' i 285 [.int .u64 (((xorNext r).toNat:Y):H)]/\Mo w w' [i]:=by
 have G:=r.toNat_lt;refine Bw func188 Z ntmps188 Be Z ?_;refine(O 5)<|Lc (fun(l:Ad)=>(Bk l i 285 [.int .u64 ((((r ^^^ (r<<<13))).toNat:Y):H)]/\Mo w l [i],[(0,.pointer (X ⟨i,0,Aa⟩))],l)) ?_ ?_
 .have f:=h.drew;rw[x13];have n:=r.toNat_lt;refine(Yr 10 (fun w'=>True) AB) fun g=>(Gv [0,1,3,4])<|Ye 2 5 ?_ ?_
  .refine(Jo 2 (he:=by exact Bo f)) fun g=>(Yo 5 (he:=by exact Bo f)) fun g=>(Yw 6 (he:=fun _ _=>by first|exact Hk (s:=13) (p:=8192) (m:=18446744073709551615) Z Z Bc Bc Z J|exact IF (s:=13) (p:=8192) (m:=18446744073709551616) Z Z Bc Bc Z Bc)∘Yw 7 (he:=by exact fun _ _=>Jq (m:=18446744073709551615) Z Z Z J)∘Gv [8]∘Yt 9 f) ?_;rintro j d a;refine⟨AB,fun g=>?_⟩;refine(Yd∘Lm j) ?_;exact⟨d,(Mo.Age (Bf.drew w) _).trans a⟩
  .refine(Jo 5 (he:=by exact Bo f)) fun g=>(Yw 6 (he:=fun _ _=>by first|exact Hk (s:=13) (p:=8192) (m:=18446744073709551615) Z Z Bc Bc Z J|exact IF (s:=13) (p:=8192) (m:=18446744073709551616) Z Z Bc Bc Z Bc)∘Yo 2 (he:=by exact Bo f)) fun g=>(Yw 7 (he:=by exact fun _ _=>Jq (m:=18446744073709551615) Z Z Z J)∘Gv [8]∘Yt 9 f) ?_;rintro j d a;refine⟨AB,fun g=>?_⟩;refine(Yd∘Lm j) ?_;exact⟨d,(Mo.Age (Bf.drew w) _).trans a⟩
 .rintro l⟨E,B⟩;have L:(r ^^^ (r<<<13))=(r ^^^ (r<<<13)):=rfl;generalize x:(r ^^^ (r<<<13))=q1 at E;refine(O 1)<|Lc (fun(k:Ad)=>(Bk k i 285 [.int .u64 ((((q1 ^^^ (q1>>>7))).toNat:Y):H)]/\Mo l k [i],[(0,.pointer (X ⟨i,0,Aa⟩))],k)) ?_ ?_
  .have f:=E.drew;rw[x7];have n:=q1.toNat_lt;refine(Yr 10 (fun w'=>True) AB) fun g=>(Gv [0,1,3,4])<|Ye 2 5 ?_ ?_
   .refine(Jo 2 (he:=by exact Bo f)) fun g=>(Yo 5 (he:=by exact Bo f)) fun g=>(Yw 6 (he:=by exact fun _ _=>IG (s:=7) (p:=128) Z Z Bc Bc)∘Yw 7 (he:=by exact fun _ _=>Jq (m:=18446744073709551615) Z Z Z J)∘Gv [8]∘Yt 9 f) ?_;rintro j d a;refine⟨AB,fun g=>?_⟩;refine(Yd∘Lm j) ?_;exact⟨d,(Mo.Age (Bf.drew l) _).trans a⟩
   .refine(Jo 5 (he:=by exact Bo f)) fun g=>(Yw 6 (he:=by exact fun _ _=>IG (s:=7) (p:=128) Z Z Bc Bc)∘Yo 2 (he:=by exact Bo f)) fun g=>(Yw 7 (he:=by exact fun _ _=>Jq (m:=18446744073709551615) Z Z Z J)∘Gv [8]∘Yt 9 f) ?_;rintro j d a;refine⟨AB,fun g=>?_⟩;refine(Yd∘Lm j) ?_;exact⟨d,(Mo.Age (Bf.drew l) _).trans a⟩
  .rintro k⟨D,A⟩;have K:(q1 ^^^ (q1>>>7))=(q1 ^^^ (q1>>>7)):=rfl;generalize t:(q1 ^^^ (q1>>>7))=q2 at D;refine(O 1)<|Lc (fun(o:Ad)=>(Bk o i 285 [.int .u64 ((((q2 ^^^ (q2<<<17))).toNat:Y):H)]/\Mo k o [i],[(0,.pointer (X ⟨i,0,Aa⟩))],o)) ?_ ?_
   .have f:=D.drew;rw[x17];have n:=q2.toNat_lt;refine(Yr 10 (fun w'=>True) AB) fun g=>(Gv [0,1,3,4])<|Ye 2 5 ?_ ?_
    .refine(Jo 2 (he:=by exact Bo f)) fun g=>(Yo 5 (he:=by exact Bo f)) fun g=>(Yw 6 (he:=fun _ _=>by first|exact Hk (s:=17) (p:=131072) (m:=18446744073709551615) Z Z Bc Bc Z J|exact IF (s:=17) (p:=131072) (m:=18446744073709551616) Z Z Bc Bc Z Bc)∘Yw 7 (he:=by exact fun _ _=>Jq (m:=18446744073709551615) Z Z Z J)∘Gv [8]∘Yt 9 f) ?_;rintro j d a;refine⟨AB,fun g=>?_⟩;refine(Yd∘Lm j) ?_;exact⟨d,(Mo.Age (Bf.drew k) _).trans a⟩
    .refine(Jo 5 (he:=by exact Bo f)) fun g=>(Yw 6 (he:=fun _ _=>by first|exact Hk (s:=17) (p:=131072) (m:=18446744073709551615) Z Z Bc Bc Z J|exact IF (s:=17) (p:=131072) (m:=18446744073709551616) Z Z Bc Bc Z Bc)∘Yo 2 (he:=by exact Bo f)) fun g=>(Yw 7 (he:=by exact fun _ _=>Jq (m:=18446744073709551615) Z Z Z J)∘Gv [8]∘Yt 9 f) ?_;rintro j d a;refine⟨AB,fun g=>?_⟩;refine(Yd∘Lm j) ?_;exact⟨d,(Mo.Age (Bf.drew k) _).trans a⟩
   .rintro o⟨C,y⟩;have I:(q2 ^^^ (q2<<<17))=(q2 ^^^ (q2<<<17)):=rfl;generalize q:(q2 ^^^ (q2<<<17))=q3 at C;refine(O 7∘Bu) ?_
    have e:xorNext r=q3:=by
     subst x t q;rfl
    rw[e];exact⟨Z,C,(B.trans A).trans y⟩
end
section
open Go.Shelf
def Tryz.Ahc:Go.Shelf.Ren:=⟨fun|156=>126|165=>165|166=>49|169=>51|240=>83|241=>218|276=>111|277=>259|n=>n,fun|31=>97|9=>9|3=>3|4=>4|0=>0|20=>20|72=>102|76=>106|70=>100|37=>23|75=>105|127=>157|164=>201|5=>5|80=>109|n=>n,fun|n=>n⟩
def Tryz.Ahd:Go.Proofs.Lays.n156 prog Tryz.Ahc:={
 mixed:=Be
 f156:=func126.trans (Ar X Be)
 f165:=func165.trans (Ar X Be)
 f166:=func49.trans (Ar X Be)
 f169:=func51.trans (Ar X Be)
 f240:=func83.trans (Ar X Be)
 f241:=func218.trans (Ar X Be)
 f276:=func111.trans (Ar X Be)
 f277:=func259.trans (Ar X Be)
 t0:=underlying0
 a0:=Tryz.isAgg0
 z0:=Tryz.sizeOf0
 v0:=Tryz.zeroValue0
 t3:=underlying3
 a3:=Tryz.isAgg3
 z3:=Tryz.sizeOf3
 v3:=Tryz.zeroValue3
 t4:=underlying4
 a4:=Tryz.isAgg4
 z4:=Tryz.sizeOf4
 v4:=Tryz.zeroValue4
 t9:=underlying9
 a9:=Tryz.isAgg9
 z9:=Tryz.sizeOf9
 v9:=Tryz.zeroValue9
 t20:=underlying20
 a20:=Tryz.isAgg20
 z20:=Tryz.sizeOf20
 v20:=Tryz.zeroValue20
 t31:=underlying97
 a31:=Tryz.isAgg97
 z31:=Tryz.sizeOf97
 v31:=Tryz.zeroValue97
 t37:=underlying23
 a37:=Tryz.isAgg23
 z37:=Tryz.sizeOf23
 v37:=Tryz.zeroValue23
 t70:=underlying100
 a70:=Tryz.isAgg100
 z70:=Tryz.sizeOf100
 v70:=Tryz.zeroValue100
 t72:=underlying102
 a72:=Tryz.isAgg102
 z72:=Tryz.sizeOf102
 v72:=Tryz.zeroValue102
 t75:=underlying105
 a75:=Tryz.isAgg105
 z75:=Tryz.sizeOf105
 v75:=Tryz.zeroValue105
 t76:=underlying106
 a76:=Tryz.isAgg106
 z76:=Tryz.sizeOf106
 v76:=Tryz.zeroValue106
 t127:=underlying157
 a127:=Tryz.isAgg157
 z127:=Tryz.sizeOf157
 v127:=Tryz.zeroValue157
 t164:=underlying201
 a164:=Tryz.isAgg201
 z164:=Tryz.sizeOf201
 v164:=Tryz.zeroValue201 }
def Tryz.Ahe:Builder.Extra prog Tryz.Ahc:={
 sizeBuilder:=Be
 liesBuilder:=Be
 t5:=underlying5
 a5:=Tryz.isAgg5
 z5:=Tryz.sizeOf5
 v5:=Tryz.zeroValue5
 infoByte:=Be
 cellsByte:=Be
 sizeByte:=Be
 neB5:=by decide }
open Go.RowKit in
def Tryz.strings_Join_none(a:Av AC)(c:Y)(sep:ByteArray)(w:Ad):
 Calls prog 126 #[.slice a 0 c,.string sep] w fun e w'=>e=.returned (.string ⟨#[]⟩)/\w'=w:=Any.strings_Join_none Tryz.Ahd Tryz.Ahe a c sep w
open Go.RowKit in
def Tryz.strings_Join(bk o c:Y)(xs:Ae ByteArray)(sep:ByteArray)(w:Ad)(hcells:∀(j:Y) x,xs[j]? =X x->w.cell? ⟨bk,o+j,Aa⟩=X (.string x))(hbk:bk<w.heap.size)(hN:Aim xs<=140737488355328)(hcap:Aim xs<=c)(hlen:Aim (Lib.join (xs.map (·.data.toList)) sep.data.toList)<=140737488355328):
 Calls prog 126 #[.slice (X ⟨bk,o,Aa⟩) (Aim xs) c,.string sep] w fun e w'=>e=.returned (.string ⟨(Lib.join (xs.map (·.data.toList)) sep.data.toList).toArray⟩)/\Below w.heap.size w w':=Any.strings_Join Tryz.Ahd Tryz.Ahe bk o c xs sep w hcells hbk hN hcap hlen
def Tryz.Aic:Go.Shelf.Ren:=⟨fun|125=>109|128=>150|129=>151|n=>n,fun|46=>180|3=>3|51=>58|53=>211|4=>4|5=>5|9=>9|n=>n,fun|n=>n⟩
def Tryz.Aii:Go.Proofs.Lays.n125 prog Tryz.Aic:={
 mixed:=Be
 f125:=func109.trans (Ar X Be)
 f128:=func150.trans (Ar X Be)
 f129:=func151.trans (Ar X Be)
 t3:=underlying3
 a3:=Tryz.isAgg3
 z3:=Tryz.sizeOf3
 v3:=Tryz.zeroValue3
 t4:=underlying4
 a4:=Tryz.isAgg4
 z4:=Tryz.sizeOf4
 v4:=Tryz.zeroValue4
 t5:=underlying5
 a5:=Tryz.isAgg5
 z5:=Tryz.sizeOf5
 v5:=Tryz.zeroValue5
 t9:=underlying9
 a9:=Tryz.isAgg9
 z9:=Tryz.sizeOf9
 v9:=Tryz.zeroValue9
 t46:=underlying180
 a46:=Tryz.isAgg180
 z46:=Tryz.sizeOf180
 v46:=Tryz.zeroValue180
 t51:=underlying58
 a51:=Tryz.isAgg58
 z51:=Tryz.sizeOf58
 v51:=Tryz.zeroValue58
 t53:=underlying211
 a53:=Tryz.isAgg211
 z53:=Tryz.sizeOf211
 v53:=Tryz.zeroValue211 }
def Tryz.bits_Len(x:H)(w:Ad)(h0:0<=x)(h1:x<=18446744073709551615):
 Calls prog 109 #[.int .u64 x] w fun e w'=>e=.returned (.int .i64 (Lib.bitLen x.toNat))/\w'=w:=Any.bits_Len Tryz.Aii x w h0 h1
def Tryz.Ahw:Go.Shelf.Ren:=⟨fun|106=>103|213=>140|265=>185|n=>n,fun|9=>9|3=>3|n=>n,fun|n=>n⟩
def Tryz.Ahx:Go.Proofs.Lays.n106 prog Tryz.Ahw:={
 mixed:=Be
 f106:=func103.trans (Ar X Be)
 f213:=func140.trans (Ar X Be)
 f265:=func185.trans (Ar X Be)
 t3:=underlying3
 a3:=Tryz.isAgg3
 z3:=Tryz.sizeOf3
 v3:=Tryz.zeroValue3
 t9:=underlying9
 a9:=Tryz.isAgg9
 z9:=Tryz.sizeOf9
 v9:=Tryz.zeroValue9 }
open Go.RowKit in
def Tryz.strings_Compare(a b:ByteArray)(w:Ad):
 Calls prog 103 #[.string a,.string b] w fun e w'=>e=.returned (.int .i64 (Lib.compareBytes a.data.toList b.data.toList))/\w'=w:=Any.strings_Compare Tryz.Ahx a b w
def Tryz.Ahj:Go.Shelf.Ren:=⟨fun|137=>192|217=>245|266=>276|n=>n,fun|9=>9|5=>5|3=>3|n=>n,fun|n=>n⟩
def Tryz.Ahy:Go.Proofs.Lays.n137 prog Tryz.Ahj:={
 mixed:=Be
 f137:=func192.trans (Ar X Be)
 f217:=func245.trans (Ar X Be)
 f266:=func276.trans (Ar X Be)
 t3:=underlying3
 a3:=Tryz.isAgg3
 z3:=Tryz.sizeOf3
 v3:=Tryz.zeroValue3
 t5:=underlying5
 a5:=Tryz.isAgg5
 z5:=Tryz.sizeOf5
 v5:=Tryz.zeroValue5
 t9:=underlying9
 a9:=Tryz.isAgg9
 z9:=Tryz.sizeOf9
 v9:=Tryz.zeroValue9 }
open Go.RowKit in
def Tryz.strings_IndexByte(s:ByteArray)(c:H)(w:Ad):
 Calls prog 192 #[.string s,.int .u8 c] w fun e w'=>e=.returned (.int .i64 (Lib.indexByte s.data.toList c.toNat.toUInt8))/\w'=w:=Any.strings_IndexByte Tryz.Ahy s c w
def Tryz.Ahz:Go.Shelf.Ren:=⟨fun|171=>224|243=>261|246=>281|283=>290|284=>291|285=>292|286=>293|129=>151|317=>307|318=>308|319=>309|320=>310|337=>322|338=>323|n=>n,fun|3=>3|9=>9|2=>2|4=>4|171=>381|0=>0|53=>211|37=>23|5=>5|173=>383|212=>399|51=>58|20=>20|213=>400|46=>180|232=>411|233=>412|n=>n,fun|17=>3|18=>4|19=>5|n=>n⟩
def Tryz.Ahn:Go.Proofs.LaysM.n171 prog Tryz.Ahz:={
 mixed:=Be
 f129:=func151.trans (Ar X Be)
 f171:=func224.trans (Ar X Be)
 f243:=func261.trans (Ar X Be)
 f246:=func281.trans (Ar X Be)
 f283:=func290.trans (Ar X Be)
 f284:=func291.trans (Ar X Be)
 f285:=func292.trans (Ar X Be)
 f286:=func293.trans (Ar X Be)
 f317:=func307.trans (Ar X Be)
 f318:=func308.trans (Ar X Be)
 f319:=func309.trans (Ar X Be)
 f320:=func310.trans (Ar X Be)
 f337:=func322.trans (Ar X Be)
 f338:=func323.trans (Ar X Be)
 t0:=underlying0
 a0:=Tryz.isAgg0
 z0:=Tryz.sizeOf0
 v0:=Tryz.zeroValue0
 t2:=underlying2
 a2:=Tryz.isAgg2
 z2:=Tryz.sizeOf2
 v2:=Tryz.zeroValue2
 t3:=underlying3
 a3:=Tryz.isAgg3
 z3:=Tryz.sizeOf3
 v3:=Tryz.zeroValue3
 t4:=underlying4
 a4:=Tryz.isAgg4
 z4:=Tryz.sizeOf4
 v4:=Tryz.zeroValue4
 t5:=underlying5
 a5:=Tryz.isAgg5
 z5:=Tryz.sizeOf5
 v5:=Tryz.zeroValue5
 t9:=underlying9
 a9:=Tryz.isAgg9
 z9:=Tryz.sizeOf9
 v9:=Tryz.zeroValue9
 t20:=underlying20
 a20:=Tryz.isAgg20
 z20:=Tryz.sizeOf20
 v20:=Tryz.zeroValue20
 t37:=underlying23
 a37:=Tryz.isAgg23
 z37:=Tryz.sizeOf23
 v37:=Tryz.zeroValue23
 t46:=underlying180
 a46:=Tryz.isAgg180
 z46:=Tryz.sizeOf180
 v46:=Tryz.zeroValue180
 t51:=underlying58
 a51:=Tryz.isAgg58
 z51:=Tryz.sizeOf58
 v51:=Tryz.zeroValue58
 t53:=underlying211
 a53:=Tryz.isAgg211
 z53:=Tryz.sizeOf211
 v53:=Tryz.zeroValue211
 t171:=underlying381
 a171:=Tryz.isAgg381
 z171:=Tryz.sizeOf381
 v171:=Tryz.zeroValue381
 t173:=underlying383
 a173:=Tryz.isAgg383
 z173:=Tryz.sizeOf383
 v173:=Tryz.zeroValue383
 t212:=underlying399
 a212:=Tryz.isAgg399
 z212:=Tryz.sizeOf399
 v212:=Tryz.zeroValue399
 t213:=underlying400
 a213:=Tryz.isAgg400
 z213:=Tryz.sizeOf400
 t232:=underlying411
 a232:=Tryz.isAgg411
 z232:=Tryz.sizeOf411
 v232:=Tryz.zeroValue411
 t233:=underlying412
 a233:=Tryz.isAgg412
 z233:=Tryz.sizeOf412
 v233:=Tryz.zeroValue412
 g17:=Be
 g18:=Be
 g19:=Be
 i0:=Be
 i2:=Be
 i3:=Be
 i4:=Be
 i5:=Be
 i9:=Be
 i20:=Be
 i37:=Be
 i46:=Be
 i51:=Be
 i53:=Be
 i171:=Be
 i173:=Be
 i212:=Be
 i232:=Be
 i233:=Be
 m17:=Be
 m18:=Be
 m19:=by kernel_rfl }
open Go.RowKit Go.Sort Go.Lib in
def Tryz.strconv_Itoa (n:H) (h0:-9223372036854775808<=n) (h1:n<=9223372036854775807) (w:Ad) (htab:Lib.TabIs prog w "internal/strconv.uint64pow10" .u64 Lib.pow10Tab):
 Calls prog 224 #[.int .i64 n] w fun e w'=>e=.returned (.string ⟨(Lib.itoa n).toArray⟩)/\∃k os,w'=grow (w.drewN k) os:=Any.strconv_Itoa Tryz.Ahn n h0 h1 w htab
def Tryz.Aij:Go.Shelf.Ren:=⟨fun|144=>168|143=>223|219=>193|217=>245|225=>246|224=>247|267=>248|266=>276|314=>277|n=>n,fun|9=>9|4=>4|3=>3|5=>5|46=>180|146=>327|51=>58|n=>n,fun|1=>0|n=>n⟩
def Tryz.Ahp:Go.Proofs.Lays.n144 prog Tryz.Aij:={
 mixed:=Be
 f143:=func223.trans (Ar X Be)
 f144:=func168.trans (Ar X Be)
 f217:=func245.trans (Ar X Be)
 f219:=func193.trans (Ar X Be)
 f224:=func247.trans (Ar X Be)
 f225:=func246.trans (Ar X Be)
 f266:=func276.trans (Ar X Be)
 f267:=func248.trans (Ar X Be)
 f314:=func277.trans (Ar X Be)
 t3:=underlying3
 a3:=Tryz.isAgg3
 z3:=Tryz.sizeOf3
 v3:=Tryz.zeroValue3
 t4:=underlying4
 a4:=Tryz.isAgg4
 z4:=Tryz.sizeOf4
 v4:=Tryz.zeroValue4
 t5:=underlying5
 a5:=Tryz.isAgg5
 z5:=Tryz.sizeOf5
 v5:=Tryz.zeroValue5
 t9:=underlying9
 a9:=Tryz.isAgg9
 z9:=Tryz.sizeOf9
 v9:=Tryz.zeroValue9
 t46:=underlying180
 a46:=Tryz.isAgg180
 z46:=Tryz.sizeOf180
 v46:=Tryz.zeroValue180
 t51:=underlying58
 a51:=Tryz.isAgg58
 z51:=Tryz.sizeOf58
 v51:=Tryz.zeroValue58
 t146:=underlying327
 a146:=Tryz.isAgg327
 z146:=Tryz.sizeOf327
 v146:=Tryz.zeroValue327
 g1:=by kernel_rfl }
open Go.RowKit Go.Lib in
def Tryz.strings_Contains_one(s:ByteArray)(c:AH)(w:Ad):
 Calls prog 168 #[.string s,.string ⟨#[c]⟩] w fun e w'=>e=.returned (.bool (decide (0<=Lib.indexByte s.data.toList c)))/\w'=w:=Any.strings_Contains_one Tryz.Ahp s c w
def Tryz.Aih:Go.Shelf.Ren:=⟨fun|145=>114|220=>156|219=>193|217=>245|225=>246|224=>247|267=>248|266=>276|314=>277|n=>n,fun|9=>9|4=>4|59=>206|3=>3|5=>5|46=>180|146=>327|51=>58|n=>n,fun|1=>0|n=>n⟩
def Tryz.Aht:Go.Proofs.Lays.n145 prog Tryz.Aih:={
 mixed:=Be
 f145:=func114.trans (Ar X Be)
 f217:=func245.trans (Ar X Be)
 f219:=func193.trans (Ar X Be)
 f220:=func156.trans (Ar X Be)
 f224:=func247.trans (Ar X Be)
 f225:=func246.trans (Ar X Be)
 f266:=func276.trans (Ar X Be)
 f267:=func248.trans (Ar X Be)
 f314:=func277.trans (Ar X Be)
 t3:=underlying3
 a3:=Tryz.isAgg3
 z3:=Tryz.sizeOf3
 v3:=Tryz.zeroValue3
 t4:=underlying4
 a4:=Tryz.isAgg4
 z4:=Tryz.sizeOf4
 v4:=Tryz.zeroValue4
 t5:=underlying5
 a5:=Tryz.isAgg5
 z5:=Tryz.sizeOf5
 v5:=Tryz.zeroValue5
 t9:=underlying9
 a9:=Tryz.isAgg9
 z9:=Tryz.sizeOf9
 v9:=Tryz.zeroValue9
 t46:=underlying180
 a46:=Tryz.isAgg180
 z46:=Tryz.sizeOf180
 v46:=Tryz.zeroValue180
 t51:=underlying58
 a51:=Tryz.isAgg58
 z51:=Tryz.sizeOf58
 v51:=Tryz.zeroValue58
 t59:=underlying206
 a59:=Tryz.isAgg206
 z59:=Tryz.sizeOf206
 v59:=Tryz.zeroValue206
 t146:=underlying327
 a146:=Tryz.isAgg327
 z146:=Tryz.sizeOf327
 v146:=Tryz.zeroValue327
 g1:=by kernel_rfl }
open Go.RowKit Go.Lib in
def Tryz.strings_Cut(s sep:ByteArray)(m:H)(w:Ad)(hs:s.size<4294967281)(hm:w.cell? ⟨0,0,Aa⟩=X (.int .i64 m)):
 Calls prog 114 #[.string s,.string sep] w fun e w'=>e=.returned (.tuple #[.string ⟨(Lib.cut s.data.toList sep.data.toList).1.toArray⟩,.string ⟨(Lib.cut s.data.toList sep.data.toList).2.1.toArray⟩,.bool (Lib.cut s.data.toList sep.data.toList).2.2])/\∃n,w'=w.drewN n:=Any.strings_Cut Tryz.Aht s sep m w hs hm
def Tryz.Ahs:Go.Shelf.Ren:=⟨fun|219=>193|217=>245|225=>246|224=>247|267=>248|266=>276|314=>277|n=>n,fun|9=>9|3=>3|4=>4|5=>5|46=>180|146=>327|51=>58|n=>n,fun|1=>0|n=>n⟩
def Tryz.Ail:Go.Proofs.LaysM.n219 prog Tryz.Ahs:={
 mixed:=Be
 f217:=func245.trans (Ar X Be)
 f219:=func193.trans (Ar X Be)
 f224:=func247.trans (Ar X Be)
 f225:=func246.trans (Ar X Be)
 f266:=func276.trans (Ar X Be)
 f267:=func248.trans (Ar X Be)
 f314:=func277.trans (Ar X Be)
 t3:=underlying3
 a3:=Tryz.isAgg3
 z3:=Tryz.sizeOf3
 v3:=Tryz.zeroValue3
 t4:=underlying4
 a4:=Tryz.isAgg4
 z4:=Tryz.sizeOf4
 v4:=Tryz.zeroValue4
 t5:=underlying5
 a5:=Tryz.isAgg5
 z5:=Tryz.sizeOf5
 v5:=Tryz.zeroValue5
 t9:=underlying9
 a9:=Tryz.isAgg9
 z9:=Tryz.sizeOf9
 v9:=Tryz.zeroValue9
 t46:=underlying180
 a46:=Tryz.isAgg180
 z46:=Tryz.sizeOf180
 v46:=Tryz.zeroValue180
 t51:=underlying58
 a51:=Tryz.isAgg58
 z51:=Tryz.sizeOf58
 v51:=Tryz.zeroValue58
 t146:=underlying327
 a146:=Tryz.isAgg327
 z146:=Tryz.sizeOf327
 v146:=Tryz.zeroValue327
 g1:=Be
 i3:=Be
 i4:=Be
 i5:=Be
 i9:=Be
 i46:=Be
 i51:=Be
 i146:=Be
 m1:=Be
 s1_3:=fun w h=>Go.Proofs.cell_of_shapedOpen_int (zero:=#[.int .i64 0]) (t:=3) h (AO Be) Be Z Be Be underlying3 }
def Tryz.Aik:Go.Shelf.Ren:=⟨fun|99=>93|206=>121|n=>n,fun|9=>9|4=>4|3=>3|n=>n,fun|n=>n⟩
def Tryz.Aig:Go.Proofs.Lays.n99 prog Tryz.Aik:={
 mixed:=Be
 f99:=func93.trans (Ar X Be)
 f206:=func121.trans (Ar X Be)
 t3:=underlying3
 a3:=Tryz.isAgg3
 z3:=Tryz.sizeOf3
 v3:=Tryz.zeroValue3
 t4:=underlying4
 a4:=Tryz.isAgg4
 z4:=Tryz.sizeOf4
 v4:=Tryz.zeroValue4
 t9:=underlying9
 a9:=Tryz.isAgg9
 z9:=Tryz.sizeOf9
 v9:=Tryz.zeroValue9 }
open Go.RowKit Go.Lib in
def Tryz.strings_HasPrefix(s p:ByteArray)(w:Ad):
 Calls prog 93 #[.string s,.string p] w fun e w'=>e=.returned (.bool (Lib.hasPrefix s.data.toList p.data.toList))/\w'=w:=Any.strings_HasPrefix Tryz.Aig s p w
def Tryz.Ahu:Go.Shelf.Ren:=⟨fun|146=>139|221=>184|268=>238|138=>239|143=>223|195=>273|197=>274|218=>275|219=>193|260=>289|217=>245|225=>246|224=>247|267=>248|266=>276|314=>277|n=>n,fun|9=>9|31=>97|3=>3|4=>4|0=>0|105=>360|21=>21|5=>5|46=>180|119=>394|139=>397|138=>396|146=>327|51=>58|n=>n,fun|1=>0|3=>1|4=>2|n=>n⟩
def Tryz.Aib:Go.Proofs.Lays.n146 prog Tryz.Ahu:={
 mixed:=Be
 f138:=func239.trans (Ar X Be)
 f143:=func223.trans (Ar X Be)
 f146:=func139.trans (Ar X Be)
 f195:=func273.trans (Ar X Be)
 f197:=func274.trans (Ar X Be)
 f217:=func245.trans (Ar X Be)
 f218:=func275.trans (Ar X Be)
 f219:=func193.trans (Ar X Be)
 f221:=func184.trans (Ar X Be)
 f224:=func247.trans (Ar X Be)
 f225:=func246.trans (Ar X Be)
 f260:=func289.trans (Ar X Be)
 f266:=func276.trans (Ar X Be)
 f267:=func248.trans (Ar X Be)
 f268:=func238.trans (Ar X Be)
 f314:=func277.trans (Ar X Be)
 t0:=underlying0
 a0:=Tryz.isAgg0
 z0:=Tryz.sizeOf0
 v0:=Tryz.zeroValue0
 t3:=underlying3
 a3:=Tryz.isAgg3
 z3:=Tryz.sizeOf3
 v3:=Tryz.zeroValue3
 t4:=underlying4
 a4:=Tryz.isAgg4
 z4:=Tryz.sizeOf4
 v4:=Tryz.zeroValue4
 t5:=underlying5
 a5:=Tryz.isAgg5
 z5:=Tryz.sizeOf5
 v5:=Tryz.zeroValue5
 t9:=underlying9
 a9:=Tryz.isAgg9
 z9:=Tryz.sizeOf9
 v9:=Tryz.zeroValue9
 t21:=underlying21
 a21:=Tryz.isAgg21
 z21:=Tryz.sizeOf21
 v21:=Tryz.zeroValue21
 t31:=underlying97
 a31:=Tryz.isAgg97
 z31:=Tryz.sizeOf97
 v31:=Tryz.zeroValue97
 t46:=underlying180
 a46:=Tryz.isAgg180
 z46:=Tryz.sizeOf180
 v46:=Tryz.zeroValue180
 t51:=underlying58
 a51:=Tryz.isAgg58
 z51:=Tryz.sizeOf58
 v51:=Tryz.zeroValue58
 t105:=underlying360
 a105:=Tryz.isAgg360
 z105:=Tryz.sizeOf360
 v105:=Tryz.zeroValue360
 t119:=underlying394
 a119:=Tryz.isAgg394
 z119:=Tryz.sizeOf394
 t138:=underlying396
 a138:=Tryz.isAgg396
 z138:=Tryz.sizeOf396
 v138:=Tryz.zeroValue396
 t139:=underlying397
 a139:=Tryz.isAgg397
 z139:=Tryz.sizeOf397
 v139:=Tryz.zeroValue397
 t146:=underlying327
 a146:=Tryz.isAgg327
 z146:=Tryz.sizeOf327
 v146:=Tryz.zeroValue327
 g1:=Be
 g3:=Be
 g4:=by kernel_rfl }
open Go.RowKit Go.Lib in
def Tryz.strings_Split(s sep:ByteArray)(m:H)(w:Ad)(hs:s.size<4294967281)(hm:w.cell? ⟨0,0,Aa⟩=X (.int .i64 m))(h1:1<=sep.size):
 Calls prog 139 #[.string s,.string sep] w fun e w'=>
  e=.returned (.slice (X ⟨w.heap.size,0,Aa⟩) (Lib.countB s sep+1) (Lib.countB s sep+1))/\w'=w.alloc (.cells ((Lib.splitB sep 0 (Lib.countB s sep) s).map Value.string).toArray 9):=Any.strings_Split Tryz.Aib Be s sep m w hs hm h1
def Tryz.Agz:Go.Shelf.Ren:=⟨fun|105=>138|212=>183|99=>93|165=>165|166=>49|170=>63|169=>51|263=>236|264=>237|206=>121|240=>83|241=>218|276=>111|277=>259|n=>n,fun|9=>9|3=>3|4=>4|20=>20|0=>0|46=>180|109=>282|5=>5|72=>102|76=>106|51=>58|146=>327|53=>211|148=>329|70=>100|37=>23|75=>105|127=>157|164=>201|80=>109|n=>n,fun|n=>n⟩
def Tryz.Ahl:Go.Proofs.Lays.n105 prog Tryz.Agz:={
 mixed:=Be
 f99:=func93.trans (Ar X Be)
 f105:=func138.trans (Ar X Be)
 f165:=func165.trans (Ar X Be)
 f166:=func49.trans (Ar X Be)
 f169:=func51.trans (Ar X Be)
 f170:=func63.trans (Ar X Be)
 f206:=func121.trans (Ar X Be)
 f212:=func183.trans (Ar X Be)
 f240:=func83.trans (Ar X Be)
 f241:=func218.trans (Ar X Be)
 f263:=func236.trans (Ar X Be)
 f264:=func237.trans (Ar X Be)
 f276:=func111.trans (Ar X Be)
 f277:=func259.trans (Ar X Be)
 t0:=underlying0
 a0:=Tryz.isAgg0
 z0:=Tryz.sizeOf0
 v0:=Tryz.zeroValue0
 t3:=underlying3
 a3:=Tryz.isAgg3
 z3:=Tryz.sizeOf3
 v3:=Tryz.zeroValue3
 t4:=underlying4
 a4:=Tryz.isAgg4
 z4:=Tryz.sizeOf4
 v4:=Tryz.zeroValue4
 t5:=underlying5
 a5:=Tryz.isAgg5
 z5:=Tryz.sizeOf5
 v5:=Tryz.zeroValue5
 t9:=underlying9
 a9:=Tryz.isAgg9
 z9:=Tryz.sizeOf9
 v9:=Tryz.zeroValue9
 t20:=underlying20
 a20:=Tryz.isAgg20
 z20:=Tryz.sizeOf20
 v20:=Tryz.zeroValue20
 t37:=underlying23
 a37:=Tryz.isAgg23
 z37:=Tryz.sizeOf23
 v37:=Tryz.zeroValue23
 t46:=underlying180
 a46:=Tryz.isAgg180
 z46:=Tryz.sizeOf180
 v46:=Tryz.zeroValue180
 t51:=underlying58
 a51:=Tryz.isAgg58
 z51:=Tryz.sizeOf58
 v51:=Tryz.zeroValue58
 t53:=underlying211
 a53:=Tryz.isAgg211
 z53:=Tryz.sizeOf211
 v53:=Tryz.zeroValue211
 t70:=underlying100
 a70:=Tryz.isAgg100
 z70:=Tryz.sizeOf100
 v70:=Tryz.zeroValue100
 t72:=underlying102
 a72:=Tryz.isAgg102
 z72:=Tryz.sizeOf102
 v72:=Tryz.zeroValue102
 t75:=underlying105
 a75:=Tryz.isAgg105
 z75:=Tryz.sizeOf105
 v75:=Tryz.zeroValue105
 t76:=underlying106
 a76:=Tryz.isAgg106
 z76:=Tryz.sizeOf106
 v76:=Tryz.zeroValue106
 t109:=underlying282
 a109:=Tryz.isAgg282
 z109:=Tryz.sizeOf282
 v109:=Tryz.zeroValue282
 t127:=underlying157
 a127:=Tryz.isAgg157
 z127:=Tryz.sizeOf157
 v127:=Tryz.zeroValue157
 t146:=underlying327
 a146:=Tryz.isAgg327
 z146:=Tryz.sizeOf327
 v146:=Tryz.zeroValue327
 t148:=underlying329
 a148:=Tryz.isAgg329
 z148:=Tryz.sizeOf329
 v148:=Tryz.zeroValue329
 t164:=underlying201
 a164:=Tryz.isAgg201
 z164:=Tryz.sizeOf201
 v164:=Tryz.zeroValue201 }
def Tryz.Ahi:Builder.Extra prog Tryz.Agz:={
 sizeBuilder:=Be
 liesBuilder:=Be
 t5:=underlying5
 a5:=Tryz.isAgg5
 z5:=Tryz.sizeOf5
 v5:=Tryz.zeroValue5
 infoByte:=Be
 cellsByte:=Be
 sizeByte:=Be
 neB5:=by decide }
open Go.RowKit Go.Lib in
def Tryz.strings_Repeat(s:ByteArray)(c:Y)(w:Ad)(hc:c<=9223372036854775807)(hlen:s.size*c<=140737488355328):
 Calls prog 138 #[.string s,.int .i64 c] w fun e w'=>e=.returned (.string ⟨(Lib.repeatL s.data.toList c).toArray⟩)/\Below w.heap.size w w':=Any.strings_Repeat Tryz.Ahl Tryz.Ahi s c w hc hlen
end
section
attribute [local irreducible] OW KW QW EX GW NV
open Go.Sort
section
variable{α:Type}[Inhabited α]{enc:α->Ah}{cf:α->α->H}
def xS(n:Y)(h1:1<=n)(h:n<=1000000000)(w:Ad):
 Bn prog 187 [U (n:H)] w fun v w'=>v=.int .u64 ((2 ^ (DL n+1):Y):H)/\w=w':=by
 have d:DL n+1<=31:=by
  have:=TY (n:=n) (k:=31) J;have:=this.2 J;omega
 have e:Go.Lib.bitLen (n:H).toNat=DL n+1:=by
  rw[RH,Go.Proofs.bitLen_eq n J];exact Ag J
 have g:2 ^ (DL n+1)<=2 ^ 31:=FN Bc d;refine Bw func187 Z ntmps187 Be Z ?_;refine(O 8∘Zc (GY func109 Be (Tryz.bits_Len (n:H) w J J))) ?_;rintro _ f⟨rfl,rfl⟩;rw[e];refine(Zv (by exact On (a:=1) (s:=DL n+1) (m:=18446744073709551615) Z Z (by show _<=64;omega) Z J)∘O 2∘Bu) ?_;simp
def IR(d:Ap α)(a l:Y):Y->UInt64×Ap α
 |0=>(UInt64.ofNat l,d)
 |t+1=>breakStep a l (1<<<bitsLen l) (IR d a l t) (a+(l/4)*2-1+t)
def rC(d:Ap α)(a b:Y)(h:8<=b-a):breakPatterns d a b=(IR d a (b-a) 3).2:=by
 unfold breakPatterns;simp only[ge_iff_le,h,if_true];rfl
def Pt(l:Y)(r:UInt64):Y:=if(xorNext r).toNat%2 ^ (DL l+1)≥l then(xorNext r).toNat%2 ^ (DL l+1)-l else(xorNext r).toNat%2 ^ (DL l+1)
def yC{l:Y}(h:1<=l)(r:UInt64):Pt l r<l:=by
 have a:(xorNext r).toNat%2 ^ (DL l+1)<2 ^ (DL l+1):=Kk _ (Uc _);have d:=Nat.log2_self_le (n:=l) J;rw[IQ]at a;unfold Pt;grind
def rE(d:Ap α)(a l t:Y)(h:1<=l):IR d a l (t+1)=(xorNext (IR d a l t).1,swp (IR d a l t).2 (a+(l/4)*2-1+t) (a+Pt l (IR d a l t).1)):=by
 have e:(1<<<bitsLen l)-1=2 ^ (DL l+1)-1:=by
  unfold bitsLen;rw[Ag J,Nat.one_shiftLeft]
 show breakStep a l (1<<<bitsLen l) (IR d a l t) (a+(l/4)*2-1+t)=_;unfold breakStep Pt;simp_all
def rD{B:Ad}{g f:Y}{E:Ah}(hc:CmpAt B g f E enc cf)(N:Y)(d:Ap α)(a b:Y)(hN:N=d.size)(bj:a+12<b)(hb:b<=d.size)(hsz:d.size<=1000000000)(w:Ad)(h:RowAt B w g enc d):
 Bn prog 296 [.slice (X ⟨g,0,Aa⟩) N N,U (a:H),U (b:H),.func (.func f) #[E] #[]] w fun v w'=>v=.tuple #[]/\RowAt B w' g enc (breakPatterns d a b)/\(breakPatterns d a b).size=d.size:=by
 subst hN;rw[rC d a b J];have bi:=Nat.div_mul_le_self (b-a) 4;have ba:3<=(b-a)/4:=J
 have S:(UInt64.ofNat (b-a)).toNat=b-a:=by
  rw[UInt64.toNat_ofNat'];exact IP J
 have a9:DL (b-a)+1<=31:=by
  have:=(TY (n:=b-a) (k:=31) J).2 J;omega
 have a3:2 ^ (DL (b-a)+1)<=2 ^ 31:=FN Bc a9;have a4:1<=2 ^ (DL (b-a)+1):=Uc _;refine Bw func296 Z ntmps296 Be Z ?_;refine(O 12)<|Zi (fun h8=>?_) fun h8=>?_
 .refine(O 4∘Ml) ?_;rintro q w1 bc a0 ab;refine(Zt a0) ?_;rintro V ao a7;refine(O 4) ?_;have I:B.heap.size<=q:=by have:=h.mo.size;omega
  have Q:q≠g:=by have:=h.bk.lt;omega
  have h2:=(h.ext ab).other a7 I Q;refine(Zc (xS (b-a) J J V)) ?_;rintro _ _⟨rfl,rfl⟩;refine(O 13) ?_;generalize K:2 ^ (DL (b-a)+1)=pk at a3 a4
  have al:Bk V q 285 [.int .u64 (((IR d a (b-a) 0).1.toNat:Y):H)]:=by
   show Bk V q _ [.int .u64 (((UInt64.ofNat (b-a)).toNat:Y):H)];rw[S];exact ao
  refine Lo (fun((t,wr):Y×Ad)=>(t<=3/\(IR d a (b-a) t).2.size=d.size/\RowAt B wr g enc (IR d a (b-a) t).2/\Bk wr q 285 [.int .u64 (((IR d a (b-a) t).1.toNat:Y):H)],[(0,.slice (X ⟨g,0,Aa⟩) d.size d.size),(1,U a),(2,U b),(3,.func (.func f) #[E] #[]),(8,U (((b-a):Y):H)),(9,.pointer (X ⟨q,0,Aa⟩)),(10,.int .u64 (pk:H)),(11,U (((a+(b-a)/4*2-1+t):Y):H))],wr,3-t)) (0,V) ?_ ?_
  .exact⟨J,Z,h2,al⟩
  .rintro⟨t,wr⟩⟨ht,af,hr,G⟩;have x:=rE d a (b-a) t J;have P:=yC (l:=b-a) J (IR d a (b-a) t).1;generalize hR:IR d a (b-a) t=R at af hr G x P;refine(O 12)<|Zi (fun a8=>?_) fun a8=>?_
   .have T:(xorNext R.1).toNat &&& (pk-1)=(xorNext R.1).toNat%pk:=by rw[<-K,Nat.and_two_pow_sub_one_eq_mod]
    have bf:=(xorNext R.1).toNat_lt;have bb:(xorNext R.1).toNat%pk<pk:=Kk _ J
    have bh:Pt (b-a) R.1=if(xorNext R.1).toNat%pk≥b-a then(xorNext R.1).toNat%pk-(b-a)else(xorNext R.1).toNat%pk:=by
     unfold Pt;rw[K]
    refine(O 5∘Zc (Aft q R.1 wr G)) ?_;rintro _ D⟨rfl,aj,a6⟩;refine(O 1∘Zv (by exact Kb (b:=1) (m:=18446744073709551615) Z Z Z J)∘Zv (by exact Wd (m:=18446744073709551615) Z Z Z J)∘O 5) ?_;have a2:=hr.other a6 I Q;refine Ld (fun(j:Y)=>(j=Pt (b-a) R.1,[(0,.slice (X ⟨g,0,Aa⟩) d.size d.size),(1,U a),(2,U b),(3,.func (.func f) #[E] #[]),(8,U (((b-a):Y):H)),(9,.pointer (X ⟨q,0,Aa⟩)),(10,.int .u64 (pk:H)),(11,U (((a+(b-a)/4*2-1+t):Y):H)),(12,U j)],D)) ?_ ?_
    .refine(Cw 12 (U ((((xorNext R.1).toNat%pk):Y):H)) (e:=by exact Ar (Value.int .i64) (Ar Mf T))∘O 5)<|Zi (fun ho=>?_) fun ho=>?_
     .refine(O 6∘Lm ((xorNext R.1).toNat%pk-(b-a))) ?_;grind
     .refine(O 1∘Lm ((xorNext R.1).toNat%pk)) ?_;grind
    .rintro j L;rw[<-L]at x P;have o1:=hc.one R.2[a+j]!;have o2:=hc.one R.2[a+(b-a)/4*2-1+t]!;have ba:=HT (enc:=enc) R.2;have i:=a2.ext (Bf.drew D);refine Lc (fun(C:Ad)=>(RowAt B C g enc (swp R.2 (a+(b-a)/4*2-1+t) (a+j))/\Mo D C [g],[(0,.slice (X ⟨g,0,Aa⟩) d.size d.size),(1,U a),(2,U b),(3,.func (.func f) #[E] #[]),(8,U (((b-a):Y):H)),(9,.pointer (X ⟨q,0,Aa⟩)),(10,.int .u64 (pk:H)),(11,U (((a+(b-a)/4*2-1+t):Y):H))],C)) ?_ ?_
     .refine(Yr 20 (fun w'=>True) AB) fun r=>(Gv [0,1,2,3,4,5,6,7,8,9,10,12,13,14])<|Ye 11 15 ?_ ?_
      .refine(Jo 11 (he:=by exact Bo i.bk (hi:=BQ J))) fun r=>(Yo 15 (he:=by exact Bo i.bk (hi:=BQ J))) fun r=>(Gv [16]∘Yt 17 i.bk) ?_;rintro w5 A p;refine⟨AB,fun r=>?_⟩;refine(Gv [18]∘Yt 19 A) ?_;rintro W y o;refine⟨AB,fun r=>?_⟩;refine(Yd∘Lm W) ?_;exact⟨i.swapped p o y,((Mo.Age (Bf.drew D) _).trans p).trans o⟩
      .refine(Jo 15 (he:=by exact Bo i.bk (hi:=BQ J))) fun r=>(Yo 11 (he:=by exact Bo i.bk (hi:=BQ J))) fun r=>(Gv [16]∘Yt 17 i.bk) ?_;rintro w5 A p;refine⟨AB,fun r=>?_⟩;refine(Gv [18]∘Yt 19 A) ?_;rintro W y o;refine⟨AB,fun r=>?_⟩;refine(Yd∘Lm W) ?_;exact⟨i.swapped p o y,((Mo.Age (Bf.drew D) _).trans p).trans o⟩
     .rintro C⟨a1,a5⟩;have ai:=aj.mo a5 Bh;refine(O 6)<|Lb ((t+1),C) ?_;dsimp only;rw[x];exact⟨J,by rw[GM];omega,a1,ai⟩
   .obtain rfl:t=3:=J;refine(O 1) ?_;refine KW.done<|HS Z ?_;grind
 .omega
end
section
variable{α:Type}[Inhabited α]{enc:α->Ah}{cf:α->α->H}
def vx{e:Ad}{g f:Y}{j:Ah}(k:CmpAt e g f j enc cf)(N:Y)(d:Ap α)(a b:Y)(m:N=d.size)(i:a<=b)(l:b<=d.size)(hsz:d.size<=1000000000)(w:Ad)(h:RowAt e w g enc d):
 Bn prog 294 [.slice (X ⟨g,0,Aa⟩) N N,U (a:H),U (b:H),.func (.func f) #[j] #[]] w fun v w'=>v=.tuple #[]/\RowAt e w' g enc (insertionSort (Br cf) d a b)/\(insertionSort (Br cf) d a b).size=d.size:=by
 subst m;exact vy k d a b i l hsz w h
def zZ{e:Ad}{g f:Y}{j:Ah}(k:CmpAt e g f j enc cf)(N:Y)(d:Ap α)(a b:Y)(m:N=d.size)(i:a<b)(l:b<=d.size)(hsz:d.size<=1000000000)(w:Ad)(h:RowAt e w g enc d):
 Bn prog 298 [.slice (X ⟨g,0,Aa⟩) N N,U (a:H),U (b:H),.func (.func f) #[j] #[]] w fun v w'=>v=.tuple #[]/\RowAt e w' g enc (reverseRange d a b)/\(reverseRange d a b).size=d.size:=by
 subst m;exact Aaa k d a b i l hsz w h
def pdq_s{S:Ad}{g f:Y}{rv:Ah}(V:CmpAt S g f rv enc cf)(hO:SWO (Br cf))(N:Y)(hsz:N<=1000000000):∀(m a b limit:Y) (d:Ap α) (w:Ad),b-a<m->N=d.size->a<=b->b<=d.size->limit<=1000->Below (Br cf) a b d->RowAt S w g enc d->
 Bn prog 282 [.slice (X ⟨g,0,Aa⟩) N N,U (a:H),U (b:H),U (limit:H),.func (.func f) #[rv] #[]] w fun v w'=>v=.tuple #[]/\RowAt S w' g enc (pdq (Br cf) d a b limit Af Af)/\(pdq (Br cf) d a b limit Af Af).size=d.size:=by
 intro m
 induction m with
 |zero=>
  simp
 |succ m ih=>
  intro a b limit d w hm hN b4 hb bs hB h;subst hN;refine Bw func282 Z ntmps282 Be Z ?_;refine(O 9)<|Lo (fun((x,y,i,pr,e,wr):Y×Y×Y×(Aw×Aw)×(Ap α)×Ad)=>(y-x<m+1/\x<=y/\y<=d.size/\i<=1000/\Below (Br cf) x y e/\e.size=d.size/\pdq (Br cf) e x y i pr.1 pr.2=pdq (Br cf) d a b limit Af Af/\RowAt S wr g enc e,[(0,.slice (X ⟨g,0,Aa⟩) d.size d.size),(1,U x),(2,U y),(3,U i),(4,.func (.func f) #[rv] #[]),(10,.bool pr.1),(11,.bool pr.2)],wr,y-x)) (a,b,limit,(Af,Af),d,w) ?_ ?_
  .grind
  .rintro⟨x,y,i,⟨l,k⟩,e,wr⟩⟨b1,a7,bx,b2,bn,a0,he,hr⟩;generalize pdq (Br cf) d a b limit Af Af=R at he;refine(O 14)<|Zi (fun bq=>?_) fun bq=>?_
   .rw[pdq_small J]at he;refine(O 6∘Zc (vx V d.size e x y a0.symm a7 J J wr hr)) ?_;rintro _ w2⟨rfl,G,a3⟩;refine(O 1) ?_;refine Gd<|HS Z ?_;grind
   .refine(O 7)<|Zi (fun h0=>?_) fun h0=>?_
    .rw[pdq_heap J h0]at he;refine(O 6∘Zc (va V d.size e x y a0.symm J J J wr hr)) ?_;rintro _ w2⟨rfl,G,a3⟩;refine(O 1) ?_;refine Gd<|HS Z ?_;grind
    .have I:x+12<y:=J;have F:=rd_facts (wb:=l) (wp:=k) (limit:=i) hO partialInsertionSort_holds reverseRange_holds (show x<y by omega) (show y<=e.size by omega) bn;refine(O 3)<|Ld (fun((j,W,w1):Y×(Ap α)×Ad)=>(W=(rd (Br cf) e x y i l k).d1/\j=(rd (Br cf) e x y i l k).lim/\RowAt S w1 g enc W,[(0,.slice (X ⟨g,0,Aa⟩) d.size d.size),(1,U x),(2,U y),(3,U j),(4,.func (.func f) #[rv] #[]),(10,.bool l),(11,.bool k),(12,U (((y-x):Y):H))],w1)) ?_ ?_
     .rcases l with _|_
      .refine(O 11∘Zc (rD V d.size e x y a0.symm I J J wr hr)) ?_;rintro _ w2⟨rfl,G,a3⟩;refine(O 6∘Lm ((i-1),(breakPatterns e x y),w2)) ?_;exact⟨Z,Z,G⟩
      .refine(O 6∘Lm (i,e,wr)) ?_;exact⟨Z,Z,hr⟩
     .rintro⟨j,W,w1⟩⟨a1,K,bc⟩;have F1:=F.1;rw[<-a1]at F1;refine(O 6∘Zc (yW V d.size W x y J I J J w1 bc)) ?_;rintro _ w2⟨rfl,G⟩;refine(O 8) ?_;have bm:(rd (Br cf) e x y i l k).c=choosePivot (Br cf) W x y:=by rw[a1];rfl
      rw[<-bm];have F3:=F.2.2.1
      have a5:OZ (rd (Br cf) e x y i l k).c.2=2↔(rd (Br cf) e x y i l k).c.2=.decreasing:=by
       cases(rd (Br cf) e x y i l k).c.2<;>simp[OZ]
      refine Ld (fun((ph,e2,P):(Y×Y)×(Ap α)×Ad)=>(e2=(rd (Br cf) e x y i l k).d2/\ph.1=(rd (Br cf) e x y i l k).pivot/\ph.2=OZ (rd (Br cf) e x y i l k).hint/\RowAt S P g enc e2,[(0,.slice (X ⟨g,0,Aa⟩) d.size d.size),(1,U x),(2,U y),(3,U j),(4,.func (.func f) #[rv] #[]),(10,.bool l),(11,.bool k),(12,U (((y-x):Y):H)),(13,U ((ph.1:Y):H)),(14,U ((ph.2:Y):H))],P)) ?_ ?_
      .refine(O 4)<|Zi (fun hh=>?_) fun hh=>?_
       .have hD:=rd_dec (a5.1 J);refine(O 6∘Zc (zZ V d.size W x y J J J J w2 G)) ?_;rintro _ P⟨rfl,B,b0⟩;refine(O 14∘Lm ((y-1-((rd (Br cf) e x y i l k).c.1-x),1),(reverseRange W x y),P)) ?_;exact⟨by rw[hD.1,a1],by rw[hD.2.1],by rw[hD.2.2];rfl,B⟩
       .have hD:=rd_not (fun z=>hh (by have:=a5.2 z;omega));refine(O 1∘Lm (((rd (Br cf) e x y i l k).c.1,OZ (rd (Br cf) e x y i l k).c.2),W,w2)) ?_;grind
      .rintro⟨⟨p,hn⟩,e2,P⟩⟨t,ai,bl,B⟩;have F4:=F.2.2.2.1;rw[<-t]at F4
       have b3:hn=1↔(rd (Br cf) e x y i l k).hint=.increasing:=by
        rw[show hn=OZ (rd (Br cf) e x y i l k).hint from bl];cases(rd (Br cf) e x y i l k).hint<;>simp[OZ]
       refine(O 2)<|Ld (fun((o,w4):(Ap α)×Ad)=>(o=(rd (Br cf) e x y i l k).pi.1/\(rd (Br cf) e x y i l k).pi.2=Aj/\RowAt S w4 g enc o,[(0,.slice (X ⟨g,0,Aa⟩) d.size d.size),(1,U x),(2,U y),(3,U j),(4,.func (.func f) #[rv] #[]),(10,.bool l),(11,.bool k),(12,U (((y-x):Y):H)),(13,U p),(14,U hn)],w4)) ?_ ?_
       .rcases l with _|_
        .have C:=rd_pi_no (lt:=Br cf) (d:=e) (a:=x) (b:=y) (limit:=i) (wb:=Aj) (wp:=k) Z;refine(O 12∘Lm (e2,P)) ?_;exact⟨by rw[C];exact t,by rw[C],B⟩
        .rcases k with _|_
         .have C:=rd_pi_no (lt:=Br cf) (d:=e) (a:=x) (b:=y) (limit:=i) (wb:=Af) (wp:=Aj) Z;refine(O 12∘Lm (e2,P)) ?_;exact⟨by rw[C];exact t,by rw[C],B⟩
         .refine(O 10)<|Zi (fun h1=>?_) fun h1=>?_
          .have C:=rd_pi_yes (lt:=Br cf) (d:=e) (a:=x) (b:=y) (limit:=i) (wb:=Af) (wp:=Af) Bh;refine(O 6∘Zc (yM V d.size e2 x y J J J J P B)) ?_;rintro _ L⟨rfl,E,a9⟩;refine(O 1) ?_;rw[t,<-C]at E a9;refine HE Z (fun T=>?_) (fun T=>?_)
           .rw[t,<-C]at T;rw[pdq_done J J T]at he;refine Gd<|HS Z ?_;grind
           .rw[t,<-C]at T;refine(O 1∘Lm (((rd (Br cf) e x y i Af Af).pi.1),L)) ?_;grind
          .have C:=rd_pi_no (lt:=Br cf) (d:=e) (a:=x) (b:=y) (limit:=i) (wb:=Af) (wp:=Af) Bh;refine(O 1∘Lm (e2,P)) ?_;exact⟨by rw[C];exact t,by rw[C],B⟩
       .rintro⟨o,w4⟩⟨r,aj,bb⟩;have F6:=F.2.2.2.2.2.1;have F7:=F.2.2.2.2.2.2;rw[<-r]at F7;rw[<-(show p=(rd (Br cf) e x y i l k).pivot from ai)]at F6;have A:=bb.ext (Bf.drew w4);refine(O 2)<|Ld (fun(L:Ad)=>((decide (x>0) && !Br cf o[x-1]! o[p]!)=Aj/\RowAt S L g enc o,[(0,.slice (X ⟨g,0,Aa⟩) d.size d.size),(1,U x),(2,U y),(3,U j),(4,.func (.func f) #[rv] #[]),(10,.bool l),(11,.bool k),(12,U (((y-x):Y):H)),(13,U p),(14,U hn)],L)) ?_ ?_
        .refine(Yr 17 (fun w'=>RowAt S w' g enc o) A) fun hS=>(Gv [0,1,2]) ?_;refine Kc 83 Z (fun a6=>?_) (fun a6=>?_)
         .refine(Gv [3,4,5,6,7]∘Yw 8 (he:=by exact fun _ a2=>Bo a2.bk (hi:=BQ J))∘Gv [9,10,11]∘Yw 12 (he:=by exact fun _ a2=>Bo a2.bk (hi:=BQ J))) ?_;refine GR 13 Z Be Z Z Z Z Z (V.call w4.drew _ _ A.mo) ?_;rintro _ L⟨rfl,ab⟩;refine⟨hS.ext ab,fun hS=>?_⟩;refine(Gv [14,15,16]∘Yd)<|Zi (fun hq=>?_) fun hq=>?_
          .have bh:Br cf o[x-1]! o[p]! =Aj:=AN hq;have RE:=round_eq (mid:=(partitionEqual (Br cf) o x y p).1) (d4:=(partitionEqual (Br cf) o x y p).2) hO (partitionEqual_holds (Br cf)) a6 F6.1 F6.2 J F7.2 bh (Z:partitionEqual (Br cf) o x y p=((partitionEqual (Br cf) o x y p).1,(partitionEqual (Br cf) o x y p).2));have bf:=pdq_eq (lt:=Br cf) (d:=e) (a:=x) (b:=y) (limit:=i) (wb:=l) (wp:=k) J h0 aj Bh Bh;rw[<-r,<-(show p=(rd (Br cf) e x y i l k).pivot from ai),<-K]at bf;have R1:=RE.1;have R2:=RE.2.1;have R3:=RE.2.2.1;have F71:=F7.1;have bj:=rd_lim_le (lt:=Br cf) (d:=e) (a:=x) (b:=y) (limit:=i) (wb:=l) (wp:=k);have E:=A.ext ab;refine(O 7∘Zc (yL V d.size o x y p J F6.1 F6.2 J J L E)) ?_;rintro _ w6⟨rfl,D,af⟩;refine(O 8)<|Lb (((partitionEqual (Br cf) o x y p).1),y,j,(l,k),((partitionEqual (Br cf) o x y p).2),w6) ?_;grind
          .refine(O 1∘Lm L) ?_;exact⟨by rw[show Br cf o[x-1]! o[p]! =Af from AM (Dm.1 hq)];simp,A.ext ab⟩
         .refine(Gv [3,4,5,6,7,8,9,10,11,12,13,14,15,16]∘Yd∘O 2∘Lm _) ?_;grind
        .rintro L⟨a4,E⟩;have RP:=round_part (mid:=(partition (Br cf) o x y p).1) (ap:=(partition (Br cf) o x y p).2.1) (d4:=(partition (Br cf) o x y p).2.2) hO (partition_holds (Br cf)) F6.1 F6.2 J F7.2 Z;have bj:=rd_lim_le (lt:=Br cf) (d:=e) (a:=x) (b:=y) (limit:=i) (wb:=l) (wp:=k);have q:p=(rd (Br cf) e x y i l k).pivot:=ai;have ao:=pdq_left (lt:=Br cf) (d:=e) (a:=x) (b:=y) (limit:=i) (wb:=l) (wp:=k) J h0 aj (by rw[<-r,<-q];exact a4) (by rw[<-r,<-q];exact⟨RP.1,RP.2.1⟩);have al:=pdq_right (lt:=Br cf) (d:=e) (a:=x) (b:=y) (limit:=i) (wb:=l) (wp:=k) J h0 aj (by rw[<-r,<-q];exact a4) (by rw[<-r,<-q];exact⟨RP.1,RP.2.1⟩);rw[<-r,<-q,<-K]at ao al;have F71:=F7.1;refine(O 7∘Zc (yK V d.size o x y p J F6.1 F6.2 J J L E)) ?_;rintro _ w6⟨rfl,D,af⟩;refine(O 34) ?_;generalize partition (Br cf) o x y p=Q at RP ao al D af;obtain⟨n,ap,d4⟩:=Q;obtain⟨P1,P2,P3,P4,P5,P6,P7⟩:=RP;simp only at P1 P2 P3 P4 P5 P6 P7 ao al D af;refine Zi (fun bi=>?_) fun bi=>?_
         .have PL:=pdq_sorts (Br cf) hO d4 x n j Af Af J J P4;refine(O 14∘Zc (ih x n j d4 w6 J J J J J P4 D)) ?_;rintro _ w7⟨rfl,ba,a8⟩;refine(O 7)<|Lb ((n+1),y,j,(decide (n-x≥(y-x)/8),ap),(pdq (Br cf) d4 x n j Af Af),w7) ?_;grind
         .have PL:=pdq_sorts (Br cf) hO d4 (n+1) y j Af Af J J P5;refine(O 15∘Zc (ih (n+1) y j d4 w6 J J J J J P5 D)) ?_;rintro _ w7⟨rfl,ba,a8⟩;refine(O 6)<|Lb (x,n,j,(decide (y-n≥(y-x)/8),ap),(pdq (Br cf) d4 (n+1) y j Af Af),w7) ?_;grind
end
end
section
attribute [local irreducible] OW KW QW EX GW NV
open Go.Sort Bz
section
variable{α:Type}[Inhabited α]{enc:α->Ah}{cf:α->α->H}
def Aci{a:Ad}{g f:Y}{k:Ah}(r:CmpAt a g f k enc cf)(l:SWO (Br cf))(d:Ap α)(h0:0<d.size)(hsz:d.size<=1000000000)(w:Ad)(h:RowAt a w g enc d):
 Bn prog 264 [.slice (X ⟨g,0,Aa⟩) d.size d.size,.func (.func f) #[k] #[]] w fun v w'=>v=.tuple #[]/\∃d':Ap α,d'.toList.Perm d.toList/\d'.size=d.size/\(∀i j,i<j->j<d'.size->Br cf d'[j]! d'[i]! =Aj)/\RowAt a w' g enc d':=by
 have q:DL d.size<64:=(TY J).2 J
 have t:Go.Lib.bitLen (d.size:H).toNat=DL d.size+1:=by
  rw[RH,Go.Proofs.bitLen_eq d.size J];unfold bitsLen;rw[Ag J]
 refine Bw func264 Z ntmps264 Be Z ?_;refine(O 11∘Zc (GY func109 Be (Tryz.bits_Len (d.size:H) w J J))) ?_;rintro _ A⟨rfl,rfl⟩;refine(O 1) ?_;rw[t];refine(Zc (pdq_s r l d.size hsz (d.size+1) 0 d.size (DL d.size+1) d _ J Z (BD _) (Bq _) J (.inl Z) h)) ?_;rintro _ y⟨rfl,p,D⟩;refine(O 1) ?_;refine KW.done<|HS Z ?_;obtain⟨n,m⟩:=pdq_sorts (Br cf) l d 0 d.size (DL d.size+1) Af Af (BD _) (Bq _) (.inl Z);obtain⟨o,_,B⟩:=n;refine⟨Z,_,?_,o,fun i j e E=>m i j (BD _) e J,p⟩;have G:∀x:Ap α,x.size=d.size->x.extract 0 d.size=x:=fun x C=>by grind
 grind
end
abbrev OH(n:Y):={i:Y//i<n}
def QY{n:Y}(x:OH n):Ah:=U (x.1:H)
section
variable{s:Bg}{K b:Y}{rank:Bi}
def Aan(hk:Key s K rank b):SWO (Br fun x y:OH (Aim s)=>Mt rank b x.1 y.1):=by
 have e:=hk.neg;refine⟨fun x=>AN fun h=>?_,fun x y z d a=>AM ?_,fun x y z d a=>AN fun h=>?_⟩
 .rcases(e _ _ x.2 x.2).1 h with q|q
  .exact jW q
  .omega
 .have d:=(e _ _ x.2 y.2).1 (AO d);have a:=(e _ _ y.2 z.2).1 (AO a);refine(e _ _ x.2 z.2).2 ?_;rcases d with d|⟨m,j⟩
  .rcases a with a|⟨l,i⟩
   .exact .inl (jX d a)
   .grind
  .grind
 .have d:=fun q=>AR d ((e _ _ x.2 y.2).2 q);have a:=fun q=>AR a ((e _ _ y.2 z.2).2 q);have f:=(e _ _ x.2 z.2).1 h;rcases YZ (pre s K x.1) (pre s K y.1)with q|q|q
  .grind
  .grind
  .rcases f with f|⟨k,g⟩
   .exact a (.inl (jX q f))
   .grind
def mv(hk:Key s K rank b)(q:Aim rank=Aim s)(h0:0<Aim s)(hn:Aim s<=1000000000)(hb:b<=1000000000)(N:∀x∈rank,x<=1000000000)(g a:Y)(Q:a≠g)(o:Bi)(B:o.Perm (BE (Aim s)))(w:Ad)(hg:Bk w g 3 (BC .i64 o))(r:Bk w a 3 (BC .i64 rank)):
 Bn prog 264 [.slice (X ⟨g,0,Aa⟩) (Aim s) (Aim s),.func (.func 265) #[.agg (NO (X ⟨a,0,Aa⟩) (Aim s) (Aim s) b).toArray] #[]] w fun v w'=>v=.tuple #[]/\∃o',Sd s K o'/\Bk w' g 3 (BC .i64 o')/\Mo w w' [g]:=by
 haveI:Inhabited (OH (Aim s)):=⟨⟨0,h0⟩⟩
 have V:CmpAt w g 265 (.agg (NO (X ⟨a,0,Aa⟩) (Aim s) (Aim s) b).toArray) (QY (n:=Aim s)) (fun x y=>Mt rank b x.1 y.1):=by
  refine⟨fun W x y S=>?_,fun _=>rfl,⟨_,Z⟩⟩;have hW:=r.mo S Bh;have:=sn (X ⟨a,0,Aa⟩) (Aim s) b rank x.1 y.1 J J J hb N W.heap.size W hW.sl;rw[q]at this;exact this
 have A:Aim o=Aim s:=by rw[B.length_eq,GV]
 have k:∀i∈o,i<Aim s:=fun i D=>CQ.1 (B.subset D)
 have hd:∀l:Bi,(E:∀i∈l,i<Aim s)->Jb QY (l.pmap (fun i h=>(⟨i,h⟩:OH (Aim s))) E).toArray=BC .i64 l:=fun l E=>by
  unfold Jb BC QY;rw[WD];simp
 have L:(o.pmap (fun i h=>(⟨i,h⟩:OH (Aim s))) k).toArray.size=Aim s:=by simp[A]
 have d:RowAt w w g (QY (n:=Aim s)) (o.pmap (fun i h=>(⟨i,h⟩:OH (Aim s))) k).toArray:=⟨Bh,Mo.Age (Bf.refl w) _⟩;have G:=Aci V (Aan hk) _ J J w d;rw[L]at G;refine G.mono ?_;rintro v w'⟨e,m,P,I,p,f⟩
 have t:(m.toList.map (·.1)).Perm o:=by
  have:=P.map (fun x:OH (Aim s)=>x.1);rwa[WD,List.pmap_eq_map,List.map_id']at this
 refine⟨e,m.toList.map (·.1),Sd.Aif hk (t.trans B) (fun i j D T C=>?_),?_,f.mo⟩
 .simp only[DQ,Array.length_toList]at D T;have:=AR (p i j C J);grind
 .have:BC .i64 (m.toList.map (·.1))=Jb QY m:=by simp[BC,Jb,QY]
  rw[this];exact f.bk
end
end
end Go.Proofs.YtkmlafmjaeeanaaGreatDoor
