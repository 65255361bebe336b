/- TopCrash, part C: functions from rotations to the choice of tables. -/
import Derived.Test.YtkmlafmjaeeanaaGreatDoorMrkB
set_option linter.all false
set_option maxHeartbeats 2000000
set_option maxRecDepth 20000
open Go Go.RowKit Go.Proofs.Tryz
open _root_ renaming rfl→Z,Nat→Y,Int→H,List→Ae,if_neg→Ag,if_pos→Ai,Array→Ap,Bool→Ar,congrArg→Av,Option→Aw,trivial→AB,UInt8→AH,absurd→AI,String→AJ,decide_eq_true→AL,decide_eq_false→AN,of_decide_eq_true→AO,dif_pos→AQ,of_decide_eq_false→AR
open _root_.And renaming intro→If
open _root_.Array renaming replicate→JX
open _root_.Bool renaming true→Af,false→Aj
open _root_.Go renaming World→Ad,Value→Ah,TypeId→Ay,Addr→AC,Program→AD,Act→AE,Operand→AF,Oper→AG,IntKind→AK,Code→AM,Exit→AP
open _root_.List renaming range→BF,replicate→BJ,length→DZ,range'→Ha,Pairwise→HE,toArray→Li,Perm→Oo,length→Ajb
open _root_.Nat renaming blt→BL,log2→Ea,beq→Jw,cast→Nd,reducePow→WV
open _root_.Option renaming some→RZ,some→J,none→Aa
open _root_.UInt8 renaming ofNat→BU
namespace Go.Proofs.YtkmlafmjaeeanaaGreatDoor
section
attribute [local irreducible] OW KW QW EX GW NV
open Bz
def Iv{k:AK}(l:Bj)(i x:Y):(BD k l).set i (.int k (x:H))=BD k (l.set i x):=by
 unfold BD;rw[List.map_set]
def KF(k:AK)(n x:Y):BD k (BJ n x)=BJ n (.int k (x:H)):=by
 unfold BD;rw[List.map_replicate]
def CG{l:Bj}{i:Y}(h:i<Ajb l):l.getD i 0=l[i]:=by
 rw[Ck,BR h];rfl
def jG{N:Y}(A:Aw AC)(c a:Y)(rank:Bj)(i:Y)(g:Ajb rank=N)(hi:i<N)(d:N<=1000000000)(e:a<=1000000000)(C:Y)(w:Ad)(h:Sl w C A (BD .i64 rank)):
 Bn prog 263 [.agg (NJ A N c a).toArray,U (i:H)] w fun v w'=>v=.tuple #[U ((rank.getD i 0:Y):H),U ((rank.getD ((i+a)%Ajb rank) 0:Y):H)]/\Bf w w':=by
 subst g;exact Za A c a rank i hi d e C w h
def qI{s:Bh}{K b:Y}{rank:Bj}(hk:Key s K rank b)(a0:Ajb rank=Ajb s)(h0:0<Ajb s)(hn:Ajb s<=1000000000)(hb:b<=1000000000)(o:Bj)(ho:Sd s K o)(rb g nb T:Y)(w:Ad)(ba:Bk w rb 3 (BD .i64 rank))(hg:Bk w g 3 (BD .i64 o))(a3:Bk w nb 3 [U (Ajb s:H)])(a1:Bk w T 51 [.slice (J ⟨g,0,Aa⟩) (Ajb s) (Ajb s)]):
 Bn prog 262 [.agg (NJ (J ⟨rb,0,Aa⟩) (Ajb s) (Ajb s) b).toArray,.pointer (J ⟨nb,0,Aa⟩),.pointer (J ⟨T,0,Aa⟩)] w fun v w'=>∃vb next,v=.slice (J ⟨vb,0,Aa⟩) (Ajb s) (Ajb s)/\w.heap.size<=vb/\Bk w' vb 3 (BD .i64 next)/\Ajb next=Ajb s/\(∀k,k<Ajb o->next.getD (o.getD k 0) 0=FG s K o k)/\Bf w w':=by
 have b1:=ho.lng;have m:∀k,k<Ajb s->o.getD k 0<Ajb s:=fun k hk=>by rw[CG X];exact ho.lt _ (BM _)
 have bh:∀i j,i<Ajb s->j<Ajb s->o.getD i 0=o.getD j 0->i=j:=fun i j Q hj e=>by
  rw[CG X,CG X]at e;exact(MZ (ho.perm.nodup_iff.2 Qc)).1 e
 refine Bw func262 Z ntmps262 Be Z ?_;refine(O 2) ?_;refine Dz Z Z Z ?_;rintro xb w1 b0 a7 E;refine(O 4∘Zv (Bp (a3.ext E))∘Gk) ?_;rintro vb w2 bx bq aj;refine(O 8) ?_;have x2:=E.trans aj;have a8:xb≠vb:=by have:=a7.lt;omega
 have a9:w.heap.size<=vb:=by have:=E.size;omega
 refine Lo (fun((k,r,wr):Y×(Bj)×Ad)=>(1<=k/\k<=Ajb s/\Ajb r=Ajb s/\(∀j,j<k->r.getD (o.getD j 0) 0=FG s K o j)/\Bk wr vb 3 (BD .i64 r)/\Mo w2 wr [vb],[(1,.pointer (J ⟨nb,0,Aa⟩)),(2,.pointer (J ⟨T,0,Aa⟩)),(3,.pointer (J ⟨xb,0,Aa⟩)),(5,.slice (J ⟨vb,0,Aa⟩) (Ajb s) (Ajb s)),(6,U k)],wr,Ajb s-k)) (1,(BJ (Ajb s) 0),w2) ?_ ?_
 .refine⟨Bv _,h0,Cq,fun j hj=>?_,by rw[KF];exact bq,Mo.refl _ _⟩;obtain rfl:j=0:=X;rw[CG (by rw[Cq];exact m 0 h0),List.getElem_replicate];rfl
 .rintro⟨k,r,wr⟩⟨b5,b4,L,I,hv,N⟩;have V:Bf w wr:=Bu x2 N x2.size Bx;have ab:=(a7.ext aj).mo N (by simpa using a8);have b3:=a3.ext V;have G:=a1.ext V;have S:=hg.ext V;have ao:=ba.ext V;refine(O 7)<|Zi (fun hc=>?_) fun hc=>?_
  .have i1:=m (k-1) X;have i2:=m k hc;refine(O 4∘Yr 12 (fun w'=>Bf wr w') (Bf.drew wr)) fun y=>(Yw 0 (he:=by exact fun _ l=>BW (ab.ext l))∘Yw 1 (he:=by exact fun _ l=>Bp (G.ext l))∘Gv [2,3,4]∘Yw 5 (he:=by exact fun _ l=>Bp (S.ext l) (hi:=Fx X))∘Yc 6 (jG (J ⟨rb,0,Aa⟩) (Ajb s) b rank (o.getD (k-1) 0) a0 i1 hn hb _ wr.drew (ao.ext (Bf.drew wr)).sl)) ?_;rintro _ w5⟨rfl,ai⟩;refine⟨y.trans ai,fun y=>?_⟩;refine(Gv [7,8,9,10,11]∘Yd∘O 1) ?_;have W:=(Bf.drew wr).trans ai;refine(Yr 11 (fun w'=>Bf w5 w') (Bf.drew w5)) fun y=>(Yw 0 (he:=by exact fun _ l=>BW ((ab.ext W).ext l))∘Yw 1 (he:=by exact fun _ l=>Bp ((G.ext W).ext l))∘Gv [2,3]∘Yw 4 (he:=by exact fun _ l=>Bp ((S.ext W).ext l) (hi:=Fx X))∘Yc 5 (jG (J ⟨rb,0,Aa⟩) (Ajb s) b rank (o.getD k 0) a0 i2 hn hb _ w5.drew ((ao.ext W).ext (Bf.drew w5)).sl)) ?_;rintro _ w6⟨rfl,af⟩;refine⟨y.trans af,fun y=>?_⟩;refine(Gv [6,7,8,9,10]∘Yd∘O 1) ?_;have x6:=W.trans ((Bf.drew w5).trans af);have al:=(hv.ext x6).drew;have a2:=(G.ext x6).drew;have a4:=(S.ext x6).drew;have bc:T≠vb:=by have:=a1.lt;omega
   have bj:g≠vb:=by have:=hg.lt;omega
   have h:=hk.same _ _ i1 i2;generalize ha:rank.getD (o.getD (k-1) 0) 0=a at h;generalize b7:rank.getD (o.getD k 0) 0=c at h;generalize b8:rank.getD ((o.getD (k-1) 0+b)%Ajb rank) 0=bb at h;generalize b6:rank.getD ((o.getD k 0+b)%Ajb rank) 0=d at h;have p:r.getD (o.getD (k-1) 0) 0=FG s K o (k-1):=I (k-1) X;have bm:=Xz s K o (k-1);generalize bn:FG s K o (k-1)=cg at p bm;refine(Yr 15 (fun w'=>Bk w' T 51 [.slice (J ⟨g,0,Aa⟩) (Ajb s) (Ajb s)]/\Bk w' g 3 (BD .i64 o)) (If a2 a4)) fun y=>(Gv [0,1,2,3]∘Yw 4 (he:=by exact fun _ l=>Bp l.2 (hi:=Fx X))∘Gv [5,6,7,8,9]∘Yw 10 (he:=by exact fun _ l=>Bp l.2 (hi:=Fx X))∘Gv [11]∘Yo 12 (he:=by exact Bp al (hi:=Fx X))) fun y=>(Gv [13]∘Yt 14 al (hlt:=by rw[DO];omega)) ?_;rintro w7 C P;refine⟨⟨a2.mo P (by simpa using bc),a4.mo P (by simpa using bj)⟩,fun y=>?_⟩;refine(Yd∘O 1) ?_;rw[p,Iv]at C;have bl:=y.2;have b2:=y.1;have m7:Mo w2 w7 [vb]:=(N.trans (Mo.Agk (x6.trans (Bf.drew w6)) _)).trans P
   have B:FG s K o k=cg+if pre s K (o.getD (k-1) 0)≠pre s K (o.getD k 0)then 1 else 0:=by
    obtain⟨j,rfl⟩:∃j,k=j+1:=⟨k-1,X⟩;rw[<-bn];rfl
   have D:∀x,x=FG s K o k->∀j,j<k+1->(r.set (o.getD k 0) x).getD (o.getD j 0) 0=FG s K o j:=fun x hx j hj=>by
    rw[CG (by rw[HH];have:=m j X;omega),RQ];by_cases e:o.getD k 0=o.getD j 0
    .rw[Ai e,hx,bh k j hc X e]
    .rw[Ag e,<-CG,I j];rcases Df j k with q|q
     .exact q
     .exact AI (by rw[show j=k by omega]) e
   refine Lc (fun(d8:Ar)=>((d8=Af↔pre s K (o.getD (k-1) 0)≠pre s K (o.getD k 0)),[(1,.pointer (J ⟨nb,0,Aa⟩)),(2,.pointer (J ⟨T,0,Aa⟩)),(3,.pointer (J ⟨xb,0,Aa⟩)),(5,.slice (J ⟨vb,0,Aa⟩) (Ajb s) (Ajb s)),(6,U k),(58,.bool d8)],w7)) ?_ ?_
   .refine(O 5)<|Zd 54 (fun c1=>?_) fun c1=>?_
    .refine(O 5∘Lm Af) ?_;exact⟨fun _=>h.1 (.inl c1),fun _=>rfl⟩
    .refine(O 5∘Lm (decide (bb≠d))) ?_;rw[decide_eq_true_eq];exact⟨fun q=>h.1 (.inr q),fun q=>(h.2 q).resolve_left c1⟩
   .rintro d8 a5;refine HD Z (fun A=>?_) (fun A=>?_)
    .have bf:=a5.1 A;rw[Ai bf]at B
     have bs:(BD .i64 (r.set (o.getD k 0) cg))[o.getD k 0]? =J (U (cg:H)):=by
      rw[Fx (by rw[HH];omega),CG (by rw[HH];omega),List.getElem_set_self]
     refine(O 5∘Zv (Bp bl (hi:=Fx X))∘O 1∘Zv (Bp C (hi:=bs))∘O 2∘Zt C (hlt:=by rw[DO,HH];omega)) ?_;rintro w8 a6 bi;refine(O 7) ?_;rw[Iv,List.set_set]at a6;refine Lb ((k+1),(r.set (o.getD k 0) (cg+1)),w8) ?_;exact⟨X,hc,by rw[HH];exact L,D _ B.symm,a6,m7.trans bi⟩
    .have t:¬(pre s K (o.getD (k-1) 0)≠pre s K (o.getD k 0)):=fun q=>by rw[a5.2 q]at A;cases A
     rw[Ag t]at B;refine(O 7)<|Lb ((k+1),(r.set (o.getD k 0) cg),w7) ?_;exact⟨X,hc,by rw[HH];exact L,D _ B.symm,C,m7⟩
  .refine(O 6∘Br) ?_;refine⟨vb,r,Z,a9,hv,L,fun j hj=>I j X,V⟩
def rL{s:Bh}{K:Y}{o next:Bj}(a:Sd s K o)(hl:Ajb next=Ajb s)(j:∀k,k<Ajb o->next.getD (o.getD k 0) 0=FG s K o k)(p:Ajb s<=1000000000):∀x∈next,x<=1000000000:=fun x h=>by
 obtain⟨i,m,rfl⟩:=Hq.1 h;have l:i∈o:=a.perm.mem_iff.2 (DU.2 X);obtain⟨k,d,e⟩:=Hq.1 l;have g:=j k d;rw[CG d,e,CG m]at g;rw[g];have:=Xz s K o k;have:=a.lng;omega
def fill{α:Type}(f:Y->α)(z:α)(n i:Y):Ae α:=(BF i).map f++BJ (n-i) z
section
variable{α:Type}{f:Y->α}{z:α}{n i:Y}
def QJ(h:i<=n):Ajb (fill f z n i)=n:=by simp[fill];omega
def gE:fill f z n 0=BJ n z:=by simp[fill]
def QI:fill f z n n=(BF n).map f:=by simp[fill]
def QK(h:i<n):(fill f z n i).set i (f i)=fill f z n (i+1):=by
 unfold fill;rw[Nc _ _ Bi,DF,Hp,Fa,show n-i=n-(i+1)+1 by omega,Km,Ko,Ga,DT,Cx];rfl
end
def jA(n:Y):(BF n).map (fun(j:Y)=>Value.int .i64 (j:H))=BD .i64 (BF n):=rfl
def vF(s:Bh):(BF (Ajb s)).map (fun(j:Y)=>Value.int .i64 (((s.getD j 0).toNat:Y):H))=BD .i64 (s.map fun b=>b.toNat):=by
 unfold BD;apply MX Bi;intro i a d;simp only[DF,Hp]at a;simp[BR a]
def yH(s:Bh)(hs:Ajb s<=1000000)(w:Ad):
 Bn prog 226 [Bl s] w fun v w'=>Bf w w'/\∃g o,v=.slice (J ⟨g,0,Aa⟩) (Ajb s) (Ajb s)/\w.heap.size<=g/\Bk w' g 3 (BD .i64 o)/\IsOrd s o:=by
 refine Bw func226 Z ntmps226 Be Z ?_;refine(O 8∘Me) ?_;rintro nb w1 A ct l;refine(Zt ct) ?_;rintro w2 a3 ck;refine(O 2) ?_;have x2:Bf w w2:=Bu l ck l.size Bx;have c1:=a3.lt;refine Lc (fun((wr,g,y,G):Ad×Y×Y×Y)=>(Bf w2 wr/\w2.heap.size<=g/\w2.heap.size<=y/\w2.heap.size<=G/\g≠y/\Bk wr g 3 (BJ (Ajb s) (U 0))/\Bk wr y 3 (BJ (Ajb s) (U 0))/\Bk wr G 51 [.slice (J ⟨g,0,Aa⟩) (Ajb s) (Ajb s)],[(0,Bl (s)),(3,.pointer (J ⟨nb,0,Aa⟩)),(4,.pointer (J ⟨G,0,Aa⟩)),(5,.slice (J ⟨y,0,Aa⟩) (Ajb s) (Ajb s))],wr)) ?_ ?_
 .skip
  refine(Yr 7 (fun w'=>Bf w2 w'/\Bk w' nb 3 [U (Ajb s:H)]) ⟨Bf.drew w2,a3.drew⟩) fun a=>(Gv [0,2]) ?_;refine Wu 1 3 4 Be ?_ ?_ ?_
  .refine DL 1 Z Z Z underlying51 BV Z Z Z X X ?_;rintro g w1 A h l;have E:=BC a.1.size A
   try have m:g≠y:=(by have:=k.lt;omega)
   refine⟨⟨a.1.trans l,a.2.ext l⟩,fun a=>?_⟩;refine Ye 3 4 ?_ ?_
   .refine DL 3 Z Z Z underlying51 BV Z Z Z X X ?_;rintro y V p k e;have B:=BC a.1.size p
    try have m:g≠y:=(by have:=h.lt;omega)
    refine⟨⟨a.1.trans e,a.2.ext e⟩,fun a=>?_⟩;have h:=h.ext e;refine(Ym 4) ?_;rintro G w4 C t r;have D:=BC a.1.size C;refine⟨⟨a.1.trans r,a.2.ext r⟩,fun a=>?_⟩;have h:=h.ext r;have k:=k.ext r;refine(Yt 5 t) ?_;rintro I q d;have h:=h.mo d (by first|simpa using h.ne t Bc|(simp;omega));have k:=k.mo d (by first|simpa using k.ne t Bc|(simp;omega));refine⟨⟨Bu a.1 d a.1.size Bx,a.2.mo d Bx⟩,fun a=>?_⟩;refine(Gv [6]∘Yd∘Lm (I,g,y,G)) ?_;exact⟨a.1,E,B,D,m,h,k,q⟩
   .refine(Jm 4) ?_;rintro G w4 C t r;have D:=BC a.1.size C;refine⟨⟨a.1.trans r,a.2.ext r⟩,fun a=>?_⟩;have h:=h.ext r;refine Ye 3 5 ?_ ?_
    .refine DL 3 Z Z Z underlying51 BV Z Z Z X X ?_;rintro y V p k e;have B:=BC a.1.size p
     try have m:g≠y:=(by have:=h.lt;omega)
     refine⟨⟨a.1.trans e,a.2.ext e⟩,fun a=>?_⟩;have h:=h.ext e;have t:=t.ext e;refine(Yt 5 t) ?_;rintro I q d;have h:=h.mo d (by first|simpa using h.ne t Bc|(simp;omega));have k:=k.mo d (by first|simpa using k.ne t Bc|(simp;omega));refine⟨⟨Bu a.1 d a.1.size Bx,a.2.mo d Bx⟩,fun a=>?_⟩;refine(Gv [6]∘Yd∘Lm (I,g,y,G)) ?_;exact⟨a.1,E,B,D,m,h,k,q⟩
    .refine cW 5 Z Z GV Z Z (by first|rfl|assumption) (t) Bi ?_;rintro I q d;have h:=h.mo d (by first|simpa using h.ne t Bc|(simp;omega));refine⟨⟨Bu a.1 d a.1.size Bx,a.2.mo d Bx⟩,fun a=>?_⟩;refine GW.one 3 Be<|DL 3 Z Z Z underlying51 BV Z Z Z X X ?_;rintro y V p k e;have B:=BC a.1.size p
     try have m:g≠y:=(by have:=h.lt;omega)
     refine⟨⟨a.1.trans e,a.2.ext e⟩,fun a=>?_⟩;have h:=h.ext e;have q:=q.ext e;refine(Gv [6]∘Yd∘Lm (V,g,y,G)) ?_;exact⟨a.1,E,B,D,m,h,k,q⟩
  .refine DL 3 Z Z Z underlying51 BV Z Z Z X X ?_;rintro y V p k e;have B:=BC a.1.size p
   try have m:g≠y:=(by have:=h.lt;omega)
   refine⟨⟨a.1.trans e,a.2.ext e⟩,fun a=>?_⟩;refine Ye 1 4 ?_ ?_
   .refine DL 1 Z Z Z underlying51 BV Z Z Z X X ?_;rintro g w1 A h l;have E:=BC a.1.size A
    try have m:g≠y:=(by have:=k.lt;omega)
    refine⟨⟨a.1.trans l,a.2.ext l⟩,fun a=>?_⟩;have k:=k.ext l;refine(Ym 4) ?_;rintro G w4 C t r;have D:=BC a.1.size C;refine⟨⟨a.1.trans r,a.2.ext r⟩,fun a=>?_⟩;have k:=k.ext r;have h:=h.ext r;refine(Yt 5 t) ?_;rintro I q d;have k:=k.mo d (by first|simpa using k.ne t Bc|(simp;omega));have h:=h.mo d (by first|simpa using h.ne t Bc|(simp;omega));refine⟨⟨Bu a.1 d a.1.size Bx,a.2.mo d Bx⟩,fun a=>?_⟩;refine(Gv [6]∘Yd∘Lm (I,g,y,G)) ?_;exact⟨a.1,E,B,D,m,h,k,q⟩
   .refine(Jm 4) ?_;rintro G w4 C t r;have D:=BC a.1.size C;refine⟨⟨a.1.trans r,a.2.ext r⟩,fun a=>?_⟩;have k:=k.ext r;refine GW.one 1 Be<|DL 1 Z Z Z underlying51 BV Z Z Z X X ?_;rintro g w1 A h l;have E:=BC a.1.size A
    try have m:g≠y:=(by have:=k.lt;omega)
    refine⟨⟨a.1.trans l,a.2.ext l⟩,fun a=>?_⟩;have k:=k.ext l;have t:=t.ext l;refine(Yt 5 t) ?_;rintro I q d;have k:=k.mo d (by first|simpa using k.ne t Bc|(simp;omega));have h:=h.mo d (by first|simpa using h.ne t Bc|(simp;omega));refine⟨⟨Bu a.1 d a.1.size Bx,a.2.mo d Bx⟩,fun a=>?_⟩;refine(Gv [6]∘Yd∘Lm (I,g,y,G)) ?_;exact⟨a.1,E,B,D,m,h,k,q⟩
  .refine(Jm 4) ?_;rintro G w4 C t r;have D:=BC a.1.size C;refine⟨⟨a.1.trans r,a.2.ext r⟩,fun a=>?_⟩;refine Ye 1 3 ?_ ?_
   .refine DL 1 Z Z Z underlying51 BV Z Z Z X X ?_;rintro g w1 A h l;have E:=BC a.1.size A
    try have m:g≠y:=(by have:=k.lt;omega)
    refine⟨⟨a.1.trans l,a.2.ext l⟩,fun a=>?_⟩;have t:=t.ext l;refine Ye 3 5 ?_ ?_
    .refine DL 3 Z Z Z underlying51 BV Z Z Z X X ?_;rintro y V p k e;have B:=BC a.1.size p
     try have m:g≠y:=(by have:=h.lt;omega)
     refine⟨⟨a.1.trans e,a.2.ext e⟩,fun a=>?_⟩;have t:=t.ext e;have h:=h.ext e;refine(Yt 5 t) ?_;rintro I q d;have h:=h.mo d (by first|simpa using h.ne t Bc|(simp;omega));have k:=k.mo d (by first|simpa using k.ne t Bc|(simp;omega));refine⟨⟨Bu a.1 d a.1.size Bx,a.2.mo d Bx⟩,fun a=>?_⟩;refine(Gv [6]∘Yd∘Lm (I,g,y,G)) ?_;exact⟨a.1,E,B,D,m,h,k,q⟩
    .refine cW 5 Z Z GV Z Z (by first|rfl|assumption) (t) Bi ?_;rintro I q d;have h:=h.mo d (by first|simpa using h.ne t Bc|(simp;omega));refine⟨⟨Bu a.1 d a.1.size Bx,a.2.mo d Bx⟩,fun a=>?_⟩;refine GW.one 3 Be<|DL 3 Z Z Z underlying51 BV Z Z Z X X ?_;rintro y V p k e;have B:=BC a.1.size p
     try have m:g≠y:=(by have:=h.lt;omega)
     refine⟨⟨a.1.trans e,a.2.ext e⟩,fun a=>?_⟩;have h:=h.ext e;have q:=q.ext e;refine(Gv [6]∘Yd∘Lm (V,g,y,G)) ?_;exact⟨a.1,E,B,D,m,h,k,q⟩
   .refine DL 3 Z Z Z underlying51 BV Z Z Z X X ?_;rintro y V p k e;have B:=BC a.1.size p
    try have m:g≠y:=(by have:=h.lt;omega)
    refine⟨⟨a.1.trans e,a.2.ext e⟩,fun a=>?_⟩;have t:=t.ext e;refine GW.one 1 Be<|DL 1 Z Z Z underlying51 BV Z Z Z X X ?_;rintro g w1 A h l;have E:=BC a.1.size A
    try have m:g≠y:=(by have:=k.lt;omega)
    refine⟨⟨a.1.trans l,a.2.ext l⟩,fun a=>?_⟩;have t:=t.ext l;have k:=k.ext l;refine(Yt 5 t) ?_;rintro I q d;have k:=k.mo d (by first|simpa using k.ne t Bc|(simp;omega));have h:=h.mo d (by first|simpa using h.ne t Bc|(simp;omega));refine⟨⟨Bu a.1 d a.1.size Bx,a.2.mo d Bx⟩,fun a=>?_⟩;refine(Gv [6]∘Yd∘Lm (I,g,y,G)) ?_;exact⟨a.1,E,B,D,m,h,k,q⟩
 .rintro⟨wr,g,y,G⟩⟨xr,E,B,D,m,hg,hf,a0⟩;have cf:=a3.ext xr;have cx:=x2.size;have W:=(hg.ne a0 Bc).symm;have bh:=(hf.ne a0 Bc).symm;refine(O 7)<|Lo (fun((i,wi):Y×Ad)=>(i<=Ajb s/\Bk wi g 3 (fill (fun(j:Y)=>Value.int .i64 (j:H)) (U 0) (Ajb s) i)/\Bk wi y 3 (fill (fun(j:Y)=>Value.int .i64 (((s.getD j 0).toNat:Y):H)) (U 0) (Ajb s) i)/\Mo wr wi [g,y],[(0,Bl (s)),(3,.pointer (J ⟨nb,0,Aa⟩)),(4,.pointer (J ⟨G,0,Aa⟩)),(5,.slice (J ⟨y,0,Aa⟩) (Ajb s) (Ajb s)),(16,U ((Ajb s:Y):H)),(17,U i)],wi,Ajb s-i)) (0,wr) ?_ ?_
  .exact⟨BE _,by rw[gE];exact hg,by rw[gE];exact hf,Mo.refl _ _⟩
  .rintro⟨i,wi⟩⟨hi,S,ai,af⟩;have bf:=a0.mo af (by simp;exact⟨W,bh⟩);have bq:=cf.mo af Bx;refine(O 5)<|Zi (fun hc=>?_) fun hc=>?_
   .have cn:s.getD i 0=s[i]:=by rw[Ck,BR hc];rfl
    have c2:=(s[i]).toNat_lt;have bi:=bf.drew;have b2:=S.drew;have cp:=ai.drew;refine(O 2) ?_;refine KW.block<|(O 2) ?_;refine OW.val Z Z (EX.move Z)<|(O 2∘Yr 13 (fun w'=>Bk w' G 51 [.slice (J ⟨g,0,Aa⟩) (Ajb s) (Ajb s)]/\Mo wr w' [g,y]) (If bi (af.trans (Mo.Agk (Bf.drew wi) [g,y])))) fun a=>(Gv [0,1,2,3,4,5,6]) ?_;refine GW.val 7 Z Be Be Be Z Z a (fun w' c4=>EW underlying9 Z Z (BR X))<|(Gv [8,9]∘Yt 10 b2 (hlt:=by rw[QJ hi];omega)) ?_;rintro I q d;refine⟨⟨bi.mo d (by simpa using W),a.2.trans (d.mono Bi)⟩,fun a=>?_⟩;refine(Gv [11]) ?_;have cq:=cp.mo d (by simpa using m.symm);refine(Yt 12 cq (hlt:=by rw[QJ hi];omega)) ?_;rintro w6 b7 a1;refine⟨⟨a.1.mo a1 (by simpa using bh),a.2.trans (a1.mono Bi)⟩,fun a=>?_⟩;refine(Yd∘O 5) ?_;have b4:=q.mo a1 (by simpa using m);rw[QK (f:=fun(j:Y)=>Value.int .i64 (j:H)) hc]at b4;rw[<-cn,QK (f:=fun(j:Y)=>Value.int .i64 (((s.getD j 0).toNat:Y):H)) hc]at b7;refine Lb ((i+1),w6) ?_;exact⟨X,b4,b7,a.2⟩
   .obtain rfl:i=Ajb s:=X;rw[QI,jA]at S;rw[QI,vF]at ai;have xi:Bf w wi:=Bu (x2.trans xr) af (x2.trans xr).size Bx;refine(O 7)<|Zi (fun hz=>?_) fun hz=>?_
    .refine(O 5∘Br) ?_;refine⟨xi,g,BF (Ajb s),Z,X,S,?_⟩;obtain rfl:s=[]:=Ih hz;exact⟨Oo.refl _,HE.nil⟩
    .have h0:0<Ajb s:=X;refine(O 3∘Zv (by exact Gf Z Z)∘O 6∘Zn) ?_;rintro xb V p cs e;refine(Zs cs) ?_;rintro w4 b8 cj;refine(O 6) ?_;have x4:Bf wi w4:=Bu e cj e.size Bx;have cu:=xi.size;have b1:=S.ext x4;have b5:=ai.ext x4;have aj:=bf.ext x4;have bn:=bq.ext x4;have b9:=(aj.ne b8 Bc).symm;have ca:xb≠nb:=by have:=bq.lt;omega
     have a6:xb≠g:=by have:=S.lt;omega
     refine Lo (fun((K,b,rank,rb,o,T):Y×Y×(Bj)×Y×(Bj)×Ad)=>(1<=K/\K<=2*Ajb s/\b<=K/\Key s K rank b/\Ajb rank=Ajb s/\(∀x∈rank,x<=1000000000)/\o.Perm (BF (Ajb s))/\rb≠g/\rb≠xb/\Bk T nb 3 [U (Ajb s:H)]/\Bk T G 51 [.slice (J ⟨g,0,Aa⟩) (Ajb s) (Ajb s)]/\Bk T g 3 (BD .i64 o)/\Bk T xb 351 (NJ (J ⟨rb,0,Aa⟩) (Ajb s) (Ajb s) b)/\Bk T rb 3 (BD .i64 rank)/\Bf w T,[(3,.pointer (J ⟨nb,0,Aa⟩)),(4,.pointer (J ⟨G,0,Aa⟩)),(7,.func (.func 262) #[] #[.pointer (J ⟨nb,0,Aa⟩),.pointer (J ⟨G,0,Aa⟩)]),(8,.pointer (J ⟨xb,0,Aa⟩)),(9,U K)],T,2*Ajb s-K)) (1,0,(s.map (fun b=>b.toNat)),y,(BF (Ajb s)),w4) ?_ ?_
     .refine⟨Bv _,X,X,(Aak s).key0,Bi,fun x hx=>?_,Oo.refl _,m.symm,?_,bn,aj,b1,b8,b5,xi.trans x4⟩
      .obtain⟨c,_,rfl⟩:=Cr.1 hx;have:=c.toNat_lt;omega
      .have:=ai.lt;omega
     .rintro⟨K,b,rank,rb,o,T⟩⟨c6,c5,c3,al,a9,cb,cd,bb,cz,cg,ce,cl,a5,ba,xk⟩;refine(O 5∘Zv (BW a5)∘Zv (by exact Gf Z Z)∘Zc (mu al a9 h0 X X cb g rb bb o cd T cl ba)) ?_;rintro _ I⟨rfl,o',P,a2,d⟩;refine(O 4) ?_;have ao:=a5.mo d (by simpa using a6);have cc:=ba.mo d (by simpa using bb);have bs:=cg.mo d Bx;have bl:=ce.mo d (by simpa using W);have x5:Bf w I:=Bu xk d xk.size Bx;refine(Zv (BW ao)∘DW (qI al a9 h0 X X o' P rb g nb G I cc a2 bs bl)) ?_;rintro _ w6⟨vb,next,rfl,cw,cr,ab,bm,N⟩;refine(O 2∘Zs (ao.ext N) (hlt:=by simp[NJ])) ?_;rintro w7 b6 Q;refine(O 4) ?_;have cv:=x5.size;have a4:vb≠xb:=by have:=ao.lt;omega
      have b0:vb≠g:=by have:=a2.lt;omega
      have ch:=(bs.ext N).mo Q (by simpa using ca.symm);have bj:=(bl.ext N).mo Q (by simpa using b9.symm);have b3:=(a2.ext N).mo Q (by simpa using a6.symm);have a7:=cr.mo Q (by simpa using a4);have x7:Bf w w7:=Bu (x5.trans N) Q (x5.trans N).size Bx;have L:=(Aaj P ab bm).key2;have bc:=rL P ab bm X;refine(O 3)<|Zi (fun cm=>?_) fun cm=>?_
      .refine(O 3∘Zv (BW b6)∘Zv (by exact Gf Z Z)∘Zc (mu L ab h0 X X bc g vb b0 o' P.perm w7 b3 a7)) ?_;rintro _ w8⟨rfl,o2,a8,co,bx⟩;refine(O 3) ?_;have c0:=bj.mo bx (by simpa using W);have x8:Bf w w8:=Bu x7 bx x7.size Bx;refine(O 3∘Br) ?_;exact⟨x8,g,o2,Z,X,co,vM a8 X⟩
      .refine(O 7)<|Lb ((K*2),K,next,vb,o',w7) ?_;rw[<-Nat.mul_two]at L;exact⟨X,X,X,L,ab,bc,P.perm,b0,a4,ch,bj,b3,b6,a7,x7⟩
end
section
def Jj:Y->Y->Y->Y
 |0,_,out=>out
 |n+1,v,out=>Jj n (v/2) ((out*2)%4294967296|||v%2)
def Qx(r:Y):Y:=if r &&& 2147483648≠0 then(r*2%4294967296) ^^^ 79764919 else r*2%4294967296
def Sk:Y->Y->Y
 |0,r=>r
 |k+1,r=>Qx (Sk k r)
def eU(k r:Y):Sk (k+1) r=Qx (Sk k r):=rfl
def Sq(i:Y):Y:=Sk 8 (i*16777216)
def OI(r b:Y):Y:=(r*256%4294967296) ^^^ Sq ((r/16777216) ^^^ b)
def Nq(r:Y)(s:Bh):Y:=s.foldl (fun r c=>OI r c.toNat) r
def Ey(s:Bh):Y:=4294967295-Nq 4294967295 s
def Sj(s:Bh):Y:=s.foldl (fun r c=>OI r (Jj 8 c.toNat 0)) 4294967295
def Fc(s:Bh):Y:=Jj 32 (4294967295-Sj s) 0
def OJ(c x:Y):Y:=((c*2%4294967296)|||c/2147483648) ^^^ x
def Hh(l:Bj):Y:=l.foldl OJ 0
def bd{α:Type}(l:Ae α)(k:Y)(h:k<Ajb l):l.take (k+1)=l.take k++[l[k]]:=by
 simp
def sA(r:Y):Qx r<4294967296:=by
 unfold Qx;split
 .exact OA (n:=32) X X
 .omega
def XJ(i:Y):Sq i<4294967296:=sA _
def XF(r b:Y):OI r b<4294967296:=OA (n:=32) X (XJ _)
def rW(r:Y)(s:Bh)(h:r<4294967296):Nq r s<4294967296:=by
 unfold Nq
 induction s generalizing r with
 |nil=>grind
 |cons c s ih=>exact ih _ (XF _ _)
def rX(r:Y)(s:Bh)(c:AH):Nq r (s++[c])=OI (Nq r s) c.toNat:=by simp[Nq]
def bC:∀n v o,o<4294967296->Jj n v o<4294967296
 |0,_,_,h=>h
 |n+1,v,o,h=>by
  exact bC n _ _ (LZ (n:=32) X X)
def ou:∀n v o j,o<2 ^ j->j+n<=32->Jj n v o<2 ^ (j+n)
 |0,_,_,_,h,_=>h
 |n+1,v,o,j,h,hj=>by
  unfold Jj
  have hm:o*2%4294967296<2 ^ (j+1):=by
   omega
  have:=ou n (v/2) (o*2%4294967296|||v%2) _ (LZ hm X) X;grind
def Aeu(v:Y):Jj 8 v 0<256:=ou 8 v 0 0 Bc Bc
def rO(s:Bh)(c:AH):Sj (s++[c])=OI (Sj s) (Jj 8 c.toNat 0):=by simp[Sj]
def Ux(c x:Y)(hx:x<4294967296)(hc:c<4294967296):OJ c x<4294967296:=
 OA (n:=32) (LZ (n:=32) X X) hx
def sB(l:Bj)(x:Y):Hh (l++[x])=OJ (Hh l) x:=by simp[Hh]
def Uy(l:Bj)(h:∀x∈l,x<4294967296):Hh l<4294967296:=by
 unfold Hh
 have:∀(l:Ae _) (c:Y),c<4294967296->(∀x∈l,x<4294967296)->l.foldl OJ c<4294967296:=by
  intro l
  induction l with
  |nil=>simp
  |cons x l ih=>intro c a h;exact ih _ (Ux c x (h x Bi) a) Bg
 grind
end
namespace Bz
def Db(u:By)(i:Y):Bs:=(BF 16).map fun k=>decide (BU (16*i+k)∈u)
def DM(u:By)(i:Y):Ar:=(Db u i).any id
def JU(u:By):Bs:=(BF 16).map (DM u)++(BF 16).flatMap fun i=>if DM u i then Db u i else[]
def NL(l:Bs)(i:Y):By:=((BF 16).filter fun k=>l.getD k Aj).map fun k=>BU (16*i+k)
def ID(s:By)(all:Bs):Bj->Y->By->Aw (By×Y)
 |[],p,acc=>J (acc,p)
 |i::is,p,acc=>
  if all.getD i Aj=Aj then ID s all is p acc
  else if 8*Ajb s<p+16 then Aa
  else ID s all is (p+16) (acc++NL (BX s p 16) i)
def ML(s:By)(p:Y):Aw (By×Y):=
 if 8*Ajb s<p+16 then Aa
 else match ID s (BX s p 16) (BF 16) (p+16) []with
  |none=>Aa
  |some (u,q)=>if u=[]then Aa else J (u,q)
def JR(u:By)(i:Y):Ajb (Db u i)=16:=by rfl
def aA(u:By)(i k:Y)(h:k<16):(Db u i).getD k Aj=decide (BU (16*i+k)∈u):=by
 unfold Db;grind
def aZ{s:By}{u:By}{all:Bs}:∀(is:Bj) (p:Y) (acc:By),(∀i∈is,all.getD i Aj=DM u i)->DG s p (is.flatMap fun i=>if DM u i then Db u i else[])->ID s all is p acc=J (acc++is.flatMap (fun i=>NL (Db u i) i),p+Ajb (is.flatMap fun i=>if DM u i then Db u i else[]))
 |[],p,acc,_,_=>by simp[ID]
 |i::is,p,acc,ha,hs=>by
  have h1:=ha i Bi;rw[FZ]at hs;rw[ID,h1,FZ,FZ];by_cases hb:DM u i=Af
  .rw[hb]at hs ⊢;rw[Ai Z]at hs;have hl:=hs.left;have hr:=hs.right;rw[JR]at hr;have h2:=hl.1;rw[JR]at h2;have h3:=hl.bits;rw[JR]at h3;rw[Ag Bc,Ag X,h3,aZ _ _ _ Bg hr,Ai Z,BA,JR,Cx,Kq]
  .have hb':=by simpa using hb
   rw[hb']at hs ⊢
   have e:NL (Db u i) i=[]:=by
    unfold NL;rw[List.map_eq_nil_iff,List.filter_eq_nil_iff];intro k d;have a:=DU.1 d;unfold DM at hb';rw[List.any_eq_false]at hb'
    have:=hb' ((Db u i).getD k Aj) (by
     rw[Ck,BR (by rwa[JR])];exact BM _)
    simpa using this
   rw[Ai Z,aZ _ p _ Bg hs,e];simp
def zI:BF 256=(BF 16).flatMap fun i=>(BF 16).map fun k=>16*i+k:=by decide+kernel
def Aed{s:By}{p:Y}{t:By}(h:t≠[])(d:DG s p (JU (used t))):ML s p=J (used t,p+Ajb (JU (used t))):=by
 unfold JU at d ⊢;have j:=d.left;have g:=d.right;have a:Ajb ((BF 16).map (DM (used t)))=16:=Bi;rw[a]at g;have o:=j.1;have l:=j.bits;rw[a]at l;have n:∀i∈BF 16,((BF 16).map (DM (used t))).getD i Aj=DM (used t) i:=Bg
 have e:(BF 16).flatMap (fun i=>NL (Db (used t) i) i)=used t:=by
  conv=>rhs;unfold used
  rw[zI,List.filter_flatMap,List.map_flatMap];congr 1;funext i;unfold NL;rw[List.filter_map,EO];congr 1;apply List.filter_congr;intro k m;have f:=DU.1 m;rw[aA _ _ _ f];exact decide_eq_decide.2 (mem_used t _)
 unfold ML;rw[Ag X,l,aZ _ _ _ n g];simp only[EP];rw[e,Ag (used_may h).1,BA,a,Kq]
open Classical in
noncomputable def GN(s:By):Bj:=if h:∃o,IsOrd s o then h.choose else[]
def lu{s:By}{o:Bj}(h:IsOrd s o):GN s=o:=by
 have a:∃o,IsOrd s o:=⟨o,h⟩;unfold GN;rw[AQ a];exact a.choose_spec.one h
def IsOrd.ex(s:By):∃o,IsOrd s o:=by
 let le:=fun i j=>i=j∨(Ej (CH s i) (CH s j)/\(CH s i=CH s j->i<j))
 have d:∀a b c,le a b->le b c->le a c:=fun a b c g f=>by
  rcases g with rfl|⟨g,n⟩
  .exact f
  .rcases f with rfl|⟨f,m⟩
   .grind
   .refine .inr ⟨Zg g f,fun e=>?_⟩;have p:=OZ g Bg;grind
 have h:∀a b,le a b∨le b a:=fun a b=>by
  rcases Uc a b with q|q|q
  .rcases UU (CH s a) (CH s b)with z|z
   .grind
   .grind
  .omega
  .rcases UU (CH s b) (CH s a)with z|z
   .grind
   .grind
 classical
 refine⟨(BF _).mergeSort fun i j=>decide (le i j),TQ _ _,?_⟩;have k:=dr (le:=fun i j=>decide (le i j)) Bg Bg (BF (Ajb s));have l:((BF (Ajb s)).mergeSort fun i j=>decide (le i j)).Nodup:=(TQ _ _).nodup_iff.2 Bg;refine HE.imp₂ ?_ k l;grind
def ZR(s:By):IsOrd s (GN s):=by
 obtain⟨o,h⟩:=IsOrd.ex s;rw[lu h];omega
noncomputable def NF(t:By):Bj:=(front (used t) (Gd t (GN t))).getD []
noncomputable def listOf(t:By):Bj:=Fq (Ajb (used t)) 0 (NF t)
noncomputable def blkB(s:By)(pl:Pl):Bs:=nb 48 54156738319193++(nb 32 (Ey s)++(Aj::(nb 24 (JS (GN (enc s)))++(JU (used (enc s))++(planBits pl++Ev pl (listOf (enc s)))))))
def Qn(s:By)(pl:Pl):Prop:=s≠[]->pl.Ok (Ajb (used (enc s))+2)/\Ajb pl.picks=grpN (Ajb (listOf (enc s)))
def JV(u:By)(l:Bj)(row most:Y):Aw By:=
 match Fp (Ajb u) most [] 0 1 l with
 |none=>Aa
 |some ps=>match GI u ps with
  |none=>Aa
  |some c=>if row<Ajb c then(if(dec 0 [] (back c row)).2=0 then J (dec 0 [] (back c row)).1 else Aa)else Aa
noncomputable def NR(s:By)(p most:Y):Aw (By×Y×Y):=
 if 8*Ajb s<p+48 then Aa
 else if num (BX s p 48)≠54156738319193 then Aa
 else if 8*Ajb s<p+80 then Aa
 else if 8*Ajb s<p+81 then Aa
 else if Cp s (p+80)=Af then Aa
 else if 8*Ajb s<p+105 then Aa
 else match ML s (p+105)with
  |none=>Aa
  |some (u,q)=>match MK s q (Ajb u+2)with
   |none=>Aa
   |some (pl,q2)=>match Is pl.tabs s (Ajb u+1) pl.picks q2 []with
    |none=>Aa
    |some (l,q3)=>match JV u l (num (BX s (p+81) 24)) most with
     |none=>Aa
     |some t=>if Ey t=num (BX s (p+48) 32)then J (t,Ey t,q3)else Aa
def Qu(s:By):Ey s<4294967296:=by unfold Ey;omega
def VY{t:By}(h:t≠[]):1<=Ajb (used t):=Na.2 (used_may h).1
structure Parts(t:By):Prop where
 front:front (used t) (Gd t (GN t))=J (NF t)
 len:Ajb (NF t)=Ajb t
 back:GI (used t) (NF t)=J (Gd t (GN t))
 lt:∀p∈NF t,p<Ajb (used t)
def ZX(t:By)(h0:t≠[]):Parts t:=by
 have d:=ZR t
 have a:∀b∈Gd t (GN t),b∈used t:=fun b j=>by
  obtain⟨i,g,rfl⟩:=Cr.1 j;rw[mem_used];have f:=DU.1 (d.perm.subset g);grind
 obtain⟨e,k,o,n,m⟩:=gY (Gd t (GN t)) (used t) a;have l:NF t=e:=by unfold NF;rw[k];rfl
 have h:Ajb (Gd t (GN t))=Ajb t:=by unfold Gd;rw[DF,d.lng]
 exact⟨Bg,Bg,Bg,Bg⟩
def listOf_len(t:By)(h0:t≠[]):1<=Ajb (listOf t)/\Ajb (listOf t)<=Ajb t+1/\(∀x∈listOf t,x<Ajb (used t)+2)/\∃r,listOf t=r++[Ajb (used t)+1]/\∀x∈r,x≠Ajb (used t)+1:=by
 have a:=ZX t h0;obtain⟨k,f,g,d⟩:=Wf (Ajb (used t)) (VY h0) (NF t) 0 a.lt;have e:listOf t=k++[Ajb (used t)+1]:=f;rw[a.len]at d;grind
def Adt{s text:By}{pl:Pl}{p most:Y}(h0:s≠[])(f:Qn s pl)(hl:Ajb s<=8192)(hm:20000<=most/\most<=262144)(e:DG text p (blkB s pl)):NR text p most=J (s,Ey s,p+Ajb (blkB s pl)):=by
 have a:=enc_ne h0;have v:=enc_len _ s X;have d:=Aam s X;obtain⟨j,K⟩:=f h0;unfold blkB at e ⊢;generalize k:enc s=t at*;have g:=ZX t a;obtain⟨I,G,r,q⟩:=listOf_len t a;obtain⟨E,D,o⟩:=dS (ZR t) a;obtain⟨V,T⟩:=Py e.left X;have i:=e.right;rw[nb_length]at i;obtain⟨S,Q⟩:=Py i.left (show Ey s<2 ^ 32 from Qu s);have n:=i.right;rw[nb_length]at n;obtain⟨P,N,m⟩:=NP n;obtain⟨L,C⟩:=Py m.left X;have h:=m.right;rw[nb_length]at h;have B:=Aed a h.left;have l:=h.right;have A:=Aea j l.left;have w:=l.right;have y:=uN j r q X w
 have x:JV (used t) (listOf t) (JS (GN t)) most=J s:=by
  unfold JV;have z:=Agd (most:=most) (VY a) g.lt (by rw[g.len];omega);rw[show Fp _ _ _ 0 1 (listOf t)=J _ from z];simp;rw[g.back];simp only;rw[Ai X,o,d];rfl
 unfold NR;rw[Ag X,Ag X,Ag X,Ag X,Ag Bg,Ag X,B];simp only;rw[A];simp only;rw[y];simp only;rw[show p+81=p+48+32+1 by omega,C,x];simp only;simp only[BA,nb_length,Cz];grind
def Ux{c x:Y}(e:c<4294967296)(hx:x<4294967296):OJ c x<4294967296:=by
 have d:c*2%4294967296<2 ^ 32:=X
 have a:c/2147483648<2 ^ 32:=by
  omega
 exact OA (LZ d a) hx
def Uy(l:Bj)(h:∀x∈l,x<4294967296):Hh l<4294967296:=by
 have:∀(l:Ae _) (c:Y),(∀x∈l,x<4294967296)->c<4294967296->l.foldl OJ c<4294967296:=fun l=>by
  induction l with
  |nil=>simp
  |cons x l ih=>
   intro c h a;rw[Kh];exact ih _ Bg (Ux a (h x Bi))
 exact this l 0 h Bi
def magicT:By:=[66,90,104,49]
noncomputable def blocksB(s:By)(pl:Pl):Bs:=if s=[]then[]else blkB s pl
def Ia(s:By):Bj:=if s=[]then[]else[Ey s]
noncomputable def MH(s:By)(pl:Pl):Bs:=bitsOf magicT++(blocksB s pl++(nb 48 25779555029136++nb 32 (Hh (Ia s))))
noncomputable def packS(s:By)(pl:Pl):By:=pack (MH s pl)
noncomputable def KO(s:By)(room:Y):Y->Y->By->Bj->Aw (By×Y)
 |0,_,_,_=>Aa
 |f+1,bit,out,sums=>
  if 8*Ajb s<bit+48 then Aa
  else if num (BX s bit 48)=25779555029136 then
   (if 8*Ajb s<bit+80 then Aa else if num (BX s (bit+48) 32)=Hh sums then J (out,(bit+87)/8)else Aa)
  else if num (BX s bit 48)=54156738319193 then
   match NR s bit room with
   |none=>Aa
   |some (x,sum,q)=>if 262144<Ajb out+Ajb x then Aa else KO s room f q (out++x) (sums++[sum])
  else Aa
def headT(s:By)(at_:Y):Aw Y:=
 if at_+4<=Ajb s/\s.getD at_ 0=66/\s.getD (at_+1) 0=90/\s.getD (at_+2) 0=104/\49<=(s.getD (at_+3) 0).toNat/\(s.getD (at_+3) 0).toNat<=57 then J ((s.getD (at_+3) 0).toNat-48)else Aa
noncomputable def takeS(s:By)(at_:Y):Aw (By×Y):=match headT s at_ with
 |none=>Aa
 |some level=>KO s (min (level*100000) 262144) (8*Ajb s+1) (8*(at_+4)) [] []
def streamB_length(s:By)(pl:Pl):Ajb (MH s pl)=32+(Ajb (blocksB s pl)+80):=by
 unfold MH;rw[BA,BA,BA,nb_length,nb_length,bitsOf_length];rfl
def ZH{s:By}{p n v:Y}(h:DG s p (nb n v))(hv:v<2 ^ n):¬8*Ajb s<p+n/\num (BX s p n)=v:=by
 obtain⟨a,b⟩:=Py h hv;omega
def Adv{s text:By}{pl:Pl}{p room:Y}(k:Qn s pl)(hl:Ajb s<=8192)(hm:20000<=room/\room<=262144)(i:DG text p (blocksB s pl++(nb 48 25779555029136++nb 32 (Hh (Ia s)))))(f:Y):KO text room (f+2) p [] []=J (s,(p+Ajb (blocksB s pl)+87)/8):=by
 have m:∀(f d:Y) (g:By) (a:Bj),(∀x∈a,x<4294967296)->DG text d (nb 48 25779555029136++nb 32 (Hh a))->KO text room (f+1) d g a=J (g,(d+87)/8):=fun f d g a j h=>by
  obtain⟨o,n⟩:=ZH h.left X;have q:=h.right;rw[nb_length]at q;obtain⟨w,v⟩:=ZH q (show Hh a<2 ^ 32 from Uy a j);rw[KO,Ag o,Ai n,Ag X,Ai v]
 by_cases l:s=[]
 .unfold blocksB Ia at*;grind
 .have r:blocksB s _=blkB s pl:=Ag l;have t:Ia s=[Ey s]:=Ag l;rw[r,t]at i;rw[r];have e:=Adt l k hl hm i.left
  have j:=by
   have:=i.left;exact this.left
  obtain⟨o,n⟩:=ZH j Bc;rw[KO,Ag o,Ag X,Ai n,e];simp only[EP];rw[Ag Bg,m f _ s _ (by simp;exact Qu s) i.right]
def takeS_pack{s:By}{pl:Pl}(d:Qn s pl)(hl:Ajb s<=8192)(pre suf:By):takeS (pre++packS s pl++suf) (Ajb pre)=J (s,Ajb pre+Ajb (packS s pl)):=by
 have g:=((DG.pack (MH s pl)).behind pre).more suf;rw[Jv]at g;have m:=streamB_length s pl;have p:Ajb (packS s pl)=(Ajb (MH s _)+7)/8:=pack_length _;have r:DG (pre++packS s pl++suf) (8*Ajb pre) (bitsOf magicT):=by exact g.left
 have a:∀j,j<4->(pre++packS s pl++suf).getD (Ajb pre+j) 0=magicT.getD j 0:=fun j D=>by
  have E:Ajb (bitsOf magicT)=32:=by rfl
  have t:∀k,k<8->Cp _ (8*Ajb pre+(8*j+k))=Cp magicT _:=fun k C=>by
   rw[r.2 _ X,Ck,rp (by show 8*j+k<8*4;omega)];rfl
  apply Ll.1;apply TY;intro i;rcases Df i 8 with h|h
  .have:=t (7-i) X;unfold Cp at this;rwa[show(8*Ajb pre+(8*j+(7-i)))/8=Ajb pre+j by omega,show(8*Ajb pre+(8*j+(7-i)))%8=7-i by omega,show(8*j+(7-i))/8=j by omega,show(8*j+(7-i))%8=7-i by omega,show 7-(7-i)=i by omega]at this
  .have B:(256)<=2 ^ i:=by
    have:=Gb (n:=2) Bc h;omega
   have A:=((pre++packS s pl++suf).getD (Ajb pre+j) 0).toNat_lt;have y:=(magicT.getD j 0).toNat_lt;rw[Qk X,Qk X]
 have l:=a 0 Bc;have x:=a 1 Bc;have w:=a 2 Bc;have v:=a 3 Bc;rw[Jv]at l
 have q:headT (pre++packS s pl++suf) (Ajb pre)=J 1:=by
  unfold headT;rw[l,x,w,v,Ai]
  .rfl
  .refine⟨?_,Z,Z,Z,Bc,Bc⟩;grind
 unfold takeS;rw[q];simp only
 have o:DG (pre++packS s pl++suf) (8*(Ajb pre+4)) (blocksB s pl++(nb 48 25779555029136++nb 32 (Hh (Ia s)))):=by
  have:=g.right;rwa[bitsOf_length,show 8*Ajb pre+8*Ajb magicT=8*(Ajb pre+4) by rfl]at this
 have e:∃f,8*Ajb (pre++packS s pl++suf)+1=f+2:=⟨8*Ajb (pre++packS s pl++suf)-1,Bg⟩;obtain⟨f,e⟩:=e;rw[e,Adv d hl Bc o f];simp;omega
end Bz
namespace Bz
def FH(L:By)(i b:Y):Y:=Ajb ((BF i).filter fun j=>decide ((L.getD j 0).toNat=b))
def FA(L:By):Y->Y
 |0=>0
 |b+1=>FA L b+FH L (Ajb L) b
def IZ(L:By)(i:Y):Y:=FA L (L.getD i 0).toNat+FH L i (L.getD i 0).toNat
def XG(L:By)(i b:Y):FH L (i+1) b=FH L i b+if(L.getD i 0).toNat=b then 1 else 0:=by
 unfold FH;rw[Ga,Lf,BA];grind
def fm(L:By)(b:Y):∀i,FH L i b<=i
 |0=>Bv _
 |i+1=>by
  have:=fm L b i;rw[XG];grind
def lU{i n:Y}(h:i<n):BF n=BF i++i::(BF (n-i-1)).map (i+1+·):=by
 have e:n=i+(n-i-1+1):=X
 conv=>lhs;rw[e]
 rw[List.range_add,List.range_succ_eq_map,Co,EO,Jv];simp;omega
def ui{p:Y->Ar}{i n:Y}(h:i<n)(a:p i=Af):((BF n).filter p)[Ajb ((BF i).filter p)]? =J i:=by
 rw[lU h,Lf,Ii X,Fa,List.filter_cons_of_pos a];rfl
def uw{α:Type}(f:Y->Ae α){b m k:Y}(h:b<m)(hk:k<Ajb (f b)):((BF m).flatMap f)[Ajb ((BF b).flatMap f)+k]? =(f b)[k]?:=by
 rw[lU h,IL,Ii X,Kr,FZ,FN hk]
def aR(L:By):∀b,FA L b=Ajb ((BF b).flatMap fun b=>(BF (Ajb L)).filter fun i=>decide ((L.getD i 0).toNat=b))
 |0=>rfl
 |b+1=>by
  rw[FA,aR,Ga,IL,BA,FZ,TL,List.append_nil];rfl
def VH{L:By}{i:Y}(h:i<Ajb L):(Ew L)[IZ L i]? =J i:=by
 unfold IZ;rw[aR];have a:=ui (p:=fun j=>decide ((L.getD j 0).toNat=(L.getD i 0).toNat)) h Bi;have d:=(Ki.1 a).1;have:=uw (fun b=>(BF _).filter fun i=>decide ((L.getD i 0).toNat=b)) (m:=256) (L.getD i 0).toNat_lt d;exact this.trans a
def Ada(L:By):FA L 256=Ajb L:=by rw[aR];exact Ti L
def nt(L:By)(b:Y):∀d,FA L b<=FA L (b+d)
 |0=>Bv _
 |d+1=>by
  have:=nt L b d;show _<=FA L (b+d)+_;omega
def nk(L:By){b:Y}(h:b<=256):FA L b<=Ajb L:=by
 have:=nt L b (256-b);rwa[show b+(256-b)=256 by omega,Ada]at this
def lG{L:By}{i:Y}(h:i<Ajb L):IZ L i<Ajb L:=by
 have:=(Ki.1 (VH h)).1;rwa[Ti]at this
def zu{L:By}{i j:Y}(hi:i<Ajb L)(a:j<Ajb L)(e:IZ L i=IZ L j):i=j:=by
 have d:=VH hi;rw[e,VH a]at d;grind
def Adb{L:By}{P:Bj}(hl:Ajb P=Ajb L)(h:∀i,i<Ajb L->P.getD (IZ L i) 0=i):P=Ew L:=by
 have f:=Ti L;have a:=(Tj L).nodup_iff.2 Bg;apply MX X;intro p l k;have g:(Ew L)[p]<Ajb L:=DU.1 ((Tj L).subset Bi);obtain⟨j,d⟩:=Ki.1 (VH g);have e:=(MZ a).1 d;grind
end Bz
section
attribute [local irreducible] OW KW QW EX GW NV
open Bz
def eG(l:Bh):(BF (Ajb l)).map (fun(j:Y)=>Value.int .u8 (((l.getD j 0).toNat:Y):H))=BI l:=by
 unfold BI;apply MX Bi;grind
def EK(k:AK)(n:Y)(F:Y->Y):Bm:=(BF n).map fun b=>Value.int k (F b:H)
section
variable{k:AK}{n i x:Y}{F G:Y->Y}
def Gy:Ajb (EK k n F)=n:=by simp[EK]
def MI(h:i<n):(EK k n F)[i]? =J (.int k (F i:H)):=by simp[EK,h]
def PA(h:i<n)(d:∀b,b<n->G b=if b=i then x else F b):(EK k n F).set i (.int k (x:H))=EK k n G:=by
 apply MX (by simp[EK]);intro j e a;rw[Gy]at a;rw[RQ];simp only[EK,Ou,List.getElem_range];grind
def Ado:BJ n (Value.int k 0)=EK k n (fun _=>0):=by
 apply MX (by simp[EK]);intro j d a;simp[EK]
def nE(h:∀b,b<n->F b=G b):EK k n F=EK k n G:=Kj fun b hb=>by grind
end
def Aay{o:Bj}{k:Y}(hnd:o.Nodup)(hk:k<Ajb o){r:Y}(a:r=if 0∈o.take k then o.idxOf 0 else 0):(if o.getD k 0=0 then k else r)=if 0∈o.take (k+1)then o.idxOf 0 else 0:=by
 have e:o.getD k 0=o[k]:=CG hk;have d:o.take (k+1)=o.take k++[o[k]]:=(CS hk).symm;grind
def uC(s:Bh)(h0:s≠[])(hs:Ajb s<=262144)(w:Ad):
 Bn prog 173 [Bl s] w fun v w'=>v=.tuple #[Bl (Gd s (GN s)),U ((JS (GN s):Y):H),U ((0:Y):H)]/\Bf w w':=by
 have hp:0<Ajb s:=Na.2 h0;refine Bw func173 Z ntmps173 (by rfl) Z ?_;refine(O 10∘Zv (by exact HC (r:=[]) Z Z)∘O 1∘Cb 10 (e:=h0)∘O 9)<|Zi (fun hb=>?_) fun hb=>?_
 .omega
 .refine(O 5∘Gk) ?_;rintro l w1 aj E L;refine(O 7∘Zc (yH s X w1)) ?_;rintro _ w2⟨m,g,o,rfl,a0,hg,a⟩;refine(O 4) ?_;have eo:=lu a;rw[eo];have q:=a.lng;have ai:=E.ext m;have x2:=L.trans m;have af:g≠l:=by have:=E.lt;omega
  have B:Ajb (Gd s o)=Ajb s:=by unfold Gd;rw[DF,q]
  have P:o.Nodup:=a.perm.nodup_iff.2 Qc;have t:∀k,k<Ajb s->o.getD k 0<Ajb s:=fun k T=>by rw[CG X];exact DU.1 (a.perm.subset (BM _))
  have A:∀k,k<Ajb s->(Gd s o).getD k 0=s.getD ((if o.getD k 0=0 then Ajb s else o.getD k 0)-1) 0:=fun k T=>by
   unfold Gd;simp_all
  refine Lo (fun((k,r,wr):Y×Y×Ad)=>(k<=Ajb s/\r<=k/\(r=if 0∈o.take k then o.idxOf 0 else 0)/\Bk wr l 5 (fill (fun(j:Y)=>Value.int .u8 ((((Gd s o).getD j 0).toNat:Y):H)) (.int .u8 0) (Ajb s) k)/\Mo w2 wr [l],[(0,Bl (s)),(5,.slice (J ⟨l,0,Aa⟩) (Ajb s) (Ajb s)),(6,U r),(18,.slice (J ⟨g,0,Aa⟩) (Ajb s) (Ajb s)),(19,U ((Ajb s:Y):H)),(20,U k)],wr,Ajb s-k)) (0,0,w2) ?_ ?_
  .exact⟨BE _,Bv _,Bi,Ce,Mo.refl _ _⟩
  .rintro⟨k,r,wr⟩⟨T,al,hr,h,S⟩;have V:=hg.mo S Bg;refine(O 5)<|Zi (fun K=>?_) fun K=>?_
   .have hl:=t k K;have p:=Aay P X hr;have C:=A k K;refine(O 7∘Zv (Bp V (hi:=Fx X))∘O 5)<|Ld (fun((d,I):Y×Y)=>(d=(if o.getD k 0=0 then Ajb s else o.getD k 0)/\I=(if o.getD k 0=0 then k else r),[(0,Bl (s)),(5,.slice (J ⟨l,0,Aa⟩) (Ajb s) (Ajb s)),(6,U I),(7,U k),(8,U d),(18,.slice (J ⟨g,0,Aa⟩) (Ajb s) (Ajb s)),(19,U ((Ajb s:Y):H)),(20,U k)],wr)) ?_ ?_
    .refine(O 4)<|Zi (fun hz=>?_) fun hz=>?_
     .refine(O 10∘Lm (Ajb s,k)) ?_;grind
     .refine(O 1∘Lm ((o.getD k 0),r)) ?_;grind
    .rintro⟨d,I⟩⟨e2,er⟩;rw[<-e2]at C;rw[<-er]at p;have ao:1<=d:=by rw[e2];split<;>omega
     have y:d-1<Ajb s:=by rw[e2];split<;>omega
     have W:s.getD (d-1) 0=s[d-1]:=by rw[Ck,BR y];rfl
     refine(O 6∘Zv (by exact EW underlying9 Z Z (BR (y)))∘O 1∘Zt h (hlt:=by rw[QJ T];omega)) ?_;rintro w3 D Q;refine(O 6) ?_;rw[<-W,<-C,QK (f:=fun(j:Y)=>Value.int .u8 ((((Gd s o).getD j 0).toNat:Y):H)) K]at D;refine Lb ((k+1),I,w3) ?_;exact⟨X,by rw[er];split<;>omega,p,D,S.trans Q⟩
   .obtain rfl:k=Ajb s:=X;rw[QI,<-B,eG]at h;have xr:Bf w wr:=Bu x2 S x2.size Bg;have N:=h.sl
    have ab:r=JS o:=by
     rw[hr,Ai]
     .rfl
     .rw[<-q,DV];exact a.perm.mem_iff.2 (DU.2 hp)
    refine(O 4∘Zv (Eb N (hl:=B))∘O 5∘CT) ?_;grind
def zk(a g c:Y)(P:Bj)(p:Y)(d:p<Ajb P)(f:Ajb P<=1000000000)(w:Ad)(h1:Bk w a 51 [.slice (J ⟨g,0,Aa⟩) (Ajb P) c])(e:Bk w g 3 (BD .i64 P)):
 Bn prog 254 [U (p:H),.pointer (J ⟨a,0,Aa⟩)] w fun v w'=>v=U ((P.getD p 0:Y):H)/\w=w':=by
 refine Bw func254 Z ntmps254 (by rfl) Z ?_;refine(O 9∘Zv (Bp e (hi:=Fx d))∘O 2∘Br) ?_;simp
def LA(P:Bj):Y->Y->Y
 |p,0=>p
 |p,i+1=>LA P (P.getD p 0) i
def YY(P:Bj):∀i p,LA P p (i+1)=P.getD (LA P p i) 0
 |0,p=>rfl
 |i+1,p=>by
  show LA P (P.getD p 0) (i+1)=_;rw[YY P i];rfl
def ei(P:Bj)(L:Bh):∀t i p,i<t->(bk P L t p).getD i 0=L.getD (LA P p (i+1)) 0
 |0,i,p,h=>by omega
 |t+1,0,p,h=>by rfl
 |t+1,i+1,p,h=>by
  rw[bk,List.getD_cons_succ,ei P L t i _ X];rfl
def Rw(pb p:Y):Bm:=[.func (.func 254) #[] #[.pointer (J ⟨pb,0,Aa⟩)],U (p:H)]
def Adh(wb e g c:Y)(P:Bj)(p:Y)(k:p<Ajb P)(l:Ajb P<=1000000000)(w:Ad)(h:Bk w wb 345 (Rw e p))(h1:Bk w e 51 [.slice (J ⟨g,0,Aa⟩) (Ajb P) c])(m:Bk w g 3 (BD .i64 P)):
 Bn prog 255 [.pointer (J ⟨wb,0,Aa⟩)] w fun v w'=>v=U ((P.getD p 0:Y):H)/\Bk w' wb 345 (Rw e (P.getD p 0))/\Mo w w' [wb]:=by
 refine Bw func255 Z ntmps255 Be Z ?_;refine Eo (KW.region ?_);refine OW.val Z Z (CI Z) ?_;refine OW.nil ?_;refine Eo ?_;refine PY (N:=13) (fun w'=>∃u,Bk w' wb 345 (Rw e u)) Be Z ?_;have d:=show ∃u,Bk w.drew wb 345 (Rw e u)from⟨p,h.drew⟩;refine GW.val 0 Z Be Be Be Z Z d (fun w' a=>EX.move Z) ?_;refine GW.val 1 Z Be Be Be Z Z d (fun w' a=>EX.move Z) ?_;refine GW.val 2 Z Be Be Be Z Z d (fun w' a=>DS Z) ?_;refine GW.val 3 Z Be Be Be Z Z d (fun w' a=>Do (off:=0) underlying345 Z Z nX Z Z) ?_;refine GW.val 4 Z Be Be Be Z Z d (fun w' a=>Ci underlying196 Z Z (by obtain⟨u,j⟩:=a;exact j.cell_of Z)) ?_;refine GW.val 5 Z Be Be Be Z Z d (fun w' a=>EX.move Z) ?_;refine GW.val 6 Z Be Be Be Z Z d (fun w' a=>DS Z) ?_;refine GW.val 7 Z Be Be Be Z Z d (fun w' a=>Do (off:=1) underlying345 Z Z BV Z Z) ?_;refine GW.new 8 Z Be Z Z (Ci underlying3 Z Z (h.drew.cell_of Z)) ⟨d,fun d=>?_⟩;refine GY 9 Z Be Z Z Z Z Z (zk e g c P p k l w.drew h1.drew m.drew) ?_;rintro _ _⟨rfl,rfl⟩;refine⟨d,fun d=>?_⟩;refine(Gv [10,11]∘Yt 12 h.drew (hlt:=by simp[Rw])) ?_;rintro n f i;refine⟨⟨_,f⟩,fun d=>?_⟩;refine(Yd∘O 8∘Br) ?_;exact⟨Z,f,(Mo.Agk (Bf.drew w) _).trans i⟩
def qX(l:Bh)(row:Y)(hl:Ajb l<=262144)(hr:row<=1000000000)(w:Ad):
 Bn prog 208 [Bl l,U (row:H)] w fun v w'=>v=(if row<Ajb l then .tuple #[Bl (back l row),U ((0:Y):H)]else .tuple #[Bl [],U ((50:Y):H)])/\Bf w w':=by
 refine Bw func208 Z ntmps208 Be Z ?_;refine(O 12)<|Zi (fun hb=>?_) fun hb=>?_
 .omega
 .refine(O 3)<|Lc (fun(d3:Ar)=>(d3=decide (Ajb l<=row),[(0,Bl (l)),(1,U row),(26,.bool d3)],w)) ?_ ?_
  .refine(O 4)<|Zd 21 (fun c1=>?_) fun c1=>?_
   .omega
   .refine(O 6∘Lm (decide (row≥Ajb l))) ?_;rfl
  .rintro d3 cb;subst cb;refine Zi (fun ca=>?_) fun ca=>?_
   .refine(O 5∘BG) ?_;rw[Ag X];exact⟨Z,Bf.refl _⟩
   .have d:row<Ajb l:=X;rw[Ai d];have m:∀i (h:i<Ajb l),l.getD i 0=l[i]:=fun i h=>by grind
    have bn:∀i,(l.getD i 0).toNat<256:=fun i=>(l.getD i 0).toNat_lt;refine(O 3∘Zn) ?_;rintro o w1 ck bh aj;refine(O 9) ?_;rw[Ado]at bh;refine Lo (fun((i,wr):Y×Ad)=>(i<=Ajb l/\Bk wr o 343 (EK .i64 256 (FH l i))/\Mo w1 wr [o],[(0,Bl (l)),(1,U row),(6,.pointer (J ⟨o,0,Aa⟩)),(28,U ((Ajb l:Y):H)),(29,U i)],wr,Ajb l-i)) (0,w1) ?_ ?_
    .exact⟨BE _,bh,Mo.refl _ _⟩
    .rintro⟨i,wr⟩⟨hi,hf,hm⟩;refine(O 5)<|Zi (fun k=>?_) fun k=>?_
     .have h8:=bn i;have bi:=fm l (l.getD i 0).toNat i;rw[m i k]at h8 bi
      have hG:∀b,b<256->FH l (i+1) b=if b=l[i].toNat then FH l i l[i].toNat+1 else FH l i b:=fun b _=>by
       rw[XG,m i k];grind
      refine(O 11∘Zv (by exact EW underlying9 Z Z (BR (k)))∘O 1∘Zv (Bp hf (hi:=MI h8))∘O 2∘Zt hf (hlt:=by rw[Gy];omega)) ?_;rintro w3 bf b6;refine(O 6) ?_;rw[PA h8 hG]at bf;refine Lb ((i+1),w3) ?_;exact⟨X,bf,hm.trans b6⟩
     .obtain rfl:i=Ajb l:=X;refine(O 8∘Zv (by exact Jp underlying343 Z og Z (hf) (by rw[Gy]))∘O 3)<|Lo (fun((b,K):Y×Ad)=>(b<=256/\Bk K o 343 (EK .i64 256 fun c=>if c<b then FA l c else FH l (Ajb l) c)/\Mo w1 K [o],[(0,Bl (l)),(1,U row),(6,.pointer (J ⟨o,0,Aa⟩)),(8,U (((FA l b):Y):H)),(40,.agg (EK .i64 256 (FH l (Ajb l))).toArray),(41,U b)],K,256-b)) (0,wr) ?_ ?_
      .grind
      .rintro⟨b,K⟩⟨ce,a9,a0⟩;have cp:=nk l ce;refine(O 5)<|Zi (fun V=>?_) fun V=>?_
       .have co:=nk l (show b+1<=256 by omega);have e2:FA l (b+1)=FA l b+FH l (Ajb l) b:=rfl
        have hG:∀c,c<256->(if c<b+1 then FA l c else FH l (Ajb l) c)=if c=b then FA l b else if c<b then FA l c else FH l (Ajb l) c:=fun c _=>by
         grind
        refine(O 6∘Zv (by exact Ty underlying343 underlying3 Z BV Z Z X (by rw[MI V]))∘O 8∘Zt a9 (hlt:=by rw[Gy];omega)) ?_;rintro w4 bc b5;refine(O 12) ?_;rw[PA V hG]at bc;refine Lb ((b+1),w4) ?_;exact⟨X,bc,a0.trans b5⟩
       .obtain rfl:b=256:=X
        have E:Bk K o 343 (EK .i64 256 fun c=>FA l c+FH l 0 c):=by
         rw[<-nE (F:=fun c=>if c<256 then FA l c else FH l (Ajb l) c) (fun c k=>by rw[Ai k];rfl)];exact a9
        refine(O 5∘Gk) ?_;rintro g w5 cj a6 Q;refine(Me) ?_;rintro N w6 ch cd ai;refine(Zt cd) ?_;rintro w7 cc a2;refine(O 9) ?_;have xb:Bf w K:=Bu aj a0 aj.size Bx;have x6:=Q.trans ai;have x7:Bf K w7:=Bu x6 a2 x6.size (by have:=Q.size;simp;omega);have cx:g≠N:=by have:=a6.lt;omega
        have c0:=E.lt;have a5:=(a6.ext ai).mo a2 Bg;rw[show BJ (Ajb l) (Value.int .i64 0)=BD .i64 (BJ (Ajb l) 0)from(KF _ _ _).symm]at a5;have cn:=Q.size;refine Lo (fun((i,P,A):Y×(Bj)×Ad)=>(i<=Ajb l/\Ajb P=Ajb l/\(∀j,j<i->P.getD (IZ l j) 0=j)/\Bk A o 343 (EK .i64 256 fun c=>FA l c+FH l i c)/\Bk A g 3 (BD .i64 P)/\Mo w7 A [o,g],[(0,Bl (l)),(1,U row),(6,.pointer (J ⟨o,0,Aa⟩)),(11,.pointer (J ⟨N,0,Aa⟩)),(56,U ((Ajb l:Y):H)),(57,U i)],A,Ajb l-i)) (0,(BJ (Ajb l) 0),w7) ?_ ?_
        .exact⟨BE _,Bi,fun j hj=>by omega,E.ext x7,a5,Mo.refl _ _⟩
        .rintro⟨i,P,A⟩⟨hi,bs,hP,a7,y,T⟩;have r:=cc.mo T Bx;refine(O 5)<|Zi (fun k=>?_) fun k=>?_
         .have cr:=lG k;have h8:=bn i
          have bq:(EK .i64 256 fun c=>FA l c+FH l i c)[l[i].toNat]? =J (U ((IZ l i:Y):H)):=by
           rw[<-m i k,MI h8];rfl
          have bi:FA l l[i].toNat+FH l i l[i].toNat=IZ l i:=by rw[<-m i k];rfl
          rw[m i k]at h8
          have hG:∀b,b<256->FA l b+FH l (i+1) b=if b=l[i].toNat then IZ l i+1 else FA l b+FH l i b:=fun b _=>by
           rw[XG,m i k];grind
          refine(O 9) ?_;refine Kg 8 Be Be<|HW.val Z Z (Ci underlying51 Z Z (r.drew.cell_of Z))<|HW.val Z Z (EX.move Z)<|HW.val Z Z (EX.move Z)<|HW.val Z Z (EW underlying9 Z Z (BR (k)))<|HW.val Z Z (by first|exact LQ underlying343 BV Z Z X|exact LR underlying343 BV Z Z X)<|HW.val Z Z (Ci underlying3 Z Z (a7.drew.cell_of bq))<|HW.val Z Z (EX.move Z)<|HW.val Z Z (by first|exact KV underlying51 BV Z Z X|exact KX underlying51 BV Z Z X)<|HW.tail<|(Zt y.drew (hlt:=by rw[DO];omega)) ?_;rintro w8 a4 a1;refine(O 6) ?_;rw[Iv]at a4;have a8:o≠g:=X;have bb:=a7.drew.mo a1 (by simpa using a8);refine(Zv (Bp bb (hi:=bq))∘O 2∘Zt bb (hlt:=by rw[Gy];omega)) ?_;rintro w9 ba t;refine(O 6) ?_;rw[PA h8 hG]at ba;refine Lb ((i+1),(P.set (IZ l i) i),w9) ?_;refine⟨X,Bg,fun j hj=>?_,ba,a4.mo t Bg,((T.trans (Mo.Agk (Bf.drew A) _)).trans (a1.mono Bi)).trans (t.mono Bi)⟩;have cw:=lG (L:=l) (i:=j) X;rw[CG Bg,RQ];by_cases e:IZ l i=IZ l j
          .rw[Ai e];exact zu k X e
          .grind
         .obtain rfl:i=Ajb l:=X;have eP:=Adb bs hP;subst eP;have a8:o≠g:=X;have xi:Bf w A:=Bu (xb.trans x7) T (xb.trans x7).size Bg;refine(O 3∘Zv (by exact Gf Z Z)∘O 2∘Zn) ?_;rintro I w8 cg bm af;refine(Zs bm) ?_;rintro w9 bl t;refine(O 5) ?_;have x9:Bf A w9:=Bu af t af.size Bx;refine(Gk) ?_;rintro ob p b9 cl n;refine(O 10) ?_;have b4:=r.ext (x9.trans n);have b8:=y.ext (x9.trans n);have b0:=bl.ext n;have ct:I≠N:=by have:=r.lt;omega
          have cv:I≠g:=by have:=y.lt;omega
          have cs:=bl.lt;have cu:I≠ob:=X;have cq:N≠ob:=by have:=(r.ext x9).lt;omega
          have cz:g≠ob:=by have:=(y.ext x9).lt;omega
          have ab:Bf w p:=xi.trans (x9.trans n);have cf:=xi.size;have b2:=x9.size
          have a3:∀i,LA (Ew l) row i<Ajb l:=fun i=>by
           induction i with
           |zero=>exact d
           |succ i ih=>rw[YY];exact nu ih
          have al:Bk p N 51 [.slice (J ⟨g,0,Aa⟩) (Ajb (Ew l)) (Ajb l)]:=by rw[bs];exact b4
          refine Lo (fun((i,a):Y×Ad)=>(i<=Ajb l/\Bk a I 345 (Rw N (LA (Ew l) row i))/\Bk a ob 5 (fill (fun(j:Y)=>Value.int .u8 ((((back l row).getD j 0).toNat:Y):H)) (.int .u8 0) (Ajb l) i)/\Mo p a [I,ob],[(0,Bl (l)),(13,.pointer (J ⟨I,0,Aa⟩)),(14,.slice (J ⟨ob,0,Aa⟩) (Ajb l) (Ajb l)),(83,U ((Ajb l:Y):H)),(84,U i)],a,Ajb l-i)) (0,p) ?_ ?_
          .exact⟨BE _,b0,Ce,Mo.refl _ _⟩
          .rintro⟨i,a⟩⟨b7,b1,S,x⟩;refine(O 5)<|Zi (fun W=>?_) fun W=>?_
           .have h1:=a3 i;have h2:=a3 (i+1);have e1:=YY (Ew l) i row;have e2:(back l row).getD i 0=l.getD (LA (Ew l) row (i+1)) 0:=ei (Ew l) l (Ajb l) i row W;rw[e1]at h2 e2;generalize hq:(Ew l).getD (LA (Ew l) row i) 0=q at h2 e1 e2;refine(O 12∘Zc (Adh I N g (Ajb l) (Ew l) (LA (Ew l) row i) X X a b1 (al.mo x Bx) (b8.mo x Bx))) ?_;rintro _ cm⟨rfl,B,D⟩;rw[hq]at B ⊢;refine(Zv (by exact EW underlying9 Z Z (BR (h2)))∘O 1) ?_;have ao:=S.mo D Bx;refine(Zt ao (hlt:=by rw[QJ b7];omega)) ?_;rintro bx G C;refine(O 6) ?_;rw[<-m q h2,<-e2,QK (f:=fun(j:Y)=>Value.int .u8 ((((back l row).getD j 0).toNat:Y):H)) W]at G;refine Lb ((i+1),bx) ?_;dsimp only;rw[e1];exact⟨X,B.mo C Bx,G,(x.trans (D.mono Bi)).trans (C.mono Bi)⟩
           .obtain rfl:i=Ajb l:=X;have bj:Ajb (back l row)=Ajb l:=Xn _ _ _ _;rw[QI,<-bj,eG]at S;have b3:=S.sl;have xe:Bf w a:=Bu ab x ab.size Bx;refine(O 4∘Zv (Eb b3 (hl:=bj))∘O 3∘BG) ?_;grind
def KG{k:AK}(l:Bj)(x:Y):BD k l++[.int k (x:H)]=BD k (l++[x]):=by rw[US];rfl
def vJ(k:AK)(l:Bj)(n:Y):BD k l++BJ n (.int k 0)=BD k (l++BJ n 0):=by
 rw[US,KF];rfl
def CX(w:Ad)(B:Y)(v:Ah)(l:Bj):Prop:=Bo w B 3 1 v (Ajb l) (BD .i64 l)
def CX.ext{w w':Ad}{B:Y}{v:Ah}{l:Bj}(h:CX w B v l)(hx:Bf w w'):CX w' B v l:=Bo.ext h hx
def CX.sl{w:Ad}{B:Y}{v:Ah}{l:Bj}(h:CX w B v l):∃A c,v=.slice A (Ajb l) c/\Ajb l<=c/\Sl w w.heap.size A (BD .i64 l):=Bo.slice h
def CX.nil(w:Ad)(B:Y):CX w B (.slice Aa 0 0) []:=Bo.nil w B _ _
def Agc(k:Y)(hk:k<=1000000000)(w:Ad):
 Bn prog 229 [U (k:H)] w fun v w'=>CX w' w.heap.size v (DY k)/\Bf w w':=by
 refine Bw func229 Z ntmps229 (by rfl) Z ?_;refine(O 10)<|Lo (fun((j,o,e,wr):Y×(Bj)×Ah×Ad)=>(j<=k/\Ajb o+j<=k/\o++DY j=DY k/\Bo wr w.heap.size 3 1 e (Ajb o) (BD .i64 o)/\Bf w wr,[(0,U j),(3,e)],wr,j)) (k,([]),(.slice Aa 0 0),w) ?_ ?_
 .exact⟨Bv _,Bi,Z,Bo.nil _ _ _ _,Bf.refl _⟩
 .rintro⟨j,o,e,wr⟩⟨r,q,f,a,g⟩;refine(O 6)<|Zi (fun h=>?_) fun h=>?_
  .rw[UD h]at f;refine(O 12∘Zv (by exact MU (b:=1) (j:=1) (p:=2) (m:=9223372036854775807) Z Z Bc Bc Z X)∘He g a) ?_;rintro _ l i d n _ _;refine(O 4) ?_;refine OW.val Z Z (by first|exact II (s:=1) (p:=2) Z Z Bc Bc|exact EX.shrZ (s:=1) (p:=2) Z Z Bc Bc)<|(O 3)<|Lb (((j-1)/2),(o++[(j-1)%2]),l,i) ?_;rw[KG]at d;grind
  .obtain rfl:j=0:=X;rw[OL,List.append_nil]at f;subst f;refine(O 6∘Br) ?_;exact⟨a,g⟩
def oU{n:Y}{l:Bj}{j r:Y}(h:j<Ajb l):Fq n r (l.drop j)=if l[j]=0 then Fq n (r+1) (l.drop (j+1))else DY r++(l[j]+1)::Fq n 0 (l.drop (j+1)):=by
 rw[DE h];generalize l[j]=x;cases x with
 |zero=>rfl
 |succ x=>rfl
def Sl.intAt{w:Ad}{B:Y}{A:Aw AC}{l:Bj}(h:Sl w B A (BD .i64 l))(h0:0<Ajb l):∃b o,A=J ⟨b,o,Aa⟩/\b<B/\∀W,Bf w W->∀j (hj:j<Ajb l),W.cell? ⟨b,o+j,Aa⟩=J (U (l[j]:Y)):=by
 obtain⟨b,o,rfl,d,a⟩:=h.at2 (by rw[DO];omega);exact⟨b,o,Z,d,fun W e j hj=>a W e j _ (by rw[Fx hj,CG hj])⟩
def Age(n:Y)(hn:1<=n/\n<=256)(l:Bj)(hl:Ajb l<=1000000)(hp:∀p∈l,p<n)(A:Aw AC)(c C:Y)(w:Ad)(hs:Sl w C A (BD .i64 l)):
 Bn prog 176 [U (n:H),.slice A (Ajb l) c] w fun v w'=>(∃u,v=.tuple #[u,U ((0:Y):H)]/\CX w' w.heap.size u (Fq n 0 l))/\Bf w w':=by
 obtain⟨ai,af⟩:=hn;refine Bw func176 Z ntmps176 (by rfl) Z ?_;refine(O 11)<|Zd 11 (fun c1=>?_) fun c1=>?_
 .omega
 .refine(O 4)<|Zi (fun c2=>?_) fun c2=>?_
  .omega
  .refine(O 11)<|Lo (fun((i,o,t,wr):Y×(Bj)×Ah×Ad)=>(i<=Ajb l/\Ajb o<=2*i/\o++Fq n 0 (l.drop i)=Fq n 0 l/\Bo wr w.heap.size 3 1 t (Ajb o) (BD .i64 o)/\Bf w wr,[(0,U n),(1,.slice A (Ajb l) c),(6,t),(7,U i)],wr,Ajb l-i)) (0,([]),(.slice Aa 0 0),w) ?_ ?_
   .exact⟨BE _,BE _,Z,Bo.nil _ _ _ _,Bf.refl _⟩
   .rintro⟨i,o,t,wr⟩⟨hi,ab,he,m,N⟩;refine(O 8)<|Zi (fun hc=>?_) fun hc=>?_
    .obtain⟨b,f,rfl,_,k⟩:=hs.intAt X;refine(O 10)<|Lc (fun((j,r):Y×Y)=>(i<=j/\j<=Ajb l/\r+i=j/\o++Fq n r (l.drop j)=Fq n 0 l/\(j<Ajb l->l.getD j 0≠0),[(0,U n),(1,.slice (J ⟨b,f,Aa⟩) (Ajb l) c),(6,t),(7,U j),(8,U r)],wr)) ?_ ?_
     .refine(O 1)<|Lo (fun((j,r):Y×Y)=>(i<=j/\j<=Ajb l/\r+i=j/\o++Fq n r (l.drop j)=Fq n 0 l,[(0,U n),(1,.slice (J ⟨b,f,Aa⟩) (Ajb l) c),(6,t),(7,U j),(8,U r)],wr,Ajb l-j)) (i,0) ?_ ?_
      .grind
      .rintro⟨j,r⟩⟨W,V,T,K⟩;refine(O 8)<|Zi (fun G=>?_) fun G=>?_
       .refine(O 8∘Zv (Ca (k wr N j G))∘O 2)<|Zi (fun P=>?_) fun P=>?_
        .refine(O 1∘Lm (j,r)) ?_;grind
        .rw[oU G,Ai (Dk.1 P)]at K;refine(O 13)<|Lb ((j+1),(r+1)) ?_;grind
       .refine(O 1∘Lm (j,r)) ?_;grind
     .rintro⟨j,r⟩⟨W,V,T,K,S⟩;have al:=XT r r (Bv _);refine(O 4∘Zc (Agc r X wr)) ?_;rintro _ w2⟨y,B⟩;obtain⟨A2,ao,rfl,_,D⟩:=y.sl;refine HL Z Z underlying51 BV Z Bc Z Z (N.trans B) (m.ext B) (Src.Agn underlying51 D (by rw[DO,IP]) Lz Bc) CA X ?_;rintro Q I e g _ _;refine(O 10) ?_;rw[<-US]at e;refine Zi (fun G=>?_) fun G=>?_
      .obtain rfl:j=Ajb l:=X;rw[IK,Fq]at K;refine(O 6∘He g e) ?_;rintro _ x L a h _ _;refine(O 3∘BG) ?_;rw[KG]at a;refine⟨⟨x,Z,?_⟩,h⟩;unfold CX;grind
      .have d:j<Ajb l:=X;have E:=S d;rw[CG d]at E;rw[oU d,Ag E]at K;have aj:=hp _ (BM d);refine(O 3)<|Lc (fun(q:Ar)=>(q=Aj,[(0,U n),(1,.slice (J ⟨b,f,Aa⟩) (Ajb l) c),(6,Q),(7,U j),(52,.bool q)],I)) ?_ ?_
       .refine(O 4∘Zv (Ca (k I g j d))∘O 2)<|Zd 45 (fun d1=>?_) fun d1=>?_
        .omega
        .refine(O 3∘Zv (Ca (k I g j d))∘O 4∘Lm (decide (l[j]≥n))) ?_;grind
       .rintro q rfl;refine(O 8∘Zv (Ca (k I g j d))∘O 1∘He g e) ?_;rintro _ x L a h _ _;refine(O 8)<|Lb ((j+1),((o++DY r)++[l[j]+1]),x,L) ?_;rw[KG]at a;grind
    .obtain rfl:i=Ajb l:=X;rw[IK,Fq,OL,EP]at he;refine(O 6∘He N m) ?_;rintro _ x L a h _ _;refine(O 3∘BG) ?_;rw[KG]at a;refine⟨⟨x,Z,?_⟩,h⟩;unfold CX;grind
def rc(n s:Y)(g:n<=256)(f:s<=1000000000)(w:Ad):Bn prog 253 [U (n:H),U (s:H)] w fun v w'=>(∃e:Y,1<=e/\e<=400/\v=U (e:H))/\w=w':=by
 refine Bw func253 Z ntmps253 (by rfl) Z ?_;refine(O 10)<|Zd 7 (fun d=>?_) fun d=>?_
 .omega
 .refine(O 6)<|Zi (fun a=>?_) fun a=>?_
  .refine(O 4∘Br) ?_;exact⟨⟨60,Bc,Bc,Z⟩,Z⟩
  .refine(O 5∘Br) ?_;exact⟨⟨70,Bc,Bc,Z⟩,Z⟩
def GX(e:Y):Prop:=1<=e/\e<=400
def Aga(n most:Y)(hn:1<=n/\n<=256)(hm:most<=262144)(l:Bj)(hl:Ajb l<=1000000000)(V:∀p∈l,p<=1000000000)(A:Aw AC)(c C:Y)(w:Ad)(hs:Sl w C A (BD .i64 l)):
 Bn prog 206 [U (n:H),U (most:H),.slice A (Ajb l) c] w fun v w'=>((∃u p,Fp n most [] 0 1 l=J p/\Ajb p<=most/\v=.tuple #[u,U ((0:Y):H)]/\CX w' w.heap.size u p)∨(Fp n most [] 0 1 l=Aa/\∃e:Y,GX e/\v=.tuple #[.slice Aa 0 0,U (e:H)]))/\Bf w w':=by
 obtain⟨ao,L⟩:=hn;refine Bw func206 Z ntmps206 (by rfl) Z ?_;refine(O 7)<|Lc (fun(S:Ar)=>(S=Aj,[(0,U n),(1,U most),(2,.slice A (Ajb l) c),(26,.bool S)],w)) ?_ ?_
 .refine(O 4)<|Zd 15 (fun G=>?_) fun G=>?_
  .omega
  .refine(O 4)<|Zd 19 (fun c2=>?_) fun c2=>?_
   .omega
   .refine(O 4)<|Zd 23 (fun c3=>?_) fun c3=>?_
    .omega
    .refine(O 4∘Lm (decide (262144<most))) ?_;grind
 .rintro S rfl;refine(O 19)<|Lo (fun((i,r,wt,o,x,wr):Y×Y×Y×(Bj)×Ah×Ad)=>(i<=Ajb l/\Ajb o+r<=most/\1<=wt/\wt<=2*most+1/\Fp n most o r wt (l.drop i)=Fp n most [] 0 1 l/\Bo wr w.heap.size 3 1 x (Ajb o) (BD .i64 o)/\Bf w wr,[(0,U n),(1,U most),(2,.slice A (Ajb l) c),(8,x),(9,U r),(10,U wt),(27,.slice A (Ajb l) c),(28,U ((Ajb l:Y):H)),(29,U i)],wr,Ajb l-i)) (0,0,1,([]),(.slice Aa 0 0),w) ?_ ?_
  .exact⟨BE _,BE _,Bv _,X,Z,Bo.nil _ _ _ _,Bf.refl _⟩
  .rintro⟨i,r,wt,o,x,wr⟩⟨hi,al,ai,af,a,h,B⟩;refine(O 5)<|Zi (fun I=>?_) fun I=>?_
   .obtain⟨b,f,rfl,_,E⟩:=hs.intAt X;rw[DE I,Fp]at a;have K:=V _ (BM I);have j:=E wr B i I;generalize aj:l[i]=s at a K j;refine(O 7∘Zv (Ca j)∘O 5)<|Lc (fun(Q:Ar)=>(Q=decide (n+1<s),[(0,U n),(1,U most),(2,.slice (J ⟨b,f,Aa⟩) (Ajb l) c),(8,x),(9,U r),(10,U wt),(11,U i),(12,U s),(27,.slice (J ⟨b,f,Aa⟩) (Ajb l) c),(28,U ((Ajb l:Y):H)),(29,U i),(41,.bool Q)],wr)) ?_ ?_
    .refine(O 4)<|Zd 36 (fun G=>?_) fun G=>?_
     .omega
     .refine(O 6∘Lm (decide (s>n+1))) ?_;rfl
    .rintro Q rfl;refine Zi (fun P=>?_) fun P=>?_
     .rw[Ai P]at a;refine(O 5∘BG) ?_;exact⟨.inr ⟨a.symm,60,⟨Bc,Bc⟩,Z⟩,B⟩
     .rw[Ag P]at a;refine(O 7)<|Zi (fun N=>?_) fun N=>?_
      .rw[Ai N]at a;have a1:(s+1)*wt<=2*wt:=Ud _ X;have a0:wt<=(s+1)*wt:=Nat.le_mul_of_pos_left _ X;refine(O 2)<|Lc (fun(t:Ar)=>(t=decide (most<wt∨most<Ajb o+r+(s+1)*wt),[(0,U n),(1,U most),(2,.slice (J ⟨b,f,Aa⟩) (Ajb l) c),(8,x),(9,U r),(10,U wt),(11,U i),(12,U s),(27,.slice (J ⟨b,f,Aa⟩) (Ajb l) c),(28,U ((Ajb l:Y):H)),(29,U i),(59,.bool t)],wr)) ?_ ?_
       .obtain⟨A0,c0,rfl,_,_⟩:=h.slice;refine(O 5)<|Zd 47 (fun G=>?_) fun G=>?_
        .refine(O 13∘Lm Af) ?_;grind
        .refine(O 13∘Lm (decide (r+(s+1)*wt>most-Ajb o))) ?_;grind
       .rintro t rfl;refine Zi (fun m=>?_) fun m=>?_
        .rw[Ai m]at a;refine(O 5∘BG) ?_;exact⟨.inr ⟨a.symm,3,⟨Bc,Bc⟩,Z⟩,B⟩
        .rw[Ag m]at a;refine(O 22)<|Lb ((i+1),(r+(s+1)*wt),(wt*2),o,x,wr) ?_;grind
      .rw[Ag N]at a;refine(O 5) ?_;refine qo Z Z underlying51 underlying3 BV Z Z Z (B) (h) CA X ?_;rintro v2 T d g;refine(O 15) ?_;rw[vJ]at d;refine Zi (fun m=>?_) fun m=>?_
       .rw[Ai m]at a;refine(O 9)<|Zi (fun k=>?_) fun k=>?_
        .rw[Ag (fun q=>by simp_all;omega)]at a;have D:=V _ (BM k);refine(O 7∘Zv (Ca (E T g (i+1) k))∘Zc (rc n l[i+1] L D T)) ?_;rintro _ _⟨⟨e,e1,e2,rfl⟩,rfl⟩;refine(O 3∘BG) ?_;exact⟨.inr ⟨a.symm,e,⟨e1,e2⟩,Z⟩,g⟩
        .rw[Ai (Le X)]at a;refine(O 7∘BG) ?_;refine⟨.inl ⟨v2,_,a.symm,Bg,Z,?_⟩,g⟩;unfold CX;grind
       .obtain⟨A0,c0,rfl,_,_⟩:=d.slice;rw[Ag m,BA,Cq]at a;refine(O 9)<|Zi (fun k=>?_) fun k=>?_
        .rw[Ai k]at a;refine(O 5∘BG) ?_;exact⟨.inr ⟨a.symm,3,⟨Bc,Bc⟩,Z⟩,g⟩
        .rw[Ag k]at a;refine(O 5∘He g d) ?_;rintro _ v3 W y ab _ _;refine(O 7)<|Lb ((i+1),0,1,((o++BJ r 0)++[s-1]),v3,W) ?_;rw[KG]at y;grind
   .obtain rfl:i=Ajb l:=X;rw[IK,Fp]at a;refine(O 6∘BG) ?_;exact⟨.inr ⟨a.symm,70,⟨Bc,Bc⟩,Z⟩,B⟩
def MJ(n:Y)(F:Y->Ah):Bm:=(BF n).map F
section
variable{n i:Y}{F G:Y->Ah}{x:Ah}
def Adq:Ajb (MJ n F)=n:=by simp[MJ]
def Adp(h:i<n):(MJ n F)[i]? =J (F i):=by simp[MJ,h]
def Adr(h:i<n)(d:∀b,b<n->G b=if b=i then x else F b):(MJ n F).set i x=MJ n G:=by
 apply MX (by simp[MJ]);intro j e a;rw[Adq]at a;rw[RQ];simp only[MJ,Ou,List.getElem_range];grind
end
def PG(s:Bh)(b:Y):Bh:=((BF b).filter fun c=>decide (BU c∈s)).map BU
def oD(s:Bh)(b:Y):PG s (b+1)=if BU b∈s then PG s b++[BU b]else PG s b:=by
 unfold PG;rw[Ga,Lf,DT];grind
def oC(s:Bh):∀b,Ajb (PG s b)<=b
 |0=>Bv _
 |b+1=>by
  have:=oC s b;rw[oD];grind
def of_s(s:Bh)(hs:Ajb s<=1000000)(w:Ad):Bn prog 174 [Bl s] w fun v w'=>v=Bl (used s)/\Bf w w':=by
 refine Bw func174 Z ntmps174 (by rfl) Z ?_;refine(O 6∘Zn) ?_;rintro p P S af j;refine(O 9)<|Lo (fun((i,wr):Y×Ad)=>(i<=Ajb s/\Bk wr p 321 (MJ 256 fun b=>.bool (decide (BU b∈s.take i)))/\Mo P wr [p],[(0,Bl (s)),(3,.pointer (J ⟨p,0,Aa⟩)),(8,U ((Ajb s:Y):H)),(9,U i)],wr,Ajb s-i)) (0,P) ?_ ?_
 .refine⟨BE _,?_,Mo.refl _ _⟩;assumption
 .rintro⟨i,wr⟩⟨hi,D,Q⟩;refine(O 5)<|Zi (fun g=>?_) fun g=>?_
  .have h8:=(s[i]).toNat_lt
   have hG:∀b,b<256->Value.bool (decide (BU b∈s.take (i+1)))=if b=s[i].toNat then .bool Af else .bool (decide (BU b∈s.take i)):=fun b T=>by
    rw[<-CS g];by_cases e:b=s[i].toNat
    .have e8:BU s[i].toNat=s[i]:=Bi;grind
    .have:BU b≠s[i]:=fun q=>e (by rw[<-q,Bz.toNat_ofNat T]);grind
   refine(O 11∘Zv (by exact EW underlying9 Z Z (BR (g)))∘O 1∘Zt D (hlt:=by assumption)) ?_;rintro y k I;refine(O 6) ?_;rw[Adr h8 hG]at k;refine Lb ((i+1),y) ?_;exact⟨X,k,Q.trans I⟩
  .obtain rfl:i=Ajb s:=X;rw[DV]at D;have V:Bf w wr:=Bu j Q j.size Bg;refine(O 3) ?_;refine Ku 0 Z Z underlying23 CE Z Z Z Z (by rfl) Bc ?_;rintro ob y m N C;refine(O 8)<|Lo (fun((b,o,h):Y×Ah×Ad)=>(b<=256/\Bo h wr.heap.size 5 1 o (Ajb (PG s b)) (BI (PG s b))/\Bf wr h,[(3,.pointer (J ⟨p,0,Aa⟩)),(5,o),(18,U b)],h,256-b)) (0,(.slice (J ⟨ob,0,Aa⟩) 0 0),y) ?_ ?_
   .exact⟨BE _,Bo.Agl (l:=[]) N m Z Bc,C⟩
   .rintro⟨b,o,h⟩⟨T,a,r⟩;have ab:=oC s b;refine(O 5)<|Zi (fun g=>?_) fun g=>?_
    .have t:=oD s b;have K:=Bz.toNat_ofNat g;have L:((b:Y):H)=((BU b).toNat:H):=Av Nd K.symm;refine(O 12∘Zv (Bp (D.ext r) (hi:=Adp g))∘O 1)<|Zi (fun f=>?_) fun f=>?_
     .rw[Ai f]at t;refine(O 4∘He r a) ?_;rintro _ v3 W d B _ _;refine(O 7)<|Lb ((b+1),v3,W) ?_;rw[L,<-Qt]at d;dsimp only;rw[t,BA];exact⟨X,d,B⟩
     .rw[Ag f]at t;refine(O 6)<|Lb ((b+1),o,h) ?_;dsimp only;rw[t];exact⟨X,a,r⟩
    .obtain rfl:b=256:=X;obtain⟨A,c,rfl,_,E⟩:=a.slice;refine(O 4∘Zv (Eb E)∘O 2∘Br) ?_;exact⟨Z,V.trans r⟩
def Aag{u:Bh}{i:Y}(h1:1<=i)(hi:i<Ajb u)(h:(u.take i).Pairwise fun a b=>a.toNat<b.toNat)(hlt:u[i-1].toNat<u[i].toNat):(u.take (i+1)).Pairwise fun a b=>a.toNat<b.toNat:=by
 rw[<-CS hi,Nb];refine⟨h,List.pairwise_singleton _ _,fun a f b e=>?_⟩;rw[CF.1 e];obtain⟨j,d,rfl⟩:=Hq.1 f;rw[BZ]at d;rw[List.getElem_take];rcases Df j (i-1)with q|q
 .have:=Ik.1 h j (i-1) (by rw[BZ];omega) (by rw[BZ];omega) q;grind
 .grind
def aM(u:Bh)(m:Ajb u<=1000000)(w:Ad):Bn prog 227 [Bl u] w fun v w'=>(∃d,v=.bool d/\(d=Af↔Pf u))/\Bf w w':=by
 refine Bw func227 Z ntmps227 Be Z ?_;refine(O 10)<|Lo (fun((i,wr):Y×Ad)=>(1<=i/\(i<=Ajb u∨i=1)/\(u.take i).Pairwise (fun a b=>a.toNat<b.toNat)/\Bf w wr,[(0,Bl (u)),(3,U i)],wr,Ajb u-i)) (1,w) ?_ ?_
 .refine⟨Bv _,.inr Z,?_,Bf.refl _⟩;cases u with
  |nil=>simp
  |cons a r=>simp
 .rintro⟨i,wr⟩⟨k,o,j,g⟩;refine(O 8)<|Zi (fun f=>?_) fun f=>?_
  .have e:i-1<Ajb u:=X;refine(O 7∘Zq (by exact fun _=>EW underlying9 Z Z (BR (f)))∘O 3∘Zq (by exact fun _=>EW underlying9 Z Z (BR (e)))∘O 1∘QW.nil) fun l=>Zi (fun h=>?_) fun h=>?_
   .refine(O 4∘Br) ?_;refine⟨⟨Aj,Z,fun q=>Bg,fun q=>?_⟩,g.trans (Bf.drewN _ _)⟩;have:=Ik.1 q.2 (i-1) i e f X;omega
   .refine(O 7)<|Lb ((i+1),_) ?_;exact⟨X,X,Aag k f j X,g.trans (Bf.drewN _ _)⟩
  .rw[Dq X]at j;refine(O 4∘Zv (by exact MV (r:=[]) Z Z)∘O 2∘Br) ?_;refine⟨⟨_,Z,?_⟩,g⟩;rw[decide_eq_true_eq];exact⟨fun q=>⟨q,j⟩,fun q=>q.1⟩
def Bk.push{w w':Ad}{b:Y}{T:Ay}{l:Bm}{v:Ah}(h:Bk w b T l)(hg:w.grownBy w' v.ownBlock)(hne:∀k,v.ownBlock=J k->b≠k):Bk w' b T l:=
 h.mo (Mo.grown hg (S:=v.ownBlock.toList) (fun k e=>by grind)) (fun q=>by
  grind)
def rI{l:Bh}{rest:Bm}{k:Y}(h:k<Ajb l):(BI l++rest)[k]? =J (.int .u8 (((l.getD k 0).toNat:Y):H)):=by
 rw[FN (by rw[EQ];omega)];unfold BI;grind
def rJ{l:Bh}{k:Y}(h:k<Ajb l)(rest:Bm):Value.int .u8 ((l[k].toNat:Y):H)::(BI l++rest).eraseIdx k=BI (EF l k)++rest:=by
 rw[List.eraseIdx_append_of_lt_length (by rw[EQ];omega)];unfold EF BI;rw[Co,Ck,BR h,WB,WB,DT,TP,List.map_drop];rfl
def kE(l:Bh)(rest:Bm)(k g cap:Y)(hk:k<Ajb l)(y:Ajb l<=cap)(p:Ajb l+Ajb rest=cap)(E:Ajb l<=1000000000)(w:Ad)(h:Bk w g 5 (BI l++rest)):
 Bn prog 228 [.slice (J ⟨g,0,Aa⟩) (Ajb l) cap,U (k:H)] w fun v w'=>v=.int .u8 ((l[k].toNat:Y):H)/\Bk w' g 5 (BI (EF l k)++rest)/\Mo w w' [g]:=by
 have j:(BI l++rest)[k]? =J (.int .u8 ((l[k].toNat:Y):H)):=by
  rw[FN (by rw[EQ];omega)];unfold BI;rw[Eh,BR hk];rfl
 have I:Ajb (BI l++rest)=cap:=by rw[BA,EQ,p]
 have A:Ajb ((BI l++rest).take k)=k:=by rw[BZ];omega
 have e:=kG (cap:=cap) j Z (fun q=>by omega);rw[rJ hk]at e
 have d:∀u∈(BI l++rest).take k,u.oneCell'=Af:=fun u t=>by
  rw[TU (by rw[EQ];omega)]at t;exact Ut u (Kl t)
 refine Bw func228 Z ntmps228 Be Z ?_;refine(O 9∘Zv (Bp h (hi:=j))∘O 3∘Yr 8 (fun w'=>True) AB) fun B=>(Gv [0,1,2]∘Yw 3 (he:=by exact fun _ _=>cO underlying23 CE Z (i:=1) Z Z ⟨X,X,y⟩)∘Gv [4,5]∘Yw 6 (he:=by exact fun _ _=>Wm underlying23 CE Z Z ⟨X,y⟩)) ?_;have a:=h.drew.Ahd 0 k;rw[Ot]at a;refine Ws 7 _ Z Be Z Z underlying23 underlying23 CE Z Z (a) X (d) (h.drew) Bg ?_;rintro D r o;refine⟨AB,fun B=>?_⟩;refine(Yd∘O 5∘Zt r (hlt:=by grind)) ?_;rintro C f m;refine(O 6∘Br) ?_;rw[e]at f;exact⟨Z,f,((Mo.Agk (Bf.drew w) _).trans o).trans m⟩
def vm{l:Bh}{b:AH}{k:Y}(hk:k<Ajb l)(a:l[k]=b)(d:∀j (hj:j<k),l[j]'X≠b):l.idxOf b=k:=by
 have e:l=l.take k++b::l.drop (k+1):=by rw[<-a,List.getElem_cons_drop,HJ]
 grind
def uE{L s:Bh}{i:Y}{ps:Bj}(hi:i<Ajb s)(h:front L (s.drop i)=J ps):s[i]∈L/\∃ps',ps=L.idxOf s[i]::ps'/\front (EF L (L.idxOf s[i])) (s.drop (i+1))=J ps':=by
 rw[DE hi,front]at h;split at h
 .rename_i a;obtain⟨q,d,rfl⟩:=Ni.1 h;grind
 .grind
def uG(s u:Bh)(ps:Bj)(hs:Ajb s<=1000000)(hu:Ajb u<=256)(Q:Pf u)(hf:front u s=J ps)(w:Ad):
 Bn prog 175 [Bl s,Bl u] w fun v w'=>(∃x,v=.tuple #[x,U ((0:Y):H)]/\CX w' w.heap.size x ps)/\Bf w w':=by
 refine Bw func175 Z ntmps175 Be Z ?_;refine(O 9∘Zc (aM u X w)) ?_;rintro _ p⟨⟨d,rfl,hd⟩,K⟩;obtain rfl:=hd.2 Q;refine(O 2∘Cs 12 (.bool Aj)∘O 5) ?_;refine OW.bytesOf Z Z underlying9 underlying23 underlying5 Z X ?_;rintro l rs w2 ao a7 a3 a4 I;refine(O 6) ?_;refine WX (len:=0) Z Z underlying51 BV Z Z Z X X CA ?_;rintro v3 w3 D E;refine(O 10) ?_;have V:=I.size;refine Lo (fun((i,L,o,qs,A,wr):Y×(Bh)×(Bj)×(Bj)×Ah×Ad)=>(i<=Ajb s/\Ajb L=Ajb u/\front L (s.drop i)=J qs/\o++qs=ps/\Ajb o=i/\Bo wr p.heap.size 3 1 A (Ajb o) (BD .i64 o)/\Bk wr p.heap.size 5 (BI L++rs)/\Bf p wr,[(0,Bl (s)),(6,.slice (J ⟨p.heap.size,0,Aa⟩) (Ajb u) l),(7,A),(19,U ((Ajb s:Y):H)),(20,U i)],wr,Ajb s-i)) (0,u,([]),ps,v3,w3) ?_ ?_
 .exact⟨BE _,Z,hf,Z,Z,D.more V,ao.ext E,I.trans E⟩
 .rintro⟨i,L,o,qs,A,wr⟩⟨hi,a0,g,t,a2,f,h,hx⟩;refine(O 5)<|Zi (fun hc=>?_) fun hc=>?_
  .obtain⟨a1,ab,rfl,r⟩:=uE hc g;refine(O 13)<|Lc (fun((k,m):Y×Ad)=>(k<Ajb u/\L.getD k 0=s[i]/\(∀j,j<k->L.getD j 0≠s[i])/\Bf wr m,[(0,Bl (s)),(6,.slice (J ⟨p.heap.size,0,Aa⟩) (Ajb u) l),(7,A),(8,U i),(9,U k),(19,U ((Ajb s:Y):H)),(20,U i)],m)) ?_ ?_
   .refine(O 1)<|Lo (fun((k,m):Y×Ad)=>(k<=Ajb u/\(∀j,j<k->L.getD j 0≠(s[i]'hc))/\Bf wr m,[(0,Bl (s)),(6,.slice (J ⟨p.heap.size,0,Aa⟩) (Ajb u) l),(7,A),(8,U i),(9,U k),(19,U ((Ajb s:Y):H)),(20,U i)],m,Ajb u-k)) (0,wr) ?_ ?_
    .exact⟨BE _,fun j W=>by omega,Bf.refl _⟩
    .rintro⟨k,m⟩⟨hk,N,a⟩;refine(O 8)<|Nn 27 (fun c1=>?_) fun c1=>?_
     .skip
      refine(O 3∘Zq (by exact fun _=>Bp ((h.ext a).drewN _) (hi:=rI X))∘O 2∘Zq (by exact fun _=>EW underlying9 Z Z (BR (hc)))∘O 2∘QW.nil) fun nq=>Zi (fun h2=>?_) fun h2=>?_
      .refine(O 8) ?_;refine Lb ((k+1),_) ?_;refine⟨X,fun j W=>?_,a.trans (Bf.drewN _ _)⟩;grind
      .have e:=Ll.1 (Dk.1 h2);refine(O 1∘Lm (k,_)) ?_;exact⟨c1,e,N,a.trans (Bf.drewN _ _)⟩
     .exfalso;grind
   .rintro⟨k,m⟩⟨hk,a5,N,a⟩;have y:k<Ajb L:=X;have a6:∀j (W:j<Ajb L),L.getD j 0=L[j]:=fun j W=>by grind
    have T:L.idxOf s[i]=k:=vm y Bg (fun j W=>by grind);rw[T]at r t;have P:=kE L rs k p.heap.size l y X X X m (h.ext a);rw[a0]at P;refine(O 8)<|Zi (fun hz=>?_) fun hz=>?_
    .omega
    .refine(O 5∘Zc P) ?_;rintro _ w5⟨rfl,al,S⟩;refine(O 4) ?_;have C:=(f.ext a).mo S (fun q hq=>by simp;exact fun z=>f.ne h Bc q hq z.symm);have x5:Bf p w5:=Bu (hx.trans a) S (hx.trans a).size Bi;refine(He x5 C) ?_;rintro _ v6 w6 B af ai _;refine(O 7) ?_;have aj:=al.push ai (f.ne h Bc);refine Lb ((i+1),(EF L k),(o++[k]),ab,v6,w6) ?_;rw[KG]at B;exact⟨X,by rw[Pg y];omega,r,Bg,Bg,Bg,aj,af⟩
  .obtain rfl:i=Ajb s:=X;rw[IK,front]at g;injection g with g;subst g;rw[List.append_nil]at t;subst t;refine(O 7∘BG) ?_;exact⟨⟨A,Z,f.more K.size⟩,K.trans hx⟩
def qV{L:Bh}{k:Y}{ps:Bj}:GI L (k::ps)=if k<Ajb L then(GI (EF L k) ps).map (L.getD k 0::·)else Aa:=by rfl
def Abv(ps:Bj)(u:Bh)(a7:Ajb ps<=1000000)(hp:∀p∈ps,p<=1000000000)(hu:Ajb u<=256)(Q:Pf u)(A:Aw AC)(c C:Y)(w:Ad)(hs:Sl w C A (BD .i64 ps)):
 Bn prog 207 [.slice A (Ajb ps) c,Bl u] w fun v w'=>((∃x,GI u ps=J x/\v=.tuple #[Bl x,U ((0:Y):H)])∨(GI u ps=Aa/\∃e:Y,GX e/\v=.tuple #[Bl [],U (e:H)]))/\Bf w w':=by
 refine Bw func207 Z ntmps207 (by rfl) Z ?_;refine(O 9∘Zc (aM u X w)) ?_;rintro _ j⟨⟨d,rfl,hd⟩,t⟩;obtain rfl:=hd.2 Q;refine(O 2∘Cs 12 (.bool Aj)∘O 5) ?_;refine OW.bytesOf Z Z underlying9 underlying23 underlying5 Z X ?_;rintro y rs w2 af bb a9 ba K;refine(O 6) ?_;refine WX (len:=0) Z Z underlying23 CE Z Z Z X X CA ?_;rintro v3 w3 l I;refine(O 10) ?_;have V:=K.size;have a6:=af.lt;refine Lo (fun((i,L,o,B,wr):Y×(Bh)×(Bh)×Ah×Ad)=>(i<=Ajb ps/\Ajb L=Ajb u/\(GI L (ps.drop i)).map (o++·)=GI u ps/\Ajb o=i/\Bo wr j.heap.size 5 1 B (Ajb o) (BI o)/\(∀k,B.ownBlock=J k->j.heap.size≠k)/\Bk wr j.heap.size 5 (BI L++rs)/\Bf j wr,[(0,.slice A (Ajb ps) c),(6,.slice (J ⟨j.heap.size,0,Aa⟩) (Ajb u) y),(7,B),(18,.slice A (Ajb ps) c),(19,U ((Ajb ps:Y):H)),(20,U i)],wr,Ajb ps-i)) (0,u,([]),v3,w3) ?_ ?_
 .refine⟨BE _,Z,?_,Z,l.more V,fun k T=>?_,af.ext I,K.trans I⟩
  .simp
  .have:=(l.lt k T).1;omega
 .rintro⟨i,L,o,B,wr⟩⟨hi,ai,a,a8,m,a0,a3,N⟩;refine(O 5)<|Zi (fun hc=>?_) fun hc=>?_
  .obtain⟨b,f,rfl,_,a5⟩:=hs.intAt X;have ao:=hp _ (BM hc);have r:=a5 wr (t.trans N) i hc;rw[DE hc,qV]at a;generalize ps[i]=p at ao r a;refine(O 6∘Zv (Ca r)∘O 4)<|Lc (fun(d8:Ar)=>(d8=decide (Ajb L<=p),[(0,.slice (J ⟨b,f,Aa⟩) (Ajb ps) c),(6,.slice (J ⟨j.heap.size,0,Aa⟩) (Ajb u) y),(7,B),(9,U p),(18,.slice (J ⟨b,f,Aa⟩) (Ajb ps) c),(19,U ((Ajb ps:Y):H)),(20,U i),(31,.bool d8)],wr)) ?_ ?_
   .refine(O 4)<|Zd 26 (fun c1=>?_) fun c1=>?_
    .omega
    .refine(O 6∘Lm (decide (p≥Ajb u))) ?_;rw[ai]
   .rintro d8 rfl;refine Zi (fun h1=>?_) fun h1=>?_
    .rw[Ag X]at a;refine(O 5∘BG) ?_;exact⟨.inr ⟨a.symm,60,⟨Bc,Bc⟩,Z⟩,t.trans N⟩
    .have h:p<Ajb L:=X;rw[Ai h]at a;have a1:L.getD p 0=L[p]:=by rw[Ck,BR h];rfl
     have P:=kE L rs p j.heap.size y h X X X wr a3;rw[ai]at P;refine(O 5∘Zc P) ?_;rintro _ w5⟨rfl,ab,S⟩;have E:=m.mo S (fun q hq=>by grind);have x5:Bf j w5:=Bu N S N.size Bi;refine(He x5 E) ?_;rintro _ v6 w6 D aj a2 W;refine(O 7) ?_;have a4:=ab.push a2 a0;refine Lb ((i+1),(EF L p),(o++[L[p]]),v6,w6) ?_;rw[<-Qt]at D;refine⟨X,by rw[Pg h];omega,?_,Bg,Bg,fun k T=>?_,a4,aj⟩
     .rw[<-a,a1,Option.map_map];congr 1;grind
     .rcases W with q|⟨g,q,hg⟩
      .grind
      .rw[q]at T;injection T with T;have:=ab.lt;omega
  .obtain rfl:i=Ajb ps:=X;rw[IK,GI]at a;obtain⟨A0,c0,rfl,_,al⟩:=m.slice;refine(O 4∘Zv (Eb al)∘O 3∘BG) ?_;refine⟨.inl ⟨o,?_,Z⟩,t.trans N⟩;grind
def ZJ{l:Bs}{v:Y}(hv:v<2 ^ Ajb l)(h:∀k,k<Ajb l->v.testBit k=l.getD (Ajb l-1-k) Aj):num l=v:=by
 apply TY;intro k;rw[QQ];by_cases a:k<Ajb l
 .grind
 .rw[Ck,IN Bg,Qk (Ks hv (Gb Bi X))];rfl
def ZI{l:Bs}{k:Y}(hk:k<Ajb l):(num l).testBit k=l.getD (Ajb l-1-k) Aj:=by
 rw[QQ,Ck,Ck,TN hk]
def rk(m k:Y):(1*2 ^ m).testBit k=decide (m=k):=by
 grind
def Abb{u:Bh}{i:Y}(hi:i<Ajb u):num (Db (u.take (i+1)) (u[i].toNat/16))=num (Db (u.take i) (u[i].toNat/16))|||(1*2 ^ (15-u[i].toNat%16)):=by
 have g:=(u[i]).toNat_lt;have a:=JR;refine ZJ ?_ fun k d=>?_
 .rw[a];refine LZ ?_ ?_
  .have:=Pm (Db (u.take i) (u[i].toNat/16));grind
  .rw[Nat.one_mul];exact Nat.pow_lt_pow_right Bc X
 .rw[a]at d;rw[Nat.testBit_or,ZI Bg,rk,a,a,aA _ _ _ X,aA _ _ _ X,<-CS hi];rw[RA,RB,decide_eq_true_eq,decide_eq_true_eq,decide_eq_true_eq,Dx,CF];refine or_congr Iff.rfl ⟨fun e=>?_,fun e=>?_⟩
  .apply Ll.1;simp;omega
  .have f:=Av UInt8.toNat e;rw[Bz.toNat_ofNat X]at f;omega
def Abc{u:Bh}{i r:Y}(hi:i<Ajb u)(g:r<16)(d:r≠u[i].toNat/16):num (Db (u.take (i+1)) r)=num (Db (u.take i) r):=by
 have h:=(u[i]).toNat_lt;congr 1;unfold Db;apply Kj;intro k a;have a:=DU.1 a;rw[<-CS hi,decide_eq_decide,Dx,CF];refine⟨fun q=>q.resolve_right fun e=>?_,.inl⟩;have f:=Av UInt8.toNat e;rw[Bz.toNat_ofNat X]at f;omega
def mA(u:Bh)(r:Y):num (Db u r)<65536:=by
 have:=Pm (Db u r);rwa[JR]at this
def SZ(u:Bh)(r:Y):num (Db u r)=0↔DM u r=Aj:=by
 constructor
 .intro h;unfold DM;rw[List.any_eq_false];intro b d;obtain⟨j,a,rfl⟩:=Hq.1 d;have:=ZI (l:=Db u r) (k:=15-j) (by rw[JR]at*;omega);rw[h,Nat.zero_testBit,JR]at this;rw[JR]at a;grind
 .intro h;refine ZJ (Nat.two_pow_pos _) fun k e=>?_;unfold DM at h;rw[List.any_eq_false]at h;have a:Ajb (Db u r)-1-k<Ajb (Db u r):=X;have:=h _ (BM a);grind
def GG(u:Bh)(i:Y):Bs:=(BF 16).map fun r=>decide (r<i) && DM u r
def Xf(u:Bh)(i:Y):Ajb (GG u i)=16:=by rfl
def dJ(u:Bh)(i k:Y)(h:k<16):(GG u i).getD k Aj=(decide (k<i) && DM u k):=by
 unfold GG;grind
def qO{u:Bh}{i:Y}(hi:i<16):num (GG u (i+1))=if DM u i=Af then num (GG u i)|||(1*2 ^ (15-i))else num (GG u i):=by
 have a:=Xf u
 have d:num (GG u i)<2 ^ 16:=by
  have:=Pm (GG u i);rwa[a]at this
 refine ZJ ?_ fun k f=>?_
 .rw[a];split
  .refine LZ d ?_;rw[Nat.one_mul];exact Nat.pow_lt_pow_right Bc X
  .omega
 .rw[a]at f;rw[a,dJ _ _ _ X]
  have e:(num (GG u i)).testBit k=(decide (16-1-k<i) && DM u (16-1-k)):=by
   rw[ZI Bg,a,dJ _ _ _ X]
  grind
def qK(u:Bh):GG u 16=(BF 16).map (DM u):=by
 rfl
def dK(u:Bh)(i:Y):num (GG u i)<65536:=by
 have:=Pm (GG u i);rwa[Xf]at this
def lH{m:Y}(h:m<=15):(2:Y) ^ m<=32768:=Gb Bi h
def xP(u:Bh)(r:Y):nb 16 (num (Db u r))=Db u r:=by
 have:=kH (Db u r);assumption
def Aaw(r:Y):num (Db [] r)=0:=(SZ [] r).2 (by rfl)
def Acz(u:Bh)(hu:Ajb u<=256)(af:Pf u)(w:Ad):
 Bn prog 178 [Bl u] w fun v w'=>v=.tuple #[.agg (Ec (JU u)).toArray,U ((0:Y):H)]/\Bf w w':=by
 refine Bw func178 Z ntmps178 Be Z ?_;refine(O 2∘Zn) ?_;rintro ob w0 a8 a3 L;refine(O 6∘Zc (aM u X w0)) ?_;rintro _ w1⟨⟨d,rfl,hd⟩,K⟩;obtain rfl:=hd.2 af;refine(O 2∘Cs 14 (.bool Aj)∘O 4∘Zn) ?_;rintro G w2 a7 ao I;refine(O 9) ?_
 have W:Bk w2 G 324 (EK .u64 16 fun r=>num (Db (u.take 0) r)):=by
  rw[Qd,<-nE (F:=fun _=>0) (fun r _=>(Aaw r).symm)];exact ao
 refine Lo (fun((i,wr):Y×Ad)=>(i<=Ajb u/\Bk wr G 324 (EK .u64 16 fun r=>num (Db (u.take i) r))/\Mo w2 wr [G],[(0,Bl (u)),(2,.pointer (J ⟨ob,0,Aa⟩)),(4,.pointer (J ⟨G,0,Aa⟩)),(17,U ((Ajb u:Y):H)),(18,U i)],wr,Ajb u-i)) (0,w2) ?_ ?_
 .exact⟨BE _,W,Mo.refl _ _⟩
 .rintro⟨i,wr⟩⟨hi,D,hm⟩;refine(O 5)<|Zi (fun hc=>?_) fun hc=>?_
  .have h8:=(u[i]).toNat_lt;have y:u[i].toNat/16<16:=X;have S:=mA (u.take i) (u[i].toNat/16);have ab:=lH (show 15-u[i].toNat%16<=15 by omega)
   have hG:∀r,r<16->num (Db (u.take (i+1)) r)=if r=u[i].toNat/16 then num (Db (u.take i) (u[i].toNat/16))|||(1*2 ^ (15-u[i].toNat%16))else num (Db (u.take i) r):=fun r D=>by
    by_cases e:r=u[i].toNat/16
    .rw[Ai e,e,Abb hc]
    .rw[Ag e,Abc hc D e]
   refine(O 8) ?_;refine Kg 14 Be Be<|HW.val Z Z (EX.move Z)<|HW.val Z Z (EX.move Z)<|HW.val Z Z (EW underlying9 Z Z (BR (hc)))<|HW.val Z Z (II (s:=4) (p:=16) Z Z Bc Bc)<|HW.val Z Z (by first|exact LQ underlying324 PB Z Z X|exact LR underlying324 PB Z Z X)<|HW.val Z Z (Ci underlying211 Z Z (D.drew.cell_of (MI y)))<|HW.val Z Z (EX.move Z)<|HW.val Z Z (EX.move Z)<|HW.val Z Z (EW underlying9 Z Z (BR (hc)))<|HW.val Z Z (MU (b:=15) (j:=4) (p:=16) (m:=255) Z Z Bc Bc Z X)<|HW.val Z Z (Kc (a:=15) (m:=255) Z Z Z X)<|HW.val Z Z (Oj (a:=1) (m:=18446744073709551615) Z Z (by show _<=64;omega) Z X)<|HW.val Z Z (Oh (m:=18446744073709551615) Z Z Z X)<|HW.val Z Z (by first|exact LQ underlying324 PB Z Z X|exact LR underlying324 PB Z Z X)<|HW.tail<|(Zt D.drew (hlt:=by assumption)) ?_;rintro w3 V a6;refine(O 6) ?_;rw[PA y hG]at V;refine Lb ((i+1),w3) ?_;exact⟨X,V,(hm.trans (Mo.Agk (Bf.drew wr) _)).trans a6⟩
  .obtain rfl:i=Ajb u:=X;rw[DV]at D;have x1:=L.trans K;have E:Bf w1 wr:=Bu I hm I.size Bx;have a0:=(a3.ext K).ext E;refine(O 3∘Zc (Pk wr)) ?_;rintro _ w4⟨A,rfl,Q,l⟩;refine(O 6) ?_;have T:=D.ext l;have a2:=a0.ext l;refine(Zv (by exact Jp underlying324 Z bA Z (T) (by rw[Gy]))∘O 3)<|Lo (fun(i:Y)=>(i<=16,[(2,.pointer (J ⟨ob,0,Aa⟩)),(4,.pointer (J ⟨G,0,Aa⟩)),(6,.pointer (J ⟨A,0,Aa⟩)),(7,.int .u64 (((num (GG u i)):Y):H)),(37,.agg (EK .u64 16 fun r=>num (Db u r)).toArray),(38,U i)],w4,16-i)) 0 ?_ ?_
   .simp
   .rintro i hi;refine(O 5)<|Zi (fun h=>?_) fun h=>?_
    .have aj:=dK u i;have ab:=lH (show 15-i<=15 by omega);have g:=qO (u:=u) h;refine(O 6∘Zv (by exact Ty underlying324 underlying211 Z PB Z Z X (MI h))∘O 8)<|Zi (fun f=>?_) fun f=>?_
     .have C:DM u i=Af:=by
       rcases hb:DM u i with _|_
       .exact AI ((SZ u i).2 hb) f
       .rfl
      rw[Ai C]at g;refine(O 5∘Zv (by exact Oj (a:=1) (m:=18446744073709551615) Z Z (by show _<=64;omega) Z X)∘Zv (by exact Oh (m:=18446744073709551615) Z Z Z X)∘O 7∘Cs 7 (.int .u64 (((num (GG u (i+1))):Y):H)) (e:=by rw[g]))<|Lb (i+1) ?_;exact h
     .have C:¬DM u i=Af:=fun q=>by
       have:=(SZ u i).1 (Dk.1 f);grind
      rw[Ag C]at g;refine(O 6∘Cs 7 (.int .u64 (((num (GG u (i+1))):Y):H)) (e:=by rw[g]))<|Lb (i+1) ?_;exact h
    .obtain rfl:i=16:=X;have aj:=dK u 16
     have a4:nb 16 (num (GG u 16))=(BF 16).map (DM u):=by
      have:=kH (GG u 16);rwa[Xf,qK]at this
     refine(O 5∘Zc (GQ wr.heap.size A [] (num (GG u 16)) 16 X Bc aj Bc w4 Q)) ?_;rintro _ w5⟨rfl,P,t5⟩;refine(O 4) ?_;rw[EP,a4]at P;have x5:Bf w1 w5:=t5.below (E.trans l) (E.trans l).size E.size;have al:=t5.bk T Z;have ba:=t5.bk a2 Z;refine(Zv (by exact Jp underlying324 Z bA Z (al) (by rw[Gy]))∘O 3)<|Lo (fun((i,k):Y×Ad)=>(i<=16/\FD k wr.heap.size A ((BF 16).map (DM u)++(BF i).flatMap fun r=>if DM u r then Db u r else[])/\Bk k ob 226 [Bl [],U 0]/\Bf w1 k,[(2,.pointer (J ⟨ob,0,Aa⟩)),(6,.pointer (J ⟨A,0,Aa⟩)),(54,.agg (EK .u64 16 fun r=>num (Db u r)).toArray),(55,U i)],k,16-i)) (0,w5) ?_ ?_
     .grind
     .rintro⟨i,k⟩⟨hi,n,B,N⟩
      have ai:∀i,Ajb ((BF i).flatMap fun r=>if DM u r then Db u r else[])<=16*i:=fun i=>by
       induction i with
       |zero=>simp
       |succ i ih=>
        rw[Ga,IL,BA,FZ,TL,List.append_nil];split
        .rw[JR];omega
        .grind
      have bb:=ai i;have bc:Ajb ((BF 16).map (DM u))=16:=Bi;refine(O 5)<|Zi (fun t=>?_) fun t=>?_
      .have S:=mA u i
       have o:(BF (i+1)).flatMap (fun r=>if DM u r then Db u r else[])=(BF i).flatMap (fun r=>if DM u r then Db u r else[])++if DM u i then Db u i else[]:=by
        rw[Ga,IL,FZ,TL,List.append_nil]
       refine(O 5∘Zv (by exact Ty underlying324 underlying211 Z PB Z Z X (MI t))∘O 7)<|Zi (fun f=>?_) fun f=>?_
       .have C:DM u i=Af:=by
         rcases hb:DM u i with _|_
         .exact AI ((SZ u i).2 hb) f
         .rfl
        rw[Ai C]at o;refine(O 3∘Zc (GQ wr.heap.size A _ (num (Db u i)) 16 X Bc S Bg k n)) ?_;rintro _ w6⟨rfl,x,t6⟩;refine(O 6)<|Lb ((i+1),w6) ?_;rw[xP,Cx,<-o]at x;have:=E.size;exact⟨t,x,t6.bk B Z,t6.below N N.size X⟩
       .have C:¬DM u i=Af:=fun q=>by
         have:=(SZ u i).1 (Dk.1 f);grind
        rw[Ag C,List.append_nil]at o;refine(O 6)<|Lb ((i+1),k) ?_;dsimp only;rw[o];exact⟨t,n,B,N⟩
      .obtain rfl:i=16:=X;refine(O 4∘Zc (NW wr.heap.size A _ k n)) ?_;rintro _ _⟨rfl,rfl⟩;refine(O 1∘Zc (MQ wr.heap.size A _ k n)) ?_;rintro _ _⟨rfl,rfl⟩;refine(O 1∘Zs B) ?_;rintro w7 a1 a5;refine(O 2) ?_;have hz:=L.size;have a9:=x1.size;have x7:Bf w w7:=Bu (x1.trans N) a5 (x1.trans N).size Bx;refine(DA a1) ?_;exact⟨Z,x7⟩
end
namespace Bz
abbrev VA(l:By):Prop:=l.Pairwise fun a b=>a.toNat<b.toNat
def Aaz(l:Bs){i:Y}(hi:i<16):VA (NL l i)/\∀b∈NL l i,16*i<=b.toNat/\b.toNat<16*(i+1):=by
 refine⟨?_,fun b a=>?_⟩
 .refine LX.2 (HE.imp_of_mem ?_ (HE.filter _ WL));simp;omega
 .obtain⟨k,d,rfl⟩:=Cr.1 a;simp_all;omega
def aY{s:By}{all:Bs}:∀(n a p:Y) (acc u:By) (q:Y),p<=8*Ajb s->VA acc->(∀b∈acc,b.toNat<16*a)->a+n<=16->ID s all (Ha a n) p acc=J (u,q)->VA u/\q<=8*Ajb s
 |0,a,p,acc,u,q,hp,hr,hl,ha,h=>by
  simp[List.range'_zero,ID,RZ.injEq,Prod.mk.injEq]at h;grind
 |n+1,a,p,acc,u,q,hp,hr,hl,ha,h=>by
  rw[WM,ID]at h;split at h
  .exact aY n _ p _ u q hp hr Bg X h
  .split at h
   .grind
   .obtain⟨r1,r2⟩:=Aaz (BX s p 16) (show a<16 by omega);refine aY n _ _ _ u q X ?_ (fun b hb=>?_) X h
    .grind
    .grind
def mj:∀(l:By) (k:Y),VA l->(∀b∈l,k<=b.toNat)->k<=256->Ajb l+k<=256
 |[],k,_,_,h=>by grind
 |a::l,k,hr,hk,h=>by
  have h2:=a.toNat_lt;obtain⟨r1,r2⟩:=Ij.1 hr;have:=mj l (a.toNat+1) r2 (fun b hb=>r1 b hb) X;grind
def Aec{s u:By}{p q:Y}(h:ML s p=J (u,q)):Pf u/\Ajb u<=256/\q<=8*Ajb s:=by
 unfold ML at h;split at h
 .cases h
 .rename_i j;split at h
  .cases h
  .rename_i e g i;split at h
   .cases h
   .rename_i a;injection h with h;injection h with e1 e2;subst e1 e2;obtain⟨d,f⟩:=aY 16 0 (p+16) [] e g X Bi Bi X i;have:=mj _ 0 d X Bi;exact⟨⟨a,d⟩,X,f⟩
def kQ{l:Bs}{i:Y}(h:i<Ajb l):num l/2 ^ (Ajb l-1-i)%2=(l.getD i Aj).toNat:=by
 have a:(num l).testBit (Ajb l-1-i)=l.getD i Aj:=by
  rw[QQ,Ck,Ck,TN X,show Ajb l-1-(Ajb l-1-i)=i by omega]
 grind
def LI(l:Bs)(i n:Y):By:=((BF n).filter fun k=>l.getD k Aj).map fun k=>BU (16*i+k)
def my(l:Bs)(i n:Y):LI l i (n+1)=if l.getD n Aj=Af then LI l i n++[BU (16*i+n)]else LI l i n:=by
 unfold LI;rw[Ga,Lf,DT];grind
def mx(l:Bs)(i:Y):∀n,Ajb (LI l i n)<=n
 |0=>Bv _
 |n+1=>by
  have:=mx l i n;rw[my];grind
end Bz
section
attribute [local irreducible] OW KW QW EX GW NV
open Bz
def MD(s:Bh)(p n:Y):∃v e q,IB s p n=(v,e,q)/\((8*Ajb s<p+n/\v=0/\e=10/\q=p)∨(p+n<=8*Ajb s/\v=num (BX s p n)/\e=0/\q=p+n)):=by
 rcases Df (8*Ajb s) (p+n)with h|h
 .exact⟨0,10,p,Ai h,.inl ⟨h,Z,Z,Z⟩⟩
 .exact⟨_,0,p+n,Ag X,.inr ⟨h,Z,Z,Z⟩⟩
def Ky(s:Bh)(p n:Y):num (BX s p n)<2 ^ n:=by
 have:=Pm (BX s p n);rwa[Sg]at this
def Ade(s:Bh)(p:Y)(hp:p<=8*Ajb s)(hs:Ajb s<=1000000000)(w:Ad):
 Bn prog 160 [Bl s,U (p:H)] w fun v w'=>((∃u q,ML s p=J (u,q)/\v=.tuple #[Bl u,U (q:H),U ((0:Y):H)])∨(ML s p=Aa/\∃e:Y,GX e/\v=.tuple #[Bl [],U ((0:Y):H),U (e:H)]))/\Bf w w':=by
 obtain⟨v0,e0,q0,a4,ao⟩:=MD s p 16;refine Bw func160 Z ntmps160 Be Z ?_;refine(O 10∘Zc (Pj s p hp X w)) ?_;rintro _ w1⟨C,rfl,n,V⟩;refine(O 13) ?_;have c1:=MM w.heap.size C s p 16 Bc hp X w1 n;rw[a4]at c1;refine(Zc c1) ?_;rintro _ w2⟨rfl,ai,t2⟩;refine(O 12) ?_;have x2:Bf w w2:=t2.below V V.size (Bv _);refine Zi (fun he=>?_) fun he=>?_
 .rcases ao with⟨h,rfl,rfl,rfl⟩|⟨h,rfl,rfl,rfl⟩
  .refine(O 7∘CT) ?_;refine⟨.inr ⟨Ai h,10,⟨Bc,Bc⟩,Z⟩,x2⟩
  .exact AI Z he
 .rcases ao with⟨h,rfl,rfl,rfl⟩|⟨h,rfl,rfl,rfl⟩
  .exact AI (show(10:Y)≠0 by decide) he
  .have E:ML s p=match ID s (BX s p 16) (BF 16) (p+16) []with
    |none=>Aa
    |some (u,q)=>if u=[]then Aa else J (u,q):=Ag X
   have bb:=Ky s p 16;have A:=Sg s p 16;generalize BX s p 16=all at E bb A;generalize W:ID s all (BF 16) (p+16) []=T at E;rw[RS]at W;refine(O 3) ?_;refine Ku 0 Z Z underlying23 CE Z Z Z Z (by rfl) Bc ?_;rintro ob w3 bf ba S;refine(O 8) ?_;have bj:=x2.size;refine Lo (fun((i,q,a,N,wr):Y×Y×(Bh)×Ah×Ad)=>(i<=16/\q<=8*Ajb s/\Ajb a<=16*i/\ID s all (Ha i (16-i)) q a=T/\Bo wr w.heap.size 5 1 N (Ajb a) (BI a)/\RdAt wr w.heap.size C s q/\Bf w wr,[(0,Bl (s)),(7,.pointer (J ⟨C,0,Aa⟩)),(8,.int .u64 (((num all):Y):H)),(10,N),(29,U i)],wr,16-i)) (0,(p+16),([]),(.slice (J ⟨ob,0,Aa⟩) 0 0),w3) ?_ ?_
   .exact⟨BE _,h,BE _,W,Bo.Agl (l:=[]) ba X Z Bc,ai.ext S,x2.trans S⟩
   .rintro⟨i,q,a,N,wr⟩⟨hi,hq,bh,o,y,n,hx⟩;refine(O 5)<|Zi (fun hc=>?_) fun hc=>?_
    .rw[show 16-i=(16-(i+1))+1 by omega,WM,ID]at o;have I:=kQ (l:=all) (i:=i) X;rw[A,show 16-1-i=15-i by omega]at I;have bm:=Ox (num all) (2 ^ (15-i));refine(O 15∘Zv (by exact PT Z Z (by show _<=64;omega))∘Zv (by exact MU (b:=1) (j:=1) (p:=2) (m:=18446744073709551615) Z Z Bc Bc Z X)∘O 2)<|Zi (fun x=>?_) fun x=>?_
     .rw[I]at x
      have K:all.getD i Aj=Aj:=by
       cases hb:all.getD i Aj
       .rfl
       .grind
      rw[Ai K]at o;refine(O 5)<|Lb ((i+1),q,a,N,wr) ?_;grind
     .rw[I]at x;have K:¬all.getD i Aj=Aj:=fun q=>x (by rw[q];rfl);rw[Ag K]at o;obtain⟨v1,e1,q1,a3,al⟩:=MD s q 16;have c1:=MM w.heap.size C s q 16 Bc hq X wr n;rw[a3]at c1;refine(O 4∘Zc c1) ?_;rintro _ w4⟨rfl,af,t4⟩;refine(O 12) ?_;have x4:Bf w w4:=t4.below hx hx.size (Bv _);have Q:=t4.own y Z;refine Zi (fun L=>?_) fun L=>?_
      .rcases al with⟨h1,rfl,rfl,rfl⟩|⟨h1,rfl,rfl,rfl⟩
       .rw[Ai h1]at o;refine(O 7∘CT) ?_;refine⟨.inr ⟨Bg,10,⟨Bc,Bc⟩,Z⟩,x4⟩
       .exact AI Z L
      .rcases al with⟨h1,rfl,rfl,rfl⟩|⟨h1,rfl,rfl,rfl⟩
       .exact AI (show(10:Y)≠0 by decide) L
       .rw[Ag X]at o;have a2:=Ky s q 16;have ab:=Sg s q 16;generalize BX s q 16=row at o a2 ab;refine(O 6)<|Lo (fun((k,P,B):Y×Ah×Ad)=>(k<=16/\Bo B w.heap.size 5 1 P (Ajb (a++LI row i k)) (BI (a++LI row i k))/\RdAt B w.heap.size C s (q+16)/\Bf w B,[(0,Bl (s)),(7,.pointer (J ⟨C,0,Aa⟩)),(8,.int .u64 (((num all):Y):H)),(10,P),(11,U i),(12,.int .u64 (((num row):Y):H)),(29,U i),(47,U k)],B,16-k)) (0,N,w4) ?_ ?_
        .exact⟨BE _,by simpa[LI]using Q,af,x4⟩
        .rintro⟨k,P,B⟩⟨hk,d,f,D⟩;have bi:=mx row i k;refine(O 5)<|Zi (fun a7=>?_) fun a7=>?_
         .have g:=my row i k;have G:=kQ (l:=row) (i:=k) X;rw[ab,show 16-1-k=15-k by omega]at G;have bl:=Ox (num row) (2 ^ (15-k));have a8:=Bz.toNat_ofNat (show 16*i+k<256 by omega);have a9:((16*i+k:Y):H)=((BU (16*i+k)).toNat:H):=Av Nd a8.symm;refine(O 14∘Zv (by exact PT Z Z (by show _<=64;omega))∘Zv (by exact MU (b:=1) (j:=1) (p:=2) (m:=18446744073709551615) Z Z Bc Bc Z X)∘O 2)<|Zi (fun r=>?_) fun r=>?_
          .rw[G]at r
           have K:row.getD k Aj=Af:=by
            cases hb:row.getD k Aj
            .grind
            .rfl
           rw[Ai K]at g;have a5:Ajb (a++LI row i k)<=256:=by rw[BA];omega
           refine(O 7∘He D d) ?_;rintro _ v5 w5 t a0 a6 _;refine(O 7)<|Lb ((k+1),v5,w5) ?_;rw[a9,<-Qt]at t;dsimp only;rw[g,<-Cx,BA (bs:=[BU (16*i+k)])];exact⟨X,t,f.tm (Tm.grown d a6) Z Z,a0⟩
          .rw[G]at r;have K:¬row.getD k Aj=Af:=fun q=>r (by rw[q];rfl);rw[Ag K]at g;refine(O 6)<|Lb ((k+1),P,B) ?_;dsimp only;rw[g];exact⟨X,d,f,D⟩
         .obtain rfl:k=16:=X;refine(O 6)<|Lb ((i+1),(q+16),(a++LI row i 16),P,B) ?_;exact⟨X,h1,by rw[BA];omega,o,d,f,D⟩
    .obtain rfl:i=16:=X;rw[Fa,List.range'_zero,ID]at o;rw[<-o]at E;obtain⟨A0,c0,rfl,_,a1⟩:=y.slice;refine(O 8)<|Zi (fun x=>?_) fun x=>?_
     .have aj:a=[]:=Ih x;refine(O 6∘CT) ?_;exact⟨.inr ⟨Bg,60,⟨Bc,Bc⟩,Z⟩,hx⟩
     .have aj:a≠[]:=fun q=>x (by rw[q];rfl);refine(O 2∘Yr 7 (fun w'=>Bf wr w') (Bf.drew wr)) fun hS=>(Gv [0]∘Yw 1 (he:=by exact fun _ bc=>Eb (a1.ext bc))∘Gv [2]∘Yc 3 (SS w.heap.size C s q wr.drew (n.ext (Bf.drew wr)))) ?_;rintro _ _⟨rfl,rfl⟩;refine⟨hS,fun hS=>?_⟩;refine(Gv [4,5,6]∘Yd∘CT) ?_;exact⟨.inl ⟨a,q,Bg,Z⟩,hx.trans (Bf.drew wr)⟩
def kg(l:Bj)(h0:0<Ajb l)(n:Ajb l<=1000000000)(A:Aw AC)(c C:Y)(w:Ad)(j:Sl w C A (BD .i64 l)):
 Bn prog 286 [.slice A (Ajb l) c] w fun v w'=>(∃m:Y,m∈l/\(∀x∈l,x<=m)/\v=U (m:H))/\w=w':=by
 obtain⟨b,f,rfl,_,d⟩:=j.intAt h0;refine Bw func286 Z ntmps286 (by rfl) Z ?_;refine(O 11)<|Zi (fun h=>?_) fun h=>?_
 .omega
 .refine(O 5∘Zv (Ca (d w (Bf.refl _) 0 h0))∘O 8)<|Lo (fun((i,m):Y×Y)=>((1<=i/\i<=Ajb l/\m∈l/\∀x∈l.take i,x<=m),[(0,.slice (J ⟨b,f,Aa⟩) (Ajb l) c),(3,U m),(4,U i)],w,Ajb l-i)) (1,(l[0])) ?_ ?_
  .refine⟨Bv _,h0,BM _,fun x g=>?_⟩;cases l with
   |nil=>grind
   |cons a r=>
    grind
  .rintro⟨i,m⟩⟨q,p,o,k⟩;refine(O 8)<|Zi (fun e=>?_) fun e=>?_
   .refine(O 8∘Zv (Ca (d w (Bf.refl _) i e))∘O 9)<|Lb ((i+1),(max m l[i])) ?_;refine⟨X,e,?_,fun x g=>?_⟩
    .grind
    .rw[<-CS e,Dx,CF]at g;grind
   .obtain rfl:i=Ajb l:=X;rw[DV]at k;refine(O 6∘Br) ?_;grind
def min_s(l:Bj)(h0:0<Ajb l)(h:Ajb l<=1000000000)(A:Aw AC)(c C:Y)(w:Ad)(g:Sl w C A (BD .i64 l)):
 Bn prog 302 [.slice A (Ajb l) c] w fun v w'=>(∃m:Y,v=U (m:H))/\w=w':=by
 obtain⟨b,f,rfl,_,a⟩:=g.intAt h0;refine Bw func302 Z ntmps302 (by rfl) Z ?_;refine(O 11)<|Zi (fun e=>?_) fun e=>?_
 .omega
 .refine(O 5∘Zv (Ca (a w (Bf.refl _) 0 h0))∘O 8)<|Lo (fun((i,m):Y×Y)=>(1<=i/\i<=Ajb l,[(0,.slice (J ⟨b,f,Aa⟩) (Ajb l) c),(3,U m),(4,U i)],w,Ajb l-i)) (1,(l[0])) ?_ ?_
  .omega
  .rintro⟨i,m⟩⟨k,j⟩;refine(O 8)<|Zi (fun d=>?_) fun d=>?_
   .refine(O 8∘Zv (Ca (a w (Bf.refl _) i d))∘O 9)<|Lb ((i+1),(min m l[i])) ?_;omega
   .refine(O 6∘Br) ?_;grind
def jP(l:Bj)(f:2<=Ajb l/\Ajb l<=258)(a:∀x∈l,x<=1073741824)(A:Aw AC)(c C:Y)(w:Ad)(d:Sl w C A (BD .i64 l)):
 Bn prog 283 [.slice A (Ajb l) c] w fun v w'=>v=.bool Af/\w=w':=by
 obtain⟨f,j⟩:=f;refine Bw func283 Z ntmps283 (by rfl) Z ?_;refine(O 10)<|Zd 6 (fun i=>?_) fun i=>?_
 .refine(O 5)<|Zd 11 (fun h=>?_) fun h=>?_
  .refine(O 1∘Zc (min_s l X X A c C w d)) ?_;rintro _ _⟨⟨m,rfl⟩,rfl⟩;refine(O 3)<|Zd 16 (fun g=>?_) fun g=>?_
   .refine(O 1∘Zc (kg l X X A c C w d)) ?_;rintro _ _⟨⟨M,e,_,rfl⟩,rfl⟩;have e:=a M e;refine(O 4∘Br) ?_;grind
   .omega
  .omega
 .omega
def Jb(l:Bj):Y:=CV (l.map fun x=>2 ^ (20-x))
def Aao(l:Bj)(x:Y):Jb (l++[x])=Jb l+2 ^ (20-x):=by
 unfold Jb;rw[DT,Tk,Co,Ep,Ge];rfl
def mq(l:Bj):Jb l<=Ajb l*1048576:=by
 unfold Jb
 have:=VK (l:=l.map fun x=>2 ^ (20-x)) (m:=1048576) (fun x a=>by
  obtain⟨y,_,rfl⟩:=Cr.1 a;exact Gb (n:=2) Bi (show 20-y<=20 by omega))
 grind
open Classical in
noncomputable def Hy(l:Bj):Y:=if 2<=Ajb l/\Ajb l<=258/\∀x∈l,1<=x/\x<=20 then Jb l else 0
def xh(l:Bj)(N:Ajb l<=1000000000)(q:∀x∈l,x<=1000000000)(A:Aw AC)(c C:Y)(w:Ad)(E:Sl w C A (BD .i64 l)):
 Bn prog 250 [.slice A (Ajb l) c] w fun v w'=>v=U ((Hy l:Y):H)/\w=w':=by
 refine Bw func250 Z ntmps250 (by rfl) Z ?_;refine(O 6)<|Lc (fun(y:Ar)=>(y=decide (Ajb l<2∨258<Ajb l),[(0,.slice A (Ajb l) c),(13,.bool y)],w)) ?_ ?_
 .refine(O 5)<|Zd 9 (fun k=>?_) fun k=>?_
  .refine(O 5∘Lm Af) ?_;exact(AL (.inl k)).symm
  .refine(O 5∘Lm (decide (Ajb l>258))) ?_;grind
 .rintro y rfl;refine Zi (fun L=>?_) fun L=>?_
  .have e:Hy l=0:=Ag X;refine(O 4∘Br) ?_;grind
  .refine(O 13)<|Lo (fun(i:Y)=>((i<=Ajb l/\∀x∈l.take i,1<=x/\x<=20),[(0,.slice A (Ajb l) c),(3,U (((Jb (l.take i)):Y):H)),(14,.slice A (Ajb l) c),(15,U ((Ajb l:Y):H)),(16,U i)],w,Ajb l-i)) 0 ?_ ?_
   .simp
   .rintro i⟨P,g⟩;refine(O 5)<|Zi (fun j=>?_) fun j=>?_
    .obtain⟨b,f,rfl,_,r⟩:=E.intAt X;have o:=q _ (BM j);have d:=r w (Bf.refl _) i j;have p:l.take (i+1)=l.take i++[l[i]]:=(CS j).symm;have h:l[i]∈l:=BM j;generalize l[i]=x at o d p h;refine(O 6∘Zv (Ca d)∘O 4)<|Lc (fun(t:Ar)=>(t=decide (x<1∨20<x),[(0,.slice (J ⟨b,f,Aa⟩) (Ajb l) c),(3,U (((Jb (l.take i)):Y):H)),(5,U x),(14,.slice (J ⟨b,f,Aa⟩) (Ajb l) c),(15,U ((Ajb l:Y):H)),(16,U i),(25,.bool t)],w)) ?_ ?_
     .refine(O 4)<|Zd 22 (fun k=>?_) fun k=>?_
      .refine(O 4∘Lm Af) ?_;exact(AL (.inl k)).symm
      .refine(O 4∘Lm (decide (x>20))) ?_;grind
     .rintro t rfl;refine Zi (fun K=>?_) fun K=>?_
      .have e:Hy l=0:=Ag Bg;refine(O 4∘Br) ?_;grind
      .have I:=mq (l.take i);have D:Ajb (l.take i)<=258:=by rw[BZ];omega
       have G:=Aao (l.take i) x;have B:(2:Y) ^ (20-x)<=1048576:=Gb (n:=2) Bc (show 20-x<=20 by omega);refine(O 5∘Zv (by exact Oj (a:=1) (m:=9223372036854775807) Z Z (by show _<=64;omega) Z X)∘O 8∘Cs 3 (U (((Jb (l.take (i+1))):Y):H)) (e:=by grind))<|Lb (i+1) ?_;grind
    .obtain rfl:i=Ajb l:=X;rw[DV]at g;have e:Hy l=Jb l:=Ai ⟨X,X,g⟩;refine(O 6∘Br) ?_;grind
def Adk{l:Bj}(f:2<=Ajb l)(e:Ajb l<=258):(Hy l=0∨1048576<Hy l)↔¬LOk l:=by
 unfold Hy;constructor
 .intro h q;rw[Ai ⟨f,e,q.pos⟩]at h;have g:Jb l<=1048576:=q.kraft;rcases h with h|h
  .cases l with
   |nil=>grind
   |cons a r=>
    have:Jb (a::r)=2 ^ (20-a)+Jb r:=rfl;grind
  .omega
 .intro h;by_cases d:∀x∈l,1<=x/\x<=20
  .rw[Ai ⟨f,e,d⟩];right;exact Nat.lt_of_not_le fun q=>h ⟨d,q⟩
  .grind
def Adj{l:Bj}(h:¬(2<=Ajb l/\Ajb l<=258)):Hy l=0:=Ag fun q=>h ⟨q.1,q.2.1⟩
open Classical in
noncomputable def GJ(l:Bj):Y:=if 2<=Ajb l/\Ajb l<=258/\LOk l then 0 else 80
def Zf(l:Bj)(i:Ajb l<=1000000000)(a:∀x∈l,x<=1000000000)(A:Aw AC)(c C:Y)(w:Ad)(g:Sl w C A (BD .i64 l)):
 Bn prog 203 [.slice A (Ajb l) c] w fun v w'=>v=U ((GJ l:Y):H)/\w=w':=by
 have f:(Hy l=0∨1048576<Hy l)↔¬(2<=Ajb l/\Ajb l<=258/\LOk l):=by
  by_cases h:2<=Ajb l/\Ajb l<=258
  .rw[Adk h.1 h.2];grind
  .exact⟨fun _ z=>h ⟨z.1,z.2.1⟩,fun _=>.inl (Adj h)⟩
 have j:Hy l<=1000000000:=by
  unfold Hy;split
  .rename_i h;have:=mq l;omega
  .omega
 refine Bw func203 Z ntmps203 (by rfl) Z ?_;refine(O 8∘Zc (xh l i a A c C w g)) ?_;rintro _ _⟨rfl,rfl⟩;refine(O 3)<|Lc (fun(d:Ar)=>(d=decide (Hy l=0∨1048576<Hy l),[(3,U (((Hy l):Y):H)),(11,.bool d)],w)) ?_ ?_
 .refine(O 4)<|Zd 8 (fun k=>?_) fun k=>?_
  .refine(O 4∘Lm Af) ?_;grind
  .refine(O 4∘Lm (decide (Hy l>1048576))) ?_;grind
 .rintro d rfl;refine Zi (fun h=>?_) fun h=>?_
  .have e:GJ l=80:=Ag (f.1 h);refine(O 4∘Br) ?_;rw[e];exact⟨Z,Z⟩
  .have e:GJ l=0:=Ai (Dk.1 fun q=>h (f.2 q));refine(O 5∘Br) ?_;rw[e];exact⟨Z,Z⟩
def rS(l:Bj)(h0:0<Ajb l)(hl:Ajb l<=1000000000)(A:Aw AC)(c C:Y)(w:Ad)(h:Sl w C A (BD .i64 l)):
 Bn prog 284 [.slice A (Ajb l) c] w fun v w'=>CX w' w.heap.size v l/\Bf w w':=by
 obtain⟨b,f,rfl,_,j⟩:=h.intAt h0;refine Bw func284 Z ntmps284 (by rfl) Z ?_;refine(O 14) ?_;refine Ku 0 Z Z underlying51 BV Z Z Z Z (by rfl) Bc ?_;rintro n k e i g;refine(O 1) ?_;refine HL Z Z underlying51 BV Z Bc Z Z (g) (Bo.Agl (l:=[]) i e Z Bc) (Src.Agn underlying51 (h.ext g) (by rw[DO,IP]) Lz Bc) CA X ?_;rintro m w' a d _ _;refine(O 2∘Br) ?_;rw[Fb]at a;exact⟨a,d⟩
end
section
open Go.Shelf
def Gr(w w':Ad):Prop:=Bf w w'/\w.drawn<=w'.drawn
def Gr.refl(w:Ad):Gr w w:=⟨Bf.refl w,X⟩
def Gr.trans{a b c:Ad}(h:Gr a b)(k:Gr b c):Gr a c:=⟨h.1.trans k.1,BC h.2 k.2⟩
def Gr.drewN(w:Ad)(m:Y):Gr w (w.drewN m):=⟨Bf.drewN w m,by show w.drawn<=w.drawn+m;omega⟩
def Gr.alloc(w:Ad)(o:Obj):Gr w (w.alloc o):=⟨Bf.alloc w o,Bv _⟩
def Gr.grow{w w':Ad}(h:Gr w w'):∃q os,w'=Go.Sort.grow (w.drewN q) os:=by
 obtain⟨⟨A,y,x,v,t⟩,r⟩:=h;obtain⟨d,l,g,os,n⟩:=w;obtain⟨a,j,f,o,m⟩:=w';refine⟨f-g,a.extract d.size a.size,?_⟩
 have e:d++a.extract d.size a.size=a:=by
  apply Array.ext_getElem?;intro i;by_cases p:i<d.size
  .grind
  .grind
 unfold Go.Sort.grow World.drewN;simp_all
def KE{α:Type}{cells:α->Bm}{k:Y}(hk:∀x,Ajb (cells x)=k):∀l:Ae α,Ajb (l.flatMap cells)=Ajb l*k
 |[]=>by simp
 |x::l=>by
  have ih:=KE hk l;grind
section
variable{α:Type}[Inhabited α]{cells:α->Bm}{k:Y}
def gM(hk:∀x,Ajb (cells x)=k)(a:0<k)(l:Ae α):(Go.Sort.flatK cells k l.toArray).toList=l.flatMap cells:=by
 have e:=KE hk l;apply GZ;intro t;by_cases d:t<Ajb l*k
 .have f:t/k<Ajb l:=by rwa[Nat.div_lt_iff_lt_mul a]
  have m:t%k<k:=Ng _ a;have j:t/k*k+t%k=t:=by rw[Qi];exact Nat.div_add_mod t k
  have i:=SD hk l (t/k) (t%k) f _ (BR (by rwa[hk]));have g:t<(Go.Sort.flatK cells k l.toArray).size:=by simpa using d
  have h:=Go.Sort.get_flatK cells k l.toArray t (by simpa using d);grind
 .simp_all
def zG(F:Ap Ah)(xs rest:Bm)(h:Ajb xs=F.size):Go.Sort.putCells id 0 F (xs++rest).toArray=(F.toList++rest).toArray:=by
 apply Array.ext_getElem?;intro i;simp only[Go.Sort.putCells,Array.getElem?_mapIdx];grind
def nf(w:Ad)(g n:Y)(d:Ap α)(os:Ap Obj):Mo w (sortWorldK cells k w g 0 n d os) [g]:=by
 refine⟨Z,Z,Z,?_,fun j e a=>?_⟩
 .simp[sortWorldK,Go.Sort.putRowK,Go.Sort.mapBlock]
 .simp[sortWorldK,Go.Sort.grow,Go.Sort.putRowK,Go.Sort.putRow,Go.Sort.mapBlock,Go.Sort.ahead];grind
def Acp{w:Ad}{g n:Y}{T:Ay}{l:Ae α}{d:Ap α}{os:Ap Obj}{rest:Bm}(hk:∀x,Ajb (cells x)=k)(a:0<k)(f:Bk w g T (l.flatMap cells++rest))(e:d.size=Ajb l):
 Bk (sortWorldK cells k w g 0 n d os) g T (d.toList.flatMap cells++rest):=by
 obtain⟨j,i,m⟩:=f
 have h:=by
  have:=gM hk a d.toList;simpa using this
 refine⟨j,?_,?_⟩
 .simp[sortWorldK,Go.Sort.grow,Go.Sort.putRowK,Go.Sort.putRow,Go.Sort.mapBlock,Go.Sort.ahead];rw[Array.getElem?_append_left Bg,Wg,Ai Z,i];simp only[FP,Go.Sort.onCells];rw[zG _ _ _ (by rw[KE hk,Go.Sort.size_flatK,e]),h]
 .have p:=KE hk l;have o:=KE hk d.toList;grind
def VG {P:AD} {ρ:Ren} (L:SlLaysF0.n6 P ρ) {f:Y} (a1:ρ.f 6=f) {fn:Func} (hf:P.funcs[f]? =J fn) (hn:(!(fn.name== "runtime.NumGoroutine") && fn.body.isSome)=Af) {e:Ay} (he:ρ.t 24=e) {bs:Y} {z:Ah} {d:TypeDesc} (hu:P.underlying e=J d) (a0:flat d=Aj) (hi:TI P e z k bs) (K:0<k)
 (hk:∀x,Ajb (cells x)=k) (h1:∀x,∀v∈cells x,v.oneCell'=Af) (T:α->α->H) (hO:Go.Sort.SWO (fun a b=>decide (T a b<0)))
 {g:Y} {gf:Func} (hg:P.funcs[g]? =J gf) (ao:(!(gf.name== "runtime.NumGoroutine") && gf.body.isSome)=Af) (B:Y) (l:Ae α) (hl:Ajb l<=1000000000) (v:Ah) (w:Ad) (C:Bo w B e k v (Ajb l) (l.flatMap cells))
 (hc:∀W x y,Mo w W v.ownBlock.toList->Bn P g [.agg (cells x).toArray,.agg (cells y).toArray] W fun r W'=>r=.int .i64 (T x y)/\Gr W W'):
 Bn P f [v,.func (.func g) #[] #[]] w fun r w'=>r=.tuple #[]/\∃l':Ae α,l'.Perm l/\(∀i j (hi:i<Ajb l') (hj:j<Ajb l'),i<j->¬T l'[j] l'[i]<0)/\Bo w' B e k v (Ajb l) (l'.flatMap cells)/\Mo w w' v.ownBlock.toList:=by
 subst a1 he;by_cases ai:l=[]
 .subst ai
  obtain⟨p,o,hv⟩:∃p o,v=.slice p 0 o:=by
   rcases C.2 with⟨rfl,_⟩|⟨q,o,_,rfl,_⟩
   .simp
   .simp
  have h:=AnyF.slices_SortFunc_none X p o (.func (.func g) #[] #[]) w
  have hR:Bn P (ρ.f 6) [v,.func (.func g) #[] #[]] w fun r w'=>r=.tuple #[]/\w'=w:=by
   subst hv;exact Hc hf hn X
  refine hR.mono ?_;rintro r w'⟨rfl,rfl⟩;exact⟨Z,_,Bi,Bi,C,Mo.refl _ _⟩
 .have a7:0<Ajb l:=Bg;have D:=KE hk l;obtain⟨b,o,rest,rfl,hB,V,hr,ab,a2⟩:=C.blk (by simp_all);have af:=V.lt
  have hH:Go.Sort.HoldsK cells k w b 0 l.toArray:=by
   intro j hj;rw[Go.Sort.size_flatK]at hj;have N:=by simpa using hj
   have hF:=gM hk K l;have hs:j<(Go.Sort.flatK cells k l.toArray).size:=by rwa[Go.Sort.size_flatK]
   have Q:(Go.Sort.flatK cells k l.toArray)[j]! =(l.flatMap _)[j]'(D▸N):=by
    rw[getElem!_pos];have:(Go.Sort.flatK _ k _).toList[j]'X=(l.flatMap _)[j]'(D▸N):=by simp[hF]
    simpa using this
   rw[Q,Fb];refine⟨V.cell_of ?_,V.free j Bg⟩;rw[FN X,BR];rfl
  have a3:CmpLays P g #[] cells k T b 0 l.toArray.size w:=fun m E dk a8 x y=>by
   have h2:=(hc _ x y (by simpa[Value.ownBlock]using nf (cells:=cells) (k:=k) w b m dk E)).2;refine h2.mono fun e w' q=>?_;obtain⟨v,rfl,rfl,al⟩:=q;obtain⟨q,a6,e2⟩:=al.grow;grind
  have h:=AnyQ.slices_SortFunc L k (fun w=>by rw[MG hu,a0];rfl) (fun w=>Fz hi) _ hk h1 _ hO g _ b 0 o _ w (fun a5 w=>Rh hg ao _) a3 hH af Bg;have I:l.toArray.size=Ajb l:=Bi
  have hR:Bn P (ρ.f 6) [.slice (J ⟨b,0,Aa⟩) (Ajb l) o,.func (.func g) #[] #[]] w fun r w'=>r=.tuple #[]/\∃A n E,Go.Sort.PermIn 0 (Ajb l) l.toArray A/\Go.Sort.SortedIn (ltOf T) 0 (Ajb l) A/\w'=sortWorldK cells k w b 0 n A E:=
   Hc hf hn (h.mono fun _ _ q=>q)
  refine hR.mono ?_;rintro r w'⟨rfl,A,n,E,hp,hs,rfl⟩;have hd:A.size=Ajb l:=by rw[hp.1,I]
  have G:A.toList.Perm l:=by
   have S:=hp.2.2;have e1:A.extract 0 (Ajb l)=A:=by rw[<-hd];exact Array.extract_size
   have e2:l.toArray.extract 0 (Ajb l)=l.toArray:=by rw[<-I];exact Array.extract_size
   rw[e1,e2]at S;simpa using S
  have a4:=Acp (n:=n) (os:=E) hk K V hd;refine⟨Z,A.toList,G,fun i j hi hj aj=>?_,⟨Bg,.inr ⟨b,o,rest,Z,hB,a4,?_,ab,a2⟩⟩,by simpa[Value.ownBlock]using nf (cells:=cells) (k:=k) w b n A E⟩
  .have S:=hs i j (BE _) aj Bg;rw[getElem!_pos A j (by simpa using hj),getElem!_pos A i X]at S;simpa[ltOf]using S
  .grind
end
end
section
attribute [local irreducible] OW KW QW EX GW NV
open Bz
abbrev Md:=H×H
def FB(t:Md):Bm:=[U t.1,U t.2]
def IS(a b:Md):H:=if a.1≠b.1 then a.1-b.1 else a.2-b.2
def oq(a b:Md):([decide (a.1=b.1),decide (a.2=b.2)].all id)=decide (a=b):=by
 grind
def Lk(t:Md):Prop:=-4000000000000<=t.1/\t.1<=4000000000000/\0<=t.2/\t.2<=4000000000000
def dI(x y:Md)(hx:Lk x)(q:Lk y)(W:Ad):Bn prog 288 [.agg (FB x).toArray,.agg (FB y).toArray] W fun r W'=>r=U (IS x y)/\Gr W W':=by
 obtain⟨A,w,v,t⟩:=hx;obtain⟨p,o,n,m⟩:=q;refine Bw func288 Z ntmps288 Be Z ?_;refine(O 2∘Zv (by exact EX.box (l:=FB x) Z Z)) ?_;have f:=Bk.new W 378 (FB x);have k:=Gr.alloc W (.cells (FB x).toArray 378);generalize C:W.alloc (.cells (FB x).toArray 378)=w1 at f k;refine(Zv (by exact EX.box (l:=FB y) Z Z)∘O 5) ?_;have d:=Bk.new w1 378 (FB y);have h:=Gr.alloc w1 (.cells (FB y).toArray 378);have a:=f.ext h.1;generalize B:w1.alloc (.cells (FB y).toArray 378)=w2 at d h a;have j:=k.trans h;refine(Zv (BW a)∘Zv (BW d)∘Zv (by exact Tx underlying378 Be Be Z Z (.cons Bc underlying3 Z Z Z (Lw underlying3) (.cons Bc underlying3 Z Z Z (Lw underlying3) .nil)) Z)∘O 1∘Cs 7 (.bool (decide (x=y))) (e:=by exact Av Value.bool (oq x y)))<|Zi (fun i=>?_) fun i=>?_
 .subst i;have e:IS x x=0:=by unfold IS;rw[Ag Bi];omega
  refine(O 4∘Br) ?_;grind
 .refine(O 10)<|Zi (fun g=>?_) fun g=>?_
  .have e:IS x y=x.1-y.1:=Ai g;refine(O 9∘Br) ?_;rw[e];exact⟨Z,j⟩
  .have e:IS x y=x.2-y.2:=Ag g;refine(O 10∘Br) ?_;rw[e];exact⟨Z,j⟩
def Ic(t:Tr):Md:=((t.1:H),(t.2:H))
def DR(t:Tr):Bm:=FB (Ic t)
def Ex(l:Ae Tr):Bm:=l.flatMap DR
def Aes{a b:Tr}(h:Ic a=Ic b):a=b:=by
 unfold Ic at h;grind
def PF(l:Ae Tr):Ajb (Ex l)=Ajb l*2:=KE (k:=2) (fun _=>rfl) l
def sf(a b:Tr):IS (Ic a) (Ic b)<0↔GA a b=Af:=by
 unfold IS GA Ic;grind
def bB{l:Ae Tr}{i:Y}(h:i<Ajb l){j:Y}{u:Ah}(hu:(DR l[i])[j]? =J u):(Ex l)[i*2+j]? =J u:=SD (cells:=DR) (c:=2) (fun _=>rfl) l i j h u hu
def Sf(l:Ae Tr):Prop:=∀t∈l,t.1<=4000000000000/\t.2<=1000000
def om{l:Ae Tr}(h:Sf l){t:Tr}(ht:t∈l):Lk (Ic t):=by
 have:=h t ht;unfold Lk Ic;omega
def xI{l:Ae Tr}{i:Y}(h0:0<i)(hi:i<Ajb l):ES (l.take (i+1))=if GA l[i] (ES (l.take i))then l[i]else ES (l.take i):=by
 rw[<-CS hi];cases hq:l.take i with
 |nil=>
  have:=Av DZ hq;grind
 |cons a r=>
  simp only[Gi,ES,Qa,Kh,List.foldl_nil];rfl
def xJ(l:Ae Tr)(h0:0<Ajb l)(hn:Ajb l<=1000000)(I:Sf l)(g c:Y)(rest:Bm)(w:Ad)(h:Bk w g 378 (Ex l++rest)):
 Bn prog 304 [.slice (J ⟨g,0,Aa⟩) (Ajb l) c,.func (.func 288) #[] #[]] w fun v w'=>v=.agg (DR (ES l)).toArray/\Bf w w':=by
 have A:∀W,Bf w W->∀i (hi:i<Ajb l),∀j u,(DR l[i])[j]? =J u->W.cell? ⟨g,0+i*2+j,Aa⟩=J u:=fun W hW i hi j u hu=>by
  refine(h.ext hW).cell_of ?_;have:=bB hi hu;grind
 refine Bw func304 Z ntmps304 Be Z ?_;refine(O 2∘Zn) ?_;rintro T w0 aj G o;refine(O 8)<|Zi (fun hz=>?_) fun hz=>?_
 .omega
 .refine(O 5∘Zv (Dr (DR l[0]) (A w0 o 0 h0))∘Zn) ?_;rintro B w1 ai af C;refine(Zs af (hlt:=Bv _)) ?_;rintro w2 N n;refine(O 7) ?_;replace N:Bk w2 B 378 (DR l[0]):=N;have x1:=o.trans C;have al:=o.size;have x2:Bf w w2:=Bu x1 n x1.size Bx;have D:T≠B:=by have:=G.lt;omega
  have ab:=(G.ext C).mo n (by simpa using D);refine Lo (fun((i,wr):Y×Ad)=>(1<=i/\i<=Ajb l/\Bk wr B 378 (DR (ES (l.take i)))/\Bk wr T 378 [U 0,U 0]/\Bf w wr,[(0,.slice (J ⟨g,0,Aa⟩) (Ajb l) c),(1,.func (.func 288) #[] #[]),(4,.pointer (J ⟨T,0,Aa⟩)),(5,.pointer (J ⟨B,0,Aa⟩)),(6,U i)],wr,Ajb l-i)) (1,w2) ?_ ?_
  .refine⟨Bv _,h0,?_,ab,x2⟩
   have e:ES (l.take 1)=l[0]:=by
    cases l with
    |nil=>grind
    |cons a r=>rfl
   grind
  .rintro⟨i,wr⟩⟨h1,h2,Q,hr,V⟩;refine(O 8)<|Zi (fun y=>?_) fun y=>?_
   .have f:=xI h1 y
    have P:ES (l.take i)∈l:=by
     refine Kl (Zu (l.take i) (fun e=>?_)).1;have:=Av DZ e;rw[BZ,EZ]at this;omega
    have o1:=om I (BM y);have o2:=om I P;have d:=sf l[i] (ES (l.take i));generalize ES (l.take i)=m at Q f o2 d;refine(O 4) ?_;refine Kg 6 Be Be<|HW.val Z Z (EX.move Z)<|HW.val Z Z (EX.move Z)<|HW.val Z Z (EX.move Z)<|HW.val Z Z (MS underlying376 Ji Z Z X)<|HW.val Z Z (KY (l:=DR l[i]) underlying378 Z Ji Z Z (A wr.drew (V.trans (Bf.drew wr)) i y))<|HW.val Z Z (Jp underlying378 Z Ji Z (Q.drew) (Z))<|HW.tail<|(DW (dI (Ic l[i]) (Ic m) o1 o2 wr.drew)) ?_;rintro _ w3⟨rfl,x⟩;refine(O 2) ?_;have S:=(V.trans (Bf.drew wr)).trans x.1;have L:=Q.drew.ext x.1;have E:=hr.drew.ext x.1;refine Zi (fun hl=>?_) fun hl=>?_
    .rw[Ai (d.1 hl)]at f;refine(O 4∘Zv (Dr (DR l[i]) (A w3 S i y))∘Zs L (hlt:=Bv _)) ?_;rintro w4 t k;refine(O 7) ?_;replace t:Bk w4 B 378 (DR l[i]):=t;refine Lb ((i+1),w4) ?_;dsimp only;rw[f];exact⟨X,y,t,E.mo k (by simpa using D),Bu S k S.size Bx⟩
    .rw[Ag (fun q=>hl (d.2 q))]at f;refine(O 7)<|Lb ((i+1),w3) ?_;dsimp only;rw[f];exact⟨X,y,L,E,S⟩
   .obtain rfl:i=Ajb l:=X;rw[DV]at Q;refine(O 3∘Zv (BW Q)∘Zs hr (hlt:=Bv _)) ?_;rintro w5 p K;refine(O 1) ?_;replace p:Bk w5 T 378 (DR (ES l)):=p;refine(Kw p) ?_;exact⟨Z,Bu V K V.size Bx⟩
def vx(l:Ae Tr)(t:Tr)(ht:t∈l)(E:Ajb l<=1000000)(g c:Y)(rest:Bm)(w:Ad)(h:Bk w g 378 (Ex l++rest)):
 Bn prog 305 [.slice (J ⟨g,0,Aa⟩) (Ajb l) c,.agg (DR t).toArray] w fun v w'=>v=U ((l.idxOf t:Y):H)/\Bf w w':=by
 have n:∀W,Bf w W->∀i (m:i<Ajb l),∀j u,(DR l[i])[j]? =J u->W.cell? ⟨g,0+i*2+j,Aa⟩=J u:=fun W C i m j u B=>by
  refine(h.ext C).cell_of ?_;have:=bB m B;grind
 refine Bw func305 Z ntmps305 Be Z ?_;refine(O 2) ?_;refine Dz Z Z Z ?_;rintro o x q A y;refine(O 10)<|Lo (fun((i,wr):Y×Ad)=>(i<=Ajb l/\t∉l.take i/\Bk wr o 378 (DR t)/\Bf w wr,[(0,.slice (J ⟨g,0,Aa⟩) (Ajb l) c),(3,.pointer (J ⟨o,0,Aa⟩)),(6,.slice (J ⟨g,0,Aa⟩) (Ajb l) c),(7,U ((Ajb l:Y):H)),(8,U i)],wr,Ajb l-i)) (0,x) ?_ ?_
 .grind
 .rintro⟨i,wr⟩⟨m,a,p,k⟩;refine(O 5)<|Zi (fun f=>?_) fun f=>?_
  .refine KW.skip (Eo (KW.block (Eo (KW.region ?_))));refine OW.val Z Z (EX.move Z) ?_;refine OW.val Z Z (CI Z) ?_;refine OW.nil ?_;refine Eo ?_;refine Wy Be Be ?_;refine QW.val Z Z (fun _=>Jp underlying378 Z Ji Z (p.drewN _) (Z)) ?_;refine QW.val Z Z (fun _=>EX.move Z) ?_;refine QW.val Z Z (fun _=>EX.move Z) ?_;refine QW.val Z Z (fun _=>MS underlying376 Ji Z Z X) ?_;refine QW.val Z Z (fun _=>KY (l:=DR l[i]) underlying378 Z Ji Z Z (n _ (k.trans (Bf.drewN wr _)) i f)) ?_;refine QW.val Z Z (fun _=>Tx underlying378 Be Be Z Z (.cons Bc underlying3 Z Z Z (Lw underlying3) (.cons Bc underlying3 Z Z Z (Lw underlying3) .nil)) Z) ?_;refine QW.nil (fun D=>?_);refine KW.as 16 (.bool (decide (Ic t=Ic l[i]))) Z (Av Value.bool (oq (Ic t) (Ic l[i]))) ?_;refine TF Z (fun r=>?_) (fun r=>?_)
   .have e:=Aes r
    have d:l.idxOf t=i:=by
     rw[show l=l.take i++l.drop i by simp,List.idxOf_append,Ag a,DE f,<-e,List.idxOf_cons_self,BZ];omega
    refine(O 5∘Br) ?_;rw[d];exact⟨Z,k.trans (Bf.drewN _ _)⟩
   .refine(O 6)<|Lb ((i+1),_) ?_;refine⟨f,?_,p.drewN _,k.trans (Bf.drewN _ _)⟩;rw[<-CS f,Dx,CF];grind
  .exfalso;grind
def Tq(a b:Ae Tr):Ex (a++b)=Ex a++Ex b:=IL ..
def Aet{l:Ae Tr}{k:Y}(t:Tr)(h:k<Ajb l)(rest:Bm):(Ex l++rest).take (k*2)++DR t++(Ex l++rest).drop (k*2+Ajb (DR t))=Ex (l.set k t)++rest:=by
 have a:l=l.take k++l[k]::l.drop (k+1):=by rw[List.getElem_cons_drop,HJ]
 have i:l.set k t=l.take k++t::l.drop (k+1):=by
  conv=>lhs;rw[a]
  rw[Nc _ _ Bg,BZ,Hb X,Fa,Ko]
 have e:Ajb (Ex (l.take k))=k*2:=by rw[PF,BZ,Hb X]
 have g:Ex l=Ex (l.take k)++(DR l[k]++Ex (l.drop (k+1))):=by
  conv=>lhs;rw[a,Tq]
  rfl
 have f:Ex (l.set k t)=Ex (l.take k)++(DR t++Ex (l.drop (k+1))):=by
  rw[i,Tq];rfl
 have d:Ajb (DR t)=Ajb (DR l[k]):=rfl;rw[g,f,d];generalize Ex (l.take k)=P at e;grind
def ue{l:Ae Tr}{k:Y}(h:k<Ajb l):Ex (l.set k (l.getLastD default))=Ex (Bz.fillL l k)++DR ((l.set k (l.getLastD default)).getLastD default):=by
 unfold Bz.fillL
 have a:l.set k (l.getLastD default)≠[]:=fun e=>by
  simp_all
 generalize l.set k (l.getLastD default)=m at a ⊢
 conv=>lhs;rw[<-List.dropLast_concat_getLast a]
 rw[Tq];congr 1;rw[List.getLastD_eq_getLast?,List.getLast?_eq_some_getLast a];rfl
def gJ(l:Ae Tr)(h0:0<Ajb l)(hn:Ajb l<=100000)(a6:Sf l)(A B:Y)(v:Ah)(w:Ad)(ht:Bk w A 376 [v])(T:Bo w B 378 2 v (Ajb l) (Ex l)):
 Bn prog 303 [.pointer (J ⟨A,0,Aa⟩)] w fun r w'=>r=.agg (DR (Dn l).1).toArray/\∃v',Bk w' A 376 [v']/\Bo w' B 378 2 v' (Ajb (Dn l).2) (Ex (Dn l).2)/\v'.ownBlock=v.ownBlock/\Mo w w' (A::v.ownBlock.toList):=by
 obtain⟨g,a,rest,rfl,bh,hg,V,b2,bc⟩:=T.blk (by rw[PF];omega);have bb:A≠g:=ht.ne hg Bi;have E:=Zu l (fun e=>by grind);have hk:=Qb E.1;have C:Dn l=(ES l,Bz.fillL l (l.idxOf (ES l))):=rfl;have y:=Bz.fillL_length l (l.idxOf (ES l));rw[PF]at V;refine Bw func303 Z ntmps303 Be Z ?_;refine(O 2∘Zn) ?_;rintro N w0 bn Q p;refine(O 3∘Zv (Bp (ht.ext p))∘Zc (xJ l h0 X a6 g a rest w0 (hg.ext p))) ?_;rintro _ w1⟨rfl,G⟩;refine(Zn) ?_;rintro mb w2 bm ba P;refine(Zs ba (hlt:=Bv _)) ?_;rintro w3 x D;refine(O 3) ?_;replace x:Bk w3 mb 378 (DR (ES l)):=x;have x1:=p.trans G;have x2:=x1.trans P;have bq:=x1.size;have x3:Bf w w3:=Bu x2 D x2.size Bg;have bx:N≠mb:=by have:=(Q.ext G).lt;omega
 have a5:=((Q.ext G).ext P).mo D Bg;have a0:=ht.ext x3;have af:=hg.ext x3;refine(O 1∘Zv (BW x)∘Zc (vx l (ES l) E.1 X g a rest w3 af)) ?_;rintro _ w4⟨rfl,h⟩;refine(O 3) ?_;have K:l[l.idxOf (ES l)]=ES l:=List.getElem_idxOf hk;generalize b1:l.idxOf (ES l)=k at hk C y K;have t:=a0.ext h;have ab:=af.ext h;have a9:=x.ext h;have a4:=a5.ext h;have x4:=x3.trans h;have n:Ajb l-1<Ajb l:=X
 have bf:l.getLastD default=l[Ajb l-1]:=by
  rw[List.getLastD_eq_getLast?,dq,BR n];rfl
 have bl:∀j u,(DR l[Ajb l-1])[j]? =J u->w4.drew.cell? ⟨g,0+(Ajb l-1)*2+j,Aa⟩=J u:=fun j u hu=>by
  refine ab.drew.cell_of ?_;have:=bB n hu;grind
 have o:Ajb (Ex l++rest)=a*2:=by rw[BA,PF];exact V
 refine Kg 9 Be Be<|HW.val Z Z (Ci underlying376 Z Z (t.drew.cell_of Z))<|HW.val Z Z (EX.move Z)<|HW.val Z Z (Ci underlying376 Z Z (t.drew.cell_of Z))<|HW.val Z Z (Ci underlying376 Z Z (t.drew.cell_of Z))<|HW.val Z Z (PS underlying376 Z)<|HW.val Z Z (by first|exact Kc (b:=1) (m:=9223372036854775807) Z Z Z X|exact RG (m:=9223372036854775807) Z Z Z Z X)<|HW.val Z Z (MS underlying376 Ji Z Z X)<|HW.val Z Z (KY (l:=DR l[Ajb l-1]) underlying378 Z Ji Z Z bl)<|HW.val Z Z (MS underlying376 Ji Z Z X)<|HW.tail<|(Zs ab.drew (hlt:=by rw[o];show 0+k*2+2<=a*2;omega)) ?_;rintro w5 W f;refine(O 3) ?_;rw[Fb,Aet _ hk,<-bf,ue hk,Cx]at W;have ao:=t.drew.mo f (by simpa using bb);have b0:mb≠g:=by have:=(hg.ext x1).lt;omega
 have a1:N≠g:=by have:=hg.lt;omega
 have a8:=a9.drew.mo f Bg;have a3:=a4.drew.mo f (by simpa using a1);refine(O 4∘Zv (by exact Wm underlying376 Ji Z Z ⟨X,X⟩)∘Zt ao) ?_;rintro w6 al d;refine(O 3) ?_;have bs:mb≠A:=by have:=(ht.ext x1).lt;omega
 have ai:N≠A:=by have:=ht.lt;omega
 have a7:=a8.mo d Bg;have a2:=a3.mo d (by simpa using ai);have bj:=W.mo d Bg;refine(Zv (BW a7)∘Zs a2 (hlt:=Bv _)) ?_;rintro w7 I i;refine(O 1) ?_;replace I:Bk w7 N 378 (DR (ES l)):=I;have bi:=bj.mo i Bg;have aj:=al.mo i Bg;refine(Kw I) ?_;rw[C];refine⟨Z,.slice (J ⟨g,0,Aa⟩) (Ajb l-1) a,aj,?_,Z,?_⟩
 .rw[y];refine⟨by rw[PF,y],.inr ⟨g,a,_,Z,bh,bi,?_,X,bc⟩⟩;have:Ajb (Ex l++rest)=a*2:=o;rw[BA,PF]at this;rw[BA,PF,y];show(Ajb l-1)*2+(2+Ajb rest)=a*2;omega
 .have m1:Mo w w4.drew []:=Mo.Agk (x4.trans (Bf.drew w4)) [];have hz:=p.size;refine Mo.fresh (S:=[A,g,N]) (((((m1.mono Bi).trans (f.mono Bi)).trans (d.mono Bi)).trans (i.mono Bi))) (fun q hq L=>?_);simp only[List.mem_cons,List.not_mem_nil,or_false]at hq;rcases hq with rfl|rfl|rfl
  .simp
  .simp[Value.ownBlock]
  .omega
def Agj{l:Bj}{i:Y}(h:i<Ajb l):l.zipIdx.take (i+1)=l.zipIdx.take i++[(l[i],i)]:=by
 rw[<-CS (by simp_all),List.getElem_zipIdx,Fb]
def uf{α:Type}{f:Y->α}{z:α}{n i:Y}(h:i<n):(fill f z n i).set i z=fill f z n i:=by
 unfold fill;simp
def Aev{n next M W:Y}{a:Ae Tr}{d:Bj}{ht:Y->Y}(h:Gw n a d next ht M W)(i:n<=258)(hW:W<=4000000000000):Sf a:=fun t e=>by
 have g:=ny (List.mem_map_of_mem (f:=(·.1)) e);rw[h.tot]at g;have k:=h.lt t e;have j:=h.sum;omega
def Bk.Agz{w w':Ad}{b tb:Y}{T:Ay}{l:Bm}{v:Ah}(h:Bk w b T l)(hm:Mo w w' (tb::v.ownBlock.toList))(h1:b≠tb)(h2:∀k,v.ownBlock=J k->b≠k):Bk w' b T l:=
 h.mo hm (fun q=>by
  grind)
def Bf.Agz{w0 w w':Ad}{tb s n:Y}{T:Ay}{v:Ah}{xs:Bm}(hx:Bf w0 w)(hm:Mo w w' (tb::v.ownBlock.toList))(h1:w0.heap.size<=tb)(h2:Bo w w0.heap.size T s v n xs):Bf w0 w':=
 Bu hx hm hx.size (fun k q=>by
  rcases List.mem_cons.1 q with q|q
  .omega
  .exact(h2.lt k (FC.1 q)).1)
def uT{f:Y}{a:Ae Tr}{d:Bj}{next:Y}(h:Ajb a<=1):grow f a d next=d:=by
 cases f with
 |zero=>rfl
 |succ f=>rw[grow,Ai h]
def lF(l:Ae Tr):Ajb (Dn l).2=Ajb l-1:=Bz.fillL_length _ _
def uU(l:Bj)(h2:2<=Ajb l)(h3:Ajb l<=258)(bn:∀x∈l,1<=x/\x<=1073741824)(A:Aw AC)(c C:Y)(w:Ad)(hs:Sl w C A (BD .i64 l)):
 Bn prog 285 [.slice A (Ajb l) c] w fun v w'=>CX w' w.heap.size v (Bz.grown l)/\Bf w w':=by
 obtain⟨b,f,rfl,_,dn⟩:=hs.intAt X
 have hW:CV l<=4000000000000:=by
  have:=VK (l:=l) (m:=1073741824) (fun x r=>(bn x r).2);have:=Ud 1073741824 h3;omega
 refine Bw func285 Z ntmps285 Be Z ?_;refine(O 6∘Me) ?_;rintro tb w1 a8 c6 c2;refine(O 9)<|Lo (fun((i,v,wr):Y×Ah×Ad)=>(i<=Ajb l/\Bk wr tb 376 [v]/\Bo wr w.heap.size 378 2 v i (Ex (l.zipIdx.take i))/\Bf w wr,[(0,.slice (J ⟨b,f,Aa⟩) (Ajb l) c),(3,.pointer (J ⟨tb,0,Aa⟩)),(14,.slice (J ⟨b,f,Aa⟩) (Ajb l) c),(15,.int .i64 ((Ajb l:Y):H)),(16,.int .i64 i)],wr,Ajb l-i)) (0,(.slice Aa 0 0),w1) ?_ ?_
 .exact⟨BE _,c6,Bo.nil _ _ _ _,c2⟩
 .rintro⟨i,v,wr⟩⟨hi,S,h,r⟩;refine(O 5)<|Zi (fun hc=>?_) fun hc=>?_
  .have b4:=Agj hc;have c1:=bn _ (BM hc);have ba:=dn wr r i hc;generalize l[i]=x at b4 c1 ba;refine(O 7∘Zv (Ca ba)∘O 8∘Kx r h) ?_;rintro _ v2 w2 b3 p db;have ca:=S.push db (h.ne S Bc);refine(Zt ca) ?_;rintro w3 V D;refine(O 6)<|Lb ((i+1),v2,w3) ?_
   have I:Bo w2 w.heap.size 378 2 v2 (i+1) (Ex (l.zipIdx.take (i+1))):=by
    rw[b4,Tq];exact b3
   exact⟨hc,V,I.mo D (fun q hq=>by simp;exact fun z=>I.ne ca Bc q hq z.symm),Bu p D p.size Bx⟩
  .obtain rfl:i=Ajb l:=X;have cz:l.zipIdx.take (Ajb l)=l.zipIdx:=Dq Bi;rw[cz]at h;have cx:Ajb l.zipIdx=Ajb l:=TO;refine(O 6∘Gk) ?_;rintro T w2 d7 ch p;refine(O 10∘Zv (by exact Gf Z Z)∘O 4) ?_;rw[show BJ (2*Ajb l) (.int .i64 0)=BD .i64 (BJ (2*Ajb l) 0)from(KF _ _ _).symm]at ch;have ef:=r.size;have bx:(BF (Ajb l)).map (Fv (grow (Ajb l) l.zipIdx (BJ (2*Ajb l) 0) (Ajb l)) (2*Ajb l))=Bz.grown l:=rfl;have co:=nv (fun x r=>(bn x r).1) (show 1<=Ajb l by omega);obtain⟨g1,g2,g3,g4⟩:=jj (Ajb l) (Ajb l) _ _ _ _ _ _ co (by rw[TO];omega) (by rw[TO];omega);generalize dv:grow (Ajb l) l.zipIdx (BJ (2*Ajb l) 0) (Ajb l)=k8 at bx g1 g2 g3;refine Lo (fun((g,k,next,v,wr):(Ae Tr)×(Bj)×Y×Ah×Ad)=>((∃f S M,Gw (Ajb l) g k next S M (CV l)/\Ajb g<=f+1/\1<=Ajb g/\grow f g k next=k8)/\Bk wr tb 376 [v]/\Bo wr w.heap.size 378 2 v (Ajb g) (Ex g)/\Bk wr T 3 (BD .i64 k)/\Bf w wr,[(0,.slice (J ⟨b,f,Aa⟩) (Ajb l) c),(3,.pointer (J ⟨tb,0,Aa⟩)),(6,.slice (J ⟨T,0,Aa⟩) (2*Ajb l) (2*Ajb l)),(7,.int .i64 next),(8,.func (.func 303) #[] #[.pointer (J ⟨tb,0,Aa⟩)])],wr,Ajb g)) (l.zipIdx,(BJ (2*Ajb l) 0),Ajb l,v,w2) ?_ ?_
   .exact⟨⟨_,_,_,co,X,X,dv⟩,S.ext p,by rw[cx];exact h.ext p,ch,r.trans p⟩
   .rintro⟨g,k,next,v,wr⟩⟨⟨fu,ee,M,hG,eo,en,E⟩,S,h,ho,r⟩;have W:=Aev hG h3 hW;have d0:=hG.sum;have d2:=hG.low;have d1:=hG.len;obtain⟨A0,c0,b8,_,_⟩:=h.slice;have d3:Ajb g<=1000:=X;have c4:Bk wr tb 376 [.slice A0 (Ajb g) c0]:=by rw[<-b8];exact S
    refine(O 7)<|Zi (fun dg=>?_) fun dg=>?_
    .obtain⟨f',rfl⟩:∃f',fu=f'+1:=⟨fu-1,X⟩;have cc:=hG.step X (a:=(Dn g).1) (b:=(Dn (Dn g).2).1) (l1:=(Dn g).2) (l2:=(Dn (Dn g).2).2) Z Z;rw[grow,Ag X]at E;have ek:=lF g;have da:=lF (Dn g).2;have ce:=cc.1
     have cf:Sf (Dn g).2:=fun t S=>by
      have c9:g≠[]:=fun e=>by grind
      exact W t ((ae c9).1.symm.subset (FO _ S))
     have a5:=W (Dn g).1 (ce.symm.subset Bi);have a0:=W (Dn (Dn g).2).1 (ce.symm.subset Bi);have c3:v.ownBlock=(Value.slice A0 (Ajb g) c0).ownBlock:=by rw[b8]
     refine(O 5∘DW (gJ g X X W tb w.heap.size _ wr c4 Bg)) ?_;rintro _ w3⟨rfl,v3,V,G,dk,D⟩;refine(O 1) ?_;rw[<-c3]at dk D;have B:=ho.Agz D (ho.ne S Bc) (h.ne ho Bc);have x3:=r.Agz D a8 h;refine(DW (gJ (Dn g).2 X X cf tb w.heap.size v3 w3 V G)) ?_;rintro _ w4⟨rfl,v4,c5,ai,ep,cn⟩;have bl:=B.Agz cn (B.ne V Bc) (G.ne B Bc);have x4:=x3.Agz cn a8 G;obtain⟨_,s2,s3,s4,s5,s6⟩:=cc;generalize(Dn g).1=a at s2 s3 s4 s6 E a5;generalize(Dn (Dn g).2).1=bb at s2 s3 s4 s6 E a0;generalize(Dn (Dn g).2).2=l2 at s6 E da ai;refine(Zn) ?_;rintro ab w5 d5 cs b6;refine(Zn) ?_;rintro bk w6 d4 cp b5;have er:ab≠bk:=by have:=cs.lt;omega
     refine(Zs (cs.ext b5) (hlt:=Bv _)) ?_;rintro w7 bs cl;replace bs:Bk w7 ab 378 (DR a):=bs;refine(Zs (cp.mo cl Bg) (hlt:=Bv _)) ?_;rintro w8 o ck;refine(O 2) ?_;replace o:Bk w8 bk 378 (DR bb):=o;have cr:=bs.mo ck Bg;have y6:=b6.trans b5;have eb:=b6.size;have y7:Bf w4 w7:=Bu y6 cl y6.size Bx;have y8:Bf w4 w8:=Bu y7 ck y7.size Bx;have bj:=bl.ext y8;have b9:=c5.ext y8;have af:=ai.ext y8;have x8:=x4.trans y8;have L:T≠ab:=by have:=bl.lt;omega
     have a6:T≠bk:=by have:=bl.lt;omega
     refine(Yr 12 (fun w'=>Bk w' ab 378 (DR a)/\Bk w' bk 378 (DR bb)) (If cr.drew o.drew)) fun hS=>(Gv [0,1,2,3,4,5,6,7,8]∘Yt 9 bj.drew (hlt:=by rw[DO];omega)) ?_;rintro w9 cg bm;refine⟨⟨cr.drew.mo bm (by simpa using L.symm),o.drew.mo bm (by simpa using a6.symm)⟩,fun hS=>?_⟩;refine(Gv [10]) ?_;rw[Iv]at cg;refine(Yt 11 cg (hlt:=by rw[DO,HH];omega)) ?_;rintro b1 N Q;refine⟨⟨hS.1.mo Q (by simpa using L.symm),hS.2.mo Q (by simpa using a6.symm)⟩,fun hS=>?_⟩;refine(Yd∘O 2) ?_;rw[Iv]at N;have bf:Mo w8 b1 [T]:=((Mo.Agk (Bf.drew w8) [T]).trans bm).trans Q;have ao:=b9.mo bf (by simpa using(bj.ne b9 Bc).symm);have n:=af.mo bf (fun q hq=>by simp;exact fun z=>af.ne bj Bc q hq z.symm);have ea:=r.size;have cu:Bf w b1:=Bu x8 bf x8.size Bx;have d9:=hS.1;have d8:=hS.2;have ka:=a5.1;have kb:=a0.1;refine(O 8∘Kx cu n) ?_;rintro _ b2 cw bc aj a9;have K:=ao.push a9 (n.ne ao Bc);have a7:=N.push a9 (n.ne N Bc);refine(Zt K) ?_;rintro cv cb P;refine(O 7) ?_
     have al:Bo cw w.heap.size 378 2 b2 (Ajb (l2++[(a.1+bb.1,next)])) (Ex (l2++[(a.1+bb.1,next)])):=by
      rw[Tq,BA,Dd];exact bc
     refine Lb ((l2++[(a.1+bb.1,next)]),((k.set a.2 next).set bb.2 next),(next+1),b2,cv) ?_ (hm:=by dsimp only;rw[BA,Dd];omega);refine⟨⟨f',_,_,s6,by rw[BA,Dd];omega,by rw[BA,Dd];omega,E⟩,cb,al.mo P (fun q hq=>by simp;exact fun z=>al.ne K Bc q hq z.symm),a7.mo P (by simpa using a7.ne K Bc),Bu aj P aj.size Bx⟩
    .have ds:k8=k:=by rw[<-E];exact uT X
     subst ds;refine(O 5∘Gk) ?_;rintro rb w3 d6 eg b7;refine(O 10) ?_;have B:=ho.ext b7;have x3:=r.trans b7;have bi:T≠rb:=by have:=ho.lt;omega
     have ed:=r.size;refine Lo (fun((i,wi):Y×Ad)=>(i<=Ajb l/\Bk wi rb 3 (fill (fun(j:Y)=>Value.int .i64 ((Fv k8 (2*Ajb l) j:Y):H)) (.int .i64 0) (Ajb l) i)/\Mo w3 wi [rb],[(6,.slice (J ⟨T,0,Aa⟩) (2*Ajb l) (2*Ajb l)),(11,.slice (J ⟨rb,0,Aa⟩) (Ajb l) (Ajb l)),(68,.int .i64 ((Ajb l:Y):H)),(69,.int .i64 i)],wi,Ajb l-i)) (0,w3) ?_ ?_
     .exact⟨BE _,Ce,Mo.refl _ _⟩
     .rintro⟨i,wi⟩⟨hi,hr,hm⟩;have eh:=B.mo hm (by simpa using bi);refine(O 5)<|Zi (fun bq=>?_) fun bq=>?_
      .refine(O 14)<|Lo (fun((a,d,f,wa):Y×Y×Y×Ad)=>(a<2*Ajb l/\d<=a/\d+Fv k8 f a=Fv k8 (2*Ajb l) i/\2*Ajb l<=f+a/\Bk wa rb 3 ((fill (fun(j:Y)=>Value.int .i64 ((Fv k8 (2*Ajb l) j:Y):H)) (.int .i64 0) (Ajb l) i).set i (.int .i64 (d:H)))/\Mo w3 wa [rb],[(6,.slice (J ⟨T,0,Aa⟩) (2*Ajb l) (2*Ajb l)),(11,.slice (J ⟨rb,0,Aa⟩) (Ajb l) (Ajb l)),(12,.int .i64 i),(13,.int .i64 a),(68,.int .i64 ((Ajb l:Y):H)),(69,.int .i64 i)],wa,2*Ajb l-a)) (i,0,(2*Ajb l),wi) ?_ ?_
       .exact⟨X,BE _,Fb _,X,by rw[show Value.int .i64 ((0:Y):H)=.int .i64 0 from Z,uf bq];omega,hm⟩
       .rintro⟨a,d,f,wa⟩⟨a1,a2,a3,a4,bh,cj⟩;have L:=B.mo cj (by simpa using bi);have b0:(BD .i64 k8)[a]? =J (.int .i64 ((k8.getD a 0:Y):H)):=Fx X;have ct:=g3 a;have df:=QA k8;generalize c7:k8.getD a 0=y at b0 ct;refine(O 6∘Zv (Bp L (hi:=b0))∘O 2)<|Zi (fun hy=>?_) fun hy=>?_
        .obtain⟨q1,q2⟩:=ct hy;obtain⟨f',rfl⟩:∃f',f=f'+1:=⟨f-1,X⟩;rw[df,c7,Ag hy]at a3;have em:Ajb (fill (fun(j:Y)=>Value.int .i64 ((Fv k8 (2*Ajb l) j:Y):H)) (.int .i64 0) (Ajb l) i)=Ajb l:=QJ hi
         have cq:((fill (fun(j:Y)=>Value.int .i64 ((Fv k8 (2*Ajb l) j:Y):H)) (.int .i64 0) (Ajb l) i).set i (.int .i64 (d:H)))[i]? =J (.int .i64 (d:H)):=by
          rw[List.getElem?_set_self X]
         refine(O 7∘Zv (Bp bh (hi:=cq))∘O 2∘Zt bh (hlt:=by grind)) ?_;rintro w5 cd cm;refine(O 6) ?_;rw[List.set_set]at cd;have c8:=L.mo cm (by simpa using bi);refine(Zv (Bp c8 (hi:=b0))∘O 2)<|Lb (y,(d+1),f',w5) ?_;exact⟨X,X,X,X,cd,cj.trans cm⟩
        .have ec:y=0:=Dk.1 hy
         have IU:Fv k8 f a=0:=by
          cases f with
          |zero=>rfl
          |succ f=>grind
         rw[IU,Jv]at a3;subst a3;rw[QK (f:=fun(j:Y)=>Value.int .i64 ((Fv k8 (2*Ajb l) j:Y):H)) bq]at bh;refine(O 6)<|Lb ((i+1),wa) ?_;grind
      .obtain rfl:i=Ajb l:=X;rw[QI]at hr;have xi:Bf w wi:=Bu x3 hm x3.size Bx;refine(O 6∘Br) ?_;refine⟨?_,xi⟩
       have e:BD .i64 (Bz.grown l)=(BF (Ajb l)).map fun(j:Y)=>Value.int .i64 ((Fv k8 (2*Ajb l) j:Y):H):=by
        rw[<-bx];unfold BD;rw[EO];rfl
       have el:Ajb (Bz.grown l)=Ajb l:=by rw[<-bx];simp
       unfold CX;rw[e,el];exact Bo.Agl hr X Bi CA
def Iz(F:Y->Y)(l:Bj)(i:Y):Bj:=(l.take i).map F++l.drop i
section
variable{F:Y->Y}{l:Bj}{i:Y}
def QN:Ajb (Iz F l i)=Ajb l:=by
 unfold Iz;grind
def xo:Iz F l 0=l:=by rfl
def jZ:Iz F l (Ajb l)=l.map F:=by simp[Iz]
def jY(h:i<Ajb l):(Iz F l i).getD i 0=l[i]:=by
 unfold Iz;grind
def ke(h:i<Ajb l):(Iz F l i).set i (F l[i])=Iz F l (i+1):=by
 unfold Iz;rw[Nc _ _ Bg,DF,BZ,Hb X,Fa,DE h,Ko,<-CS h,DT,Cx];rfl
end
def jx{l:Bj}{rest:Bm}{i:Y}(h:i<Ajb l):(BD .i64 l++rest)[i]? =J (U ((l.getD i 0:Y):H)):=by
 rw[FN (by rw[DO];omega),Fx h]
def jz{l:Bj}{rest:Bm}{i x:Y}(h:i<Ajb l):(BD .i64 l++rest).set i (U (x:H))=BD .i64 (l.set i x)++rest:=by
 rw[TT _ _ (by rw[DO];omega),Iv]
def kD(f:Y)(w:Bj):LC (f+1) w=if(Bz.grown w).all (fun x=>decide (x<=17))then Bz.grown w else LC f (w.map fun x=>x/2+1):=by rfl
def xn(l:Bj)(h2:2<=Ajb l)(h3:Ajb l<=258)(P:∀x∈l,x<=1073741824)(A:Aw AC)(c C:Y)(w:Ad)(hs:Sl w C A (BD .i64 l)):
 Bn prog 270 [.slice A (Ajb l) c,U 17] w fun v w'=>(∃u,v=.tuple #[u,U ((0:Y):H)]/\CX w' w.heap.size u (KK l))/\Bf w w':=by
 refine Bw func270 Z ntmps270 (by rfl) Z ?_;refine(O 7)<|Lc (fun(d1:Ar)=>(d1=Aj,[(0,.slice A (Ajb l) c),(1,U ((17:Y):H)),(22,.bool d1)],w)) ?_ ?_
 .refine(O 2∘Zc (jP l ⟨h2,h3⟩ P A c C w hs)) ?_;rintro _ _⟨rfl,rfl⟩;refine(O 2) ?_;refine OW.as 15 (.bool Aj) Z (Z)<|(O 4) ?_;refine OW.as 19 (.bool Aj) Z (Z)<|(O 4∘Lm (decide (20<17))) ?_;rfl
 .rintro d1 rfl;refine(O 5∘Zc (rS l X X A c C w hs)) ?_;rintro v1 w1⟨L,E⟩;obtain⟨g,e,rest,rfl,T,hg,Q,a2,a3⟩:=Bo.blk L (by rw[DO];omega);refine(O 10)<|Lo (fun((i,wr):Y×Ad)=>(i<=Ajb l/\Bk wr g 3 (BD .i64 (Iz (fun x=>max x 1) l i)++rest)/\Mo w1 wr [g],[(1,U ((17:Y):H)),(6,.slice (J ⟨g,0,Aa⟩) (Ajb l) e),(25,.slice (J ⟨g,0,Aa⟩) (Ajb l) e),(26,U ((Ajb l:Y):H)),(27,U i)],wr,Ajb l-i)) (0,w1) ?_ ?_
  .exact⟨BE _,Ce,Mo.refl _ _⟩
  .rintro⟨i,wr⟩⟨hi,k,N⟩;refine(O 5)<|Zi (fun t=>?_) fun t=>?_
   .have p:=P _ (BM t);have h:=ke (F:=fun x=>max x 1) t;have a:=jx (rest:=rest) (show i<Ajb (Iz (fun x=>max x 1) l i) by rw[QN];exact t);rw[jY t]at a;generalize l[i]=x at p h a;refine(O 7∘Zv (Bp k (hi:=a))∘O 9∘Zt k (hlt:=by rw[BA,DO,QN];omega)) ?_;rintro w3 K aj;refine(O 6) ?_;rw[jz (by rw[QN];exact t),h]at K;refine Lb ((i+1),w3) ?_;exact⟨t,K,N.trans aj⟩
   .obtain rfl:i=Ajb l:=X;rw[jZ]at k;have ab:Ajb (l.map fun x=>max x 1)=Ajb l:=DF _;have xr:Bf w wr:=Bu E N E.size (by simp;exact T);refine(O 2)<|Lo (fun((own,f,n):(Bj)×Y×Ad)=>(Ajb own=Ajb l/\f<=31/\(∀x∈own,1<=x/\x<=2 ^ f+1/\x<=1073741824)/\LC f own=KK l/\Bk n g 3 (BD .i64 own++rest)/\Bf w n,[(1,U ((17:Y):H)),(6,.slice (J ⟨g,0,Aa⟩) (Ajb l) e)],n,f)) ((l.map fun x=>max x 1),31,wr) ?_ ?_
    .refine⟨ab,Bv _,fun x j=>?_,Z,k,xr⟩;grind
    .rintro⟨own,f,n⟩⟨k1,k2,y,k4,k5,k6⟩
     have af:Sl n n.heap.size (J ⟨g,0,Aa⟩) (BD .i64 own):=by
      have:=k5.Ahd 0 (Ajb own);rwa[Ot,Hr (DO _ _)]at this
     have S:=uU own X X (fun x j=>⟨(y x j).1,(y x j).2.2⟩) (J ⟨g,0,Aa⟩) e n.heap.size n af;rw[k1]at S;have Q:=YM (fun x j=>(y x j).1) (show 2<=Ajb own by omega);have a0:=Q.1.len;refine(O 4∘Zc S) ?_;rintro u w4⟨o,D⟩;refine(O 6) ?_;obtain⟨A4,c4,rfl,_,G⟩:=o.sl;have W:=k6.trans D;refine(Zc (kg (Bz.grown own) X X A4 c4 _ w4 G)) ?_;rintro _ _⟨⟨m,al,a1,rfl⟩,rfl⟩;refine(O 3)<|Zi (fun r=>?_) fun r=>?_
     .have V:LC f own=Bz.grown own:=by
       cases f with
       |zero=>rfl
       |succ f=>
        rw[kD,Ai];grind
      refine(O 6∘BG) ?_;exact⟨⟨_,Z,by rw[<-k4,V];exact Bo.more o k6.size⟩,W⟩
     .obtain⟨f',rfl⟩:∃f',f=f'+1:=by
       cases f with
       |zero=>
        exfalso;have:=(Zw 0 own (fun x j=>⟨(y x j).1,(y x j).2.1⟩) X X).2 m al;omega
       |succ f=>simp
      rw[kD,Ag (fun q=>by grind)]at k4;refine(O 8)<|Lo (fun((i,B):Y×Ad)=>(i<=Ajb own/\Bk B g 3 (BD .i64 (Iz (fun x=>x/2+1) own i)++rest)/\Mo w4 B [g],[(1,U ((17:Y):H)),(6,.slice (J ⟨g,0,Aa⟩) (Ajb l) e),(45,.slice (J ⟨g,0,Aa⟩) (Ajb l) e),(46,U ((Ajb l:Y):H)),(47,U i)],B,Ajb own-i)) (0,w4) ?_ ?_
      .exact⟨BE _,by rw[xo];exact k5.ext D,Mo.refl _ _⟩
      .rintro⟨i,B⟩⟨hi,k,N⟩;refine(O 5)<|Zi (fun ao=>?_) fun ao=>?_
       .have d:i<Ajb own:=X;have p:=(y _ (BM d)).2.2;have h:=ke (F:=fun x=>x/2+1) d;have a:=jx (rest:=rest) (show i<Ajb (Iz (fun x=>x/2+1) own i) by rw[QN];exact d);rw[jY d]at a;generalize own[i]=x at p h a;refine(O 7∘Zv (Bp k (hi:=a))∘O 10∘Zt k (hlt:=by rw[BA,DO,QN];omega)) ?_;rintro w6 I ai;refine(O 6) ?_;rw[jz (by rw[QN];exact d),h]at I;refine Lb ((i+1),w6) ?_;exact⟨d,I,N.trans ai⟩
       .obtain rfl:i=Ajb own:=X;rw[jZ]at k;refine(O 2)<|Lb ((own.map (fun x=>x/2+1)),f',B) ?_;refine⟨Bg,X,fun x j=>?_,k4,k,Bu W N W.size (by simp;exact T)⟩;grind
end
section
open Go.Shelf
def Tryz.Aip:Go.Shelf.Ren:=⟨fun|6=>287|15=>109|14=>306|28=>150|29=>151|20=>314|21=>315|22=>316|23=>317|24=>318|25=>319|26=>320|27=>321|46=>325|47=>187|48=>188|49=>326|50=>327|57=>328|n=>n,fun|22=>376|24=>378|25=>380|3=>3|39=>180|0=>0|53=>58|55=>211|4=>4|46=>242|45=>241|50=>246|5=>5|9=>9|66=>285|70=>289|76=>332|77=>333|n=>n,fun|n=>n⟩
def Tryz.Aiu:Go.Proofs.SlLaysF0.n6 prog Tryz.Aip:={
 mixed:=Be
 f6:=⟨f287.name,Bc,func287.trans (Av J Be)⟩
 f14:=⟨f306.name,Bc,func306.trans (Av J Be)⟩
 f15:=func109.trans (Av J Be)
 f20:=⟨f314.name,Bc,func314.trans (Av J Be)⟩
 f21:=⟨f315.name,Bc,func315.trans (Av J Be)⟩
 f22:=⟨f316.name,Bc,func316.trans (Av J Be)⟩
 f23:=⟨f317.name,Bc,func317.trans (Av J Be)⟩
 f24:=⟨f318.name,Bc,func318.trans (Av J Be)⟩
 f25:=⟨f319.name,Bc,func319.trans (Av J Be)⟩
 f26:=⟨f320.name,Bc,func320.trans (Av J Be)⟩
 f27:=⟨f321.name,Bc,func321.trans (Av J Be)⟩
 f28:=func150.trans (Av J Be)
 f29:=func151.trans (Av J Be)
 f46:=⟨f325.name,Bc,func325.trans (Av J Be)⟩
 f47:=func187.trans (Av J Be)
 f48:=func188.trans (Av J Be)
 f49:=⟨f326.name,Bc,func326.trans (Av J Be)⟩
 f50:=⟨f327.name,Bc,func327.trans (Av J Be)⟩
 f57:=⟨f328.name,Bc,func328.trans (Av J Be)⟩
 t0:=underlying0
 a0:=Tryz.isAgg0
 z0:=Tryz.sizeOf0
 v0:=Tryz.zeroValue0
 t3:=underlying3
 a3:=Tryz.isAgg3
 z3:=Tryz.sizeOf3
 v3:=Tryz.zeroValue3
 t4:=underlying4
 a4:=Tryz.isAgg4
 z4:=Tryz.sizeOf4
 v4:=Tryz.zeroValue4
 t5:=underlying5
 a5:=Tryz.isAgg5
 z5:=Tryz.sizeOf5
 v5:=Tryz.zeroValue5
 t9:=underlying9
 a9:=Tryz.isAgg9
 z9:=Tryz.sizeOf9
 v9:=Tryz.zeroValue9
 t22:=underlying376
 a22:=Tryz.isAgg376
 z22:=Tryz.sizeOf376
 v22:=Tryz.zeroValue376
 t25:=underlying380
 a25:=Tryz.isAgg380
 z25:=Tryz.sizeOf380
 v25:=Tryz.zeroValue380
 t39:=underlying180
 a39:=Tryz.isAgg180
 z39:=Tryz.sizeOf180
 v39:=Tryz.zeroValue180
 t45:=underlying241
 a45:=Tryz.isAgg241
 z45:=Tryz.sizeOf241
 v45:=Tryz.zeroValue241
 t46:=underlying242
 a46:=Tryz.isAgg242
 z46:=Tryz.sizeOf242
 v46:=Tryz.zeroValue242
 t50:=underlying246
 a50:=Tryz.isAgg246
 z50:=Tryz.sizeOf246
 v50:=Tryz.zeroValue246
 t53:=underlying58
 a53:=Tryz.isAgg58
 z53:=Tryz.sizeOf58
 v53:=Tryz.zeroValue58
 t55:=underlying211
 a55:=Tryz.isAgg211
 z55:=Tryz.sizeOf211
 v55:=Tryz.zeroValue211
 t66:=underlying285
 a66:=Tryz.isAgg285
 z66:=Tryz.sizeOf285
 v66:=Tryz.zeroValue285
 t70:=underlying289
 a70:=Tryz.isAgg289
 z70:=Tryz.sizeOf289
 v70:=Tryz.zeroValue289
 t76:=underlying332
 a76:=Tryz.isAgg332
 z76:=Tryz.sizeOf332
 v76:=Tryz.zeroValue332
 t77:=underlying333
 a77:=Tryz.isAgg333
 z77:=Tryz.sizeOf333
 v77:=Tryz.zeroValue333 }
def Tryz.Aie:Go.Shelf.Ren:=⟨fun|6=>79|15=>109|14=>108|28=>150|29=>151|20=>142|21=>143|22=>144|23=>145|24=>146|25=>147|26=>148|27=>149|46=>186|47=>187|48=>188|49=>189|50=>190|57=>240|n=>n,fun|22=>56|24=>60|25=>151|3=>3|39=>180|0=>0|53=>58|55=>211|4=>4|46=>242|45=>241|50=>246|5=>5|9=>9|66=>285|70=>289|76=>332|77=>333|n=>n,fun|n=>n⟩
def Tryz.Ahw:Go.Proofs.SlLaysF0.n6 prog Tryz.Aie:={
 mixed:=Be
 f6:=⟨f79.name,Bc,func79.trans (Av J Be)⟩
 f14:=⟨f108.name,Bc,func108.trans (Av J Be)⟩
 f15:=func109.trans (Av J Be)
 f20:=⟨f142.name,Bc,func142.trans (Av J Be)⟩
 f21:=⟨f143.name,Bc,func143.trans (Av J Be)⟩
 f22:=⟨f144.name,Bc,func144.trans (Av J Be)⟩
 f23:=⟨f145.name,Bc,func145.trans (Av J Be)⟩
 f24:=⟨f146.name,Bc,func146.trans (Av J Be)⟩
 f25:=⟨f147.name,Bc,func147.trans (Av J Be)⟩
 f26:=⟨f148.name,Bc,func148.trans (Av J Be)⟩
 f27:=⟨f149.name,Bc,func149.trans (Av J Be)⟩
 f28:=func150.trans (Av J Be)
 f29:=func151.trans (Av J Be)
 f46:=⟨f186.name,Bc,func186.trans (Av J Be)⟩
 f47:=func187.trans (Av J Be)
 f48:=func188.trans (Av J Be)
 f49:=⟨f189.name,Bc,func189.trans (Av J Be)⟩
 f50:=⟨f190.name,Bc,func190.trans (Av J Be)⟩
 f57:=⟨f240.name,Bc,func240.trans (Av J Be)⟩
 t0:=underlying0
 a0:=Tryz.isAgg0
 z0:=Tryz.sizeOf0
 v0:=Tryz.zeroValue0
 t3:=underlying3
 a3:=Tryz.isAgg3
 z3:=Tryz.sizeOf3
 v3:=Tryz.zeroValue3
 t4:=underlying4
 a4:=Tryz.isAgg4
 z4:=Tryz.sizeOf4
 v4:=Tryz.zeroValue4
 t5:=underlying5
 a5:=Tryz.isAgg5
 z5:=Tryz.sizeOf5
 v5:=Tryz.zeroValue5
 t9:=underlying9
 a9:=Tryz.isAgg9
 z9:=Tryz.sizeOf9
 v9:=Tryz.zeroValue9
 t22:=underlying56
 a22:=Tryz.isAgg56
 z22:=Tryz.sizeOf56
 v22:=Tryz.zeroValue56
 t25:=underlying151
 a25:=Tryz.isAgg151
 z25:=Tryz.sizeOf151
 v25:=Tryz.zeroValue151
 t39:=underlying180
 a39:=Tryz.isAgg180
 z39:=Tryz.sizeOf180
 v39:=Tryz.zeroValue180
 t45:=underlying241
 a45:=Tryz.isAgg241
 z45:=Tryz.sizeOf241
 v45:=Tryz.zeroValue241
 t46:=underlying242
 a46:=Tryz.isAgg242
 z46:=Tryz.sizeOf242
 v46:=Tryz.zeroValue242
 t50:=underlying246
 a50:=Tryz.isAgg246
 z50:=Tryz.sizeOf246
 v50:=Tryz.zeroValue246
 t53:=underlying58
 a53:=Tryz.isAgg58
 z53:=Tryz.sizeOf58
 v53:=Tryz.zeroValue58
 t55:=underlying211
 a55:=Tryz.isAgg211
 z55:=Tryz.sizeOf211
 v55:=Tryz.zeroValue211
 t66:=underlying285
 a66:=Tryz.isAgg285
 z66:=Tryz.sizeOf285
 v66:=Tryz.zeroValue285
 t70:=underlying289
 a70:=Tryz.isAgg289
 z70:=Tryz.sizeOf289
 v70:=Tryz.zeroValue289
 t76:=underlying332
 a76:=Tryz.isAgg332
 z76:=Tryz.sizeOf332
 v76:=Tryz.zeroValue332
 t77:=underlying333
 a77:=Tryz.isAgg333
 z77:=Tryz.sizeOf333
 v77:=Tryz.zeroValue333 }
def Tryz.Aii:Go.Shelf.Ren:=⟨fun|6=>123|15=>109|14=>164|28=>150|29=>151|20=>210|21=>211|22=>212|23=>213|24=>214|25=>215|26=>216|27=>217|46=>256|47=>187|48=>188|49=>257|50=>258|57=>280|n=>n,fun|22=>118|24=>121|25=>218|3=>3|39=>180|0=>0|53=>58|55=>211|4=>4|46=>242|45=>241|50=>246|5=>5|9=>9|66=>285|70=>289|76=>332|77=>333|n=>n,fun|n=>n⟩
def Tryz.Air:Go.Proofs.SlLaysF0.n6 prog Tryz.Aii:={
 mixed:=Be
 f6:=⟨f123.name,Bc,func123.trans (Av J Be)⟩
 f14:=⟨f164.name,Bc,func164.trans (Av J Be)⟩
 f15:=func109.trans (Av J Be)
 f20:=⟨f210.name,Bc,func210.trans (Av J Be)⟩
 f21:=⟨f211.name,Bc,func211.trans (Av J Be)⟩
 f22:=⟨f212.name,Bc,func212.trans (Av J Be)⟩
 f23:=⟨f213.name,Bc,func213.trans (Av J Be)⟩
 f24:=⟨f214.name,Bc,func214.trans (Av J Be)⟩
 f25:=⟨f215.name,Bc,func215.trans (Av J Be)⟩
 f26:=⟨f216.name,Bc,func216.trans (Av J Be)⟩
 f27:=⟨f217.name,Bc,func217.trans (Av J Be)⟩
 f28:=func150.trans (Av J Be)
 f29:=func151.trans (Av J Be)
 f46:=⟨f256.name,Bc,func256.trans (Av J Be)⟩
 f47:=func187.trans (Av J Be)
 f48:=func188.trans (Av J Be)
 f49:=⟨f257.name,Bc,func257.trans (Av J Be)⟩
 f50:=⟨f258.name,Bc,func258.trans (Av J Be)⟩
 f57:=⟨f280.name,Bc,func280.trans (Av J Be)⟩
 t0:=underlying0
 a0:=Tryz.isAgg0
 z0:=Tryz.sizeOf0
 v0:=Tryz.zeroValue0
 t3:=underlying3
 a3:=Tryz.isAgg3
 z3:=Tryz.sizeOf3
 v3:=Tryz.zeroValue3
 t4:=underlying4
 a4:=Tryz.isAgg4
 z4:=Tryz.sizeOf4
 v4:=Tryz.zeroValue4
 t5:=underlying5
 a5:=Tryz.isAgg5
 z5:=Tryz.sizeOf5
 v5:=Tryz.zeroValue5
 t9:=underlying9
 a9:=Tryz.isAgg9
 z9:=Tryz.sizeOf9
 v9:=Tryz.zeroValue9
 t22:=underlying118
 a22:=Tryz.isAgg118
 z22:=Tryz.sizeOf118
 v22:=Tryz.zeroValue118
 t25:=underlying218
 a25:=Tryz.isAgg218
 z25:=Tryz.sizeOf218
 v25:=Tryz.zeroValue218
 t39:=underlying180
 a39:=Tryz.isAgg180
 z39:=Tryz.sizeOf180
 v39:=Tryz.zeroValue180
 t45:=underlying241
 a45:=Tryz.isAgg241
 z45:=Tryz.sizeOf241
 v45:=Tryz.zeroValue241
 t46:=underlying242
 a46:=Tryz.isAgg242
 z46:=Tryz.sizeOf242
 v46:=Tryz.zeroValue242
 t50:=underlying246
 a50:=Tryz.isAgg246
 z50:=Tryz.sizeOf246
 v50:=Tryz.zeroValue246
 t53:=underlying58
 a53:=Tryz.isAgg58
 z53:=Tryz.sizeOf58
 v53:=Tryz.zeroValue58
 t55:=underlying211
 a55:=Tryz.isAgg211
 z55:=Tryz.sizeOf211
 v55:=Tryz.zeroValue211
 t66:=underlying285
 a66:=Tryz.isAgg285
 z66:=Tryz.sizeOf285
 v66:=Tryz.zeroValue285
 t70:=underlying289
 a70:=Tryz.isAgg289
 z70:=Tryz.sizeOf289
 v70:=Tryz.zeroValue289
 t76:=underlying332
 a76:=Tryz.isAgg332
 z76:=Tryz.sizeOf332
 v76:=Tryz.zeroValue332
 t77:=underlying333
 a77:=Tryz.isAgg333
 z77:=Tryz.sizeOf333
 v77:=Tryz.zeroValue333 }
end
section
attribute [local irreducible] OW KW QW GW NV
open Bz
def pn{P:AD}{n:Y}{σ:BH}{w:Ad}{x:AF}{t ty:Ay}{a m:Y}(hx:ev σ x=J (U (a:H)))(hm:m=9223372036854775807)(h:a<=m):EX P n σ (.unOp .neg t x) ty w (U (-(a:H))) w:=fun A e f d after g=>by
 have:=bM (k:=.i64) (a:=-(a:H)) (m:=9223372036854775807) Z Z X;simp only[execOp,e.ev hx];simp[Op.unary,Op.intArith,this]
def Gm(l:Bj)(j:Y):Md:=(-((max (l.getD j 0) 1:Y):H),(j:H))
abbrev Mc:={t:Md//Lk t}
instance:Inhabited Mc:=⟨⟨(0,0),by unfold Lk;decide⟩⟩
attribute [local irreducible] EX
def UK{l:Bj}(a:∀x∈l,x<=1073741824)(e:Ajb l<=258){j:Y}(d:j∈BF (Ajb l)):Lk (Gm l j):=by
 have d:=DU.1 d;have f:=a _ (BM d);unfold Lk Gm;grind
def sg:Go.Sort.SWO (fun a b:Mc=>decide (IS a.1 b.1<0)):=by
 have d:∀a b:Md,IS a b<0↔a.1<b.1∨(a.1=b.1/\a.2<b.2):=fun a b=>by
  unfold IS;omega
 refine⟨fun x=>?_,fun x y z f e=>?_,fun x y z f e=>?_⟩
 .grind
 .grind
 .grind
def tQ{l:Bj}{a b:Y}(h:¬IS (Gm l b) (Gm l a)<0)(d:a≠b):FF l a b:=by
 unfold IS Gm at h;unfold FF;omega
def PH(n p:Y):Y:=if p<2 ^ (Ea n+1)-n then Ea n else Ea n+1
def ut{l o out:Bj}(e:IsOw l o)(hl:Ajb out=Ajb l)(h:∀p,p<Ajb o->out.getD (o.getD p 0) 0=PH (Ajb l) p):out=Gp l:=by
 have g:Ajb o=Ajb l:=by rw[e.perm.length_eq,Hp]
 have k:Ajb (Gp l)=Ajb l:=Yz l;apply MX X;intro i n m;have j:i∈o:=e.perm.mem_iff.2 (DU.2 X);obtain⟨p,d,rfl⟩:=Hq.1 j;have f:=h p d;rw[CG d,CG n]at f
 have a:(Gp l)[o[p]]? =J (PH (Ajb l) (Pv l o[p])):=by
  unfold Gp;rw[Eh,MY X];rfl
 rw[BR m]at a;injection a with a;rw[f,a,e.rank d]
def ux(l:Bj)(h2:2<=Ajb l)(h3:Ajb l<=258)(D:∀x∈l,x<=1073741824)(A:Aw AC)(c C:Y)(w:Ad)(hs:Sl w C A (BD .i64 l)):
 Bn prog 271 [.slice A (Ajb l) c] w fun v w'=>(∃u,v=.tuple #[u,U ((0:Y):H)]/\CX w' w.heap.size u (Gp l))/\Bf w w':=by
 refine Bw func271 Z ntmps271 Be Z ?_;refine(O 9∘Zc (jP l ⟨h2,h3⟩ D A c C w hs)) ?_;rintro _ _⟨rfl,rfl⟩;refine(O 2∘Cs 14 (.bool Aj)∘O 11) ?_;obtain⟨b,f,rfl,_,b9⟩:=hs.intAt X;refine Lo (fun(k:Y)=>(1<=k/\k<=8/\2 ^ k<=Ajb l,[(0,.slice (J ⟨b,f,Aa⟩) (Ajb l) c),(4,U ((Ajb l:Y):H)),(5,U k)],w,8-k)) 1 ?_ ?_
 .omega
 .rintro k⟨k1,k2,k3⟩;have kp:2 ^ (k+1)=2*2 ^ k:=by rw[Kt];omega
  refine(O 5∘Zv (by exact Oj (a:=1) (m:=9223372036854775807) Z Z (by show _<=64;omega) Z X)∘O 3)<|Zi (fun hc=>?_) fun hc=>?_
  .have cm:k<8:=by
    rcases Df k 8 with q|q
    .omega
    .grind
   refine(O 8)<|Lb (k+1) ?_;omega
  .have bf:Ea (Ajb l)=k:=by
    have h1:k<=Ea (Ajb l):=(Nat.le_log2 X).2 k3;have h2:Ea (Ajb l)<k+1:=(Ub X).2 X;omega
   refine(O 4) ?_;refine qt Z Z underlying376 Ji Z Z X X ?_;rintro gb w1 y9 bi hZ co af;refine(O 10)<|Lo (fun((i,wr):Y×Ad)=>(i<=Ajb l/\Bk wr gb 378 ((BF i).flatMap (fun j=>FB (Gm l j))++y9.drop (i*2))/\Mo w1 wr [gb],[(0,.slice (J ⟨b,f,Aa⟩) (Ajb l) c),(4,U ((Ajb l:Y):H)),(5,U k),(6,.slice (J ⟨gb,0,Aa⟩) (Ajb l) (Ajb l)),(26,.slice (J ⟨b,f,Aa⟩) (Ajb l) c),(27,U ((Ajb l:Y):H)),(28,U i)],wr,Ajb l-i)) (0,w1) ?_ ?_
   .exact⟨BE _,Bg,Mo.refl _ _⟩
   .rintro⟨i,wr⟩⟨hi,hg,hm⟩;have xr:Bf w wr:=Bu af hm af.size Bx
    have a2:Ajb ((BF i).flatMap (fun j=>FB (Gm l j)))=i*2:=by
     have:=KE (cells:=fun j=>FB (Gm l j)) (k:=2) (fun _=>rfl) (BF i);rwa[Hp]at this
    refine(O 5)<|Zi (fun I=>?_) fun I=>?_
    .have bq:=D _ (BM I);have ab:=b9 wr xr i I;have bl:Gm l i=(-((max l[i] 1:Y):H),(i:H)):=by unfold Gm;rw[CG I]
     generalize l[i]=x at bq ab bl;refine(O 7∘Zv (Ca ab)∘O 8∘Zv (by exact pn Z Z X)∘O 3∘Zs hg (hlt:=by grind)) ?_;rintro w3 bj b3;refine(O 6)<|Lb ((i+1),w3) ?_;refine⟨I,?_,hm.trans b3⟩;rw[Fb,Hr a2,<-Gj,RN a2,Gj]at bj;rw[Ga,IL,FZ,TL,List.append_nil,bl,show(i+1)*2=i*2+2 by omega];exact bj
    .obtain rfl:i=Ajb l:=X;rw[Le X,List.append_nil]at hg
     have ch:((BF (Ajb l)).pmap (fun j d=>(⟨Gm l j,d⟩:Mc)) (fun j d=>UK D h3 d)).flatMap (fun t=>FB t.1)=(BF (Ajb l)).flatMap (fun j=>FB (Gm l j)):=by
      rw[IM,IM,WH];congr 1;show List.pmap (fun(j:Y) (_:Lk (Gm l j))=>FB (Gm l j)) _ _=_;exact List.pmap_eq_map ..
     have a6:Ajb ((BF (Ajb l)).pmap (fun j d=>(⟨Gm l j,d⟩:Mc)) (fun j d=>UK D h3 d))=Ajb l:=by rw[List.length_pmap,Hp]
     have cf:=af.size;have a7:Bo wr w.heap.size 378 2 (.slice (J ⟨gb,0,Aa⟩) (Ajb l) (Ajb l)) (Ajb l) ((BF (Ajb l)).flatMap (fun j=>FB (Gm l j))):=Bo.Agl hg bi a2 CA;have c1:=VG Tryz.Aiu (f:=287) Z func287 Be (e:=378) Z underlying378 Z Ji Bc (cells:=fun t:Mc=>FB t.1) (fun _=>rfl) (fun x v hv=>by simp[FB]at hv;rcases hv with rfl|rfl<;>rfl) (fun a b=>IS a.1 b.1) sg func288 Be w.heap.size ((BF (Ajb l)).pmap (fun j d=>(⟨Gm l j,d⟩:Mc)) (fun j d=>UK D h3 d)) X (.slice (J ⟨gb,0,Aa⟩) (Ajb l) (Ajb l)) wr Bg (fun W x y _=>dI x.1 y.1 x.2 y.2 W);rw[a6]at c1;refine(O 4∘Zc c1) ?_;rintro _ w4⟨rfl,n,g,ai,aj,bb⟩;refine(O 4) ?_;have x4:Bf w w4:=Bu xr bb xr.size (fun q hq=>(a7.lt q (FC.1 hq)).1);have b4:Ajb n=Ajb l:=by rw[g.length_eq,a6]
     have r:∀t∈n,t.1=Gm l t.1.2.toNat/\t.1.2.toNat<Ajb l:=fun t ht=>by
      have:=g.subset ht;obtain⟨j,d,e⟩:=List.mem_pmap.1 this;rw[<-e];exact⟨Z,DU.1 d⟩
     have al:IsOw l (n.map fun t=>t.1.2.toNat):=by
      have S:(n.map fun t:Mc=>t.1.2.toNat).Perm (BF (Ajb l)):=by
       have:=g.map (fun t:Mc=>t.1.2.toNat);rw[WH]at this
       have e:List.pmap (fun(j:Y) (_:Lk (Gm l j))=>j) (BF (Ajb l)) (fun j d=>UK D h3 d)=BF (Ajb l):=by
        rw[List.pmap_eq_map,List.map_id']
       exact this.trans (Oo.of_eq e)
      refine⟨S,Ik.2 fun i j hi d bh=>?_⟩;have ba:=Ik.1 (S.nodup_iff.2 Qc) i j hi d bh;simp only[DF]at hi d;have h5:=ai i j hi d bh;rw[(r _ (BM hi)).1,(r _ (BM d)).1]at h5;simp only[Ou]at ba ⊢;exact tQ h5 ba
     have a0:∀p (S:p<Ajb n),(n.map fun t=>t.1.2.toNat).getD p 0=n[p].1.2.toNat:=fun p S=>by
      rw[Ck,Eh,BR S];rfl
     have V:∀p q,p<Ajb n->q<Ajb n->(n.map fun t=>t.1.2.toNat).getD p 0=(n.map fun t=>t.1.2.toNat).getD q 0->p=q:=fun p q S hq e=>by
      rw[CG Bg,CG Bg]at e;exact(MZ (al.perm.nodup_iff.2 Qc)).1 e
     generalize ho:(n.map fun t=>t.1.2.toNat)=o at al a0 V;have cl:Ajb o=Ajb l:=by rw[<-ho,DF,b4]
     obtain⟨A5,c5,e5,_,b0⟩:=aj.slice;cases e5;refine(Gk) ?_;rintro ob w5 cc b8 bs;refine(O 10) ?_;rw[show BJ (Ajb l) (U 0)=BD .i64 (BJ (Ajb l) 0)from(KF _ _ _).symm]at b8;have x5:=x4.trans bs;have ce:=x4.size;refine Lo (fun((p,P,wp):Y×(Bj)×Ad)=>(p<=Ajb l/\Ajb P=Ajb l/\(∀q,q<p->P.getD (o.getD q 0) 0=PH (Ajb l) q)/\Bk wp ob 3 (BD .i64 P)/\Bf w4 wp,[(4,U ((Ajb l:Y):H)),(5,U k),(9,.slice (J ⟨ob,0,Aa⟩) (Ajb l) (Ajb l)),(46,.slice (J ⟨gb,0,Aa⟩) (Ajb l) (Ajb l)),(47,U ((Ajb l:Y):H)),(48,U p)],wp,Ajb l-p)) (0,(BJ (Ajb l) 0),w5) ?_ ?_
     .grind
     .rintro⟨p,P,wp⟩⟨S,B,Q,a1,K⟩;refine(O 5)<|Zi (fun a3=>?_) fun a3=>?_
      .have N:p<Ajb n:=X;obtain⟨b6,o6,e6,_,h⟩:=(b0.ext K).flat (cells:=fun t:Mc=>FB t.1) (c:=2) (fun _=>rfl) Bc N;cases e6;obtain⟨bn,bm⟩:=r _ (BM N);have ao:=a0 p N;generalize n[p]=t at h bn bm ao;have a9:t.1.2=((o.getD p 0:Y):H):=by rw[ao,bn];rfl
       rw[<-ao]at bm;have bx:FB t.1=[U t.1.1,U ((o.getD p 0:Y):H)]:=by unfold FB;rw[a9]
       have G:∀x,x=PH (Ajb l) p->∀q,q<p+1->(P.set (o.getD p 0) x).getD (o.getD q 0) 0=PH (Ajb l) q:=fun x hx q hq=>by
        have cg:o.getD q 0<Ajb P:=by
         rw[B,a0 q X];exact(r _ (BM _)).2
        rw[CG (by rw[HH];omega),RQ];by_cases e:o.getD p 0=o.getD q 0
        .rw[Ai e,hx,V p q N X e]
        .rw[Ag e,<-CG,Q q];grind
       have L:PH (Ajb l) p=if p<2 ^ (k+1)-Ajb l then k else k+1:=by unfold PH;rw[bf]
       rw[bx]at h;refine(O 7∘Zv (Dr [U t.1.1,U ((o.getD p 0:Y):H)] h)∘Zn) ?_;rintro tb w6 cb b7 a5;refine(O 1∘Zs b7 (hlt:=Bv _)) ?_;rintro w7 a4 b2;refine(O 5) ?_;replace a4:Bk w7 tb 378 [U t.1.1,U ((o.getD p 0:Y):H)]:=a4;have y7:Bf wp w7:=Bu a5 b2 a5.size Bx;have a8:=a1.ext y7;have ck:ob≠tb:=by have:=a1.lt;omega
       refine(O 3∘Zt a8 (hlt:=by rw[DO];omega)) ?_;rintro w8 E bc;refine(O 6) ?_;rw[Iv]at E;have cn:=a4.mo bc (by simp;omega);have cd:=K.size;have x7:=K.trans y7;have x8:Bf w4 w8:=Bu x7 bc x7.size Bx;have ca:Ajb l<=2 ^ (k+1):=X;have cj:1*2 ^ (k+1)=2 ^ (k+1):=Nat.one_mul _;refine(Zv (by exact Oj (a:=1) (m:=9223372036854775807) Z Z (by show _<=64;omega) Z X)∘O 4)<|Zi (fun b5=>?_) fun b5=>?_
       .rw[Ag X]at L;refine(O 7∘Zt E (hlt:=by rw[DO,HH];omega)) ?_;rintro w9 T b1;refine(O 6) ?_;rw[Iv,List.set_set]at T;refine Lb ((p+1),(P.set (o.getD p 0) (k+1)),w9) ?_;exact⟨a3,by rw[HH];exact B,G _ L.symm,T,Bu x8 b1 x8.size Bx⟩
       .rw[Ai X]at L;refine(O 6)<|Lb ((p+1),(P.set (o.getD p 0) k),w8) ?_;exact⟨a3,by rw[HH];exact B,G _ L.symm,E,x8⟩
      .obtain rfl:p=Ajb l:=X;have e:=ut al B (fun p S=>Q p X);refine(O 7∘BG) ?_;refine⟨⟨_,Z,?_⟩,x4.trans K⟩;rw[<-e];unfold CX;rw[B];exact Bo.Agl a1 X (by rw[DO,B,IP]) CA
end
section
attribute [local irreducible] OW KW QW EX GW NV
open Bz
def uB{l:Bj}{i:Y}(h:i<Ajb l):(l.take (i+1)).foldl max 0=max ((l.take i).foldl max 0) l[i]:=by
 rw[<-CS h,Qa];rfl
def jS(l:Bj)(p:Ajb l<=1000000000)(A:Aw AC)(c C:Y)(w:Ad)(m:Sl w C A (BD .i64 l)):
 Bn prog 278 [.agg #[.slice A (Ajb l) c]] w fun v w'=>v=U ((Bz.longest l:Y):H)/\Bf w w':=by
 refine Bw func278 Z ntmps278 (by rfl) Z ?_;refine(O 2) ?_;refine Dz Z Z Z ?_;rintro o h j k a;refine(O 15)<|Lo (fun(i:Y)=>(i<=Ajb l,[(3,U ((((l.take i).foldl max 0):Y):H)),(7,.slice A (Ajb l) c),(8,U ((Ajb l:Y):H)),(9,U i)],h,Ajb l-i)) 0 ?_ ?_
 .simp
 .rintro i q;refine(O 5)<|Zi (fun d=>?_) fun d=>?_
  .obtain⟨b,f,rfl,_,g⟩:=m.intAt X;have n:=uB d;refine(O 6∘Zv (Ca (g h a i d))∘O 13∘Cs 3 (U ((((l.take (i+1)).foldl max 0):Y):H)) (e:=by grind))<|Lb (i+1) ?_;omega
  .obtain rfl:i=Ajb l:=X;refine(O 6∘Br) ?_;rw[DV];exact⟨Z,a⟩
def Fo(sv ov:Ah)(F B C:Y->Y):Bm:=sv::ov::(EK .i64 22 F++(EK .i64 22 B++EK .i64 22 C))
section
variable{sv ov:Ah}{F B C:Y->Y}{i x:Y}
def bo(h:i<22):(Fo sv ov F B C)[2+i]? =J (U (F i:H)):=by
 unfold Fo;rw[TX,RO,RO,FN Ce,MI h]
def nM(h:i<22):(Fo sv ov F B C)[24+i]? =J (U (B i:H)):=by
 unfold Fo;rw[show 24+i=(22+i)+1+1 by omega,RO,RO,Ii (by rw[Gy];omega),Gy,Kr,FN Ce,MI h]
def Tn(h:i<22):(Fo sv ov F B C)[46+i]? =J (U (C i:H)):=by
 unfold Fo;rw[show 46+i=(22+(22+i))+1+1 by omega,RO,RO,Ii (by rw[Gy];omega),Gy,Kr,Ii (by rw[Gy];omega),Gy,Kr,MI h]
def Ie(F:Y->Y)(i x:Y):Y->Y:=fun b=>if b=i then x else F b
def nO(h:i<22):(Fo sv ov F B C).set (2+i) (U (x:H))=Fo sv ov (Ie F i x) B C:=by
 unfold Fo;rw[TX,Kn,Kn,TT _ _ Ce,PA h (G:=Ie F i x) (fun b _=>rfl)]
def nN(h:i<22):(Fo sv ov F B C).set (24+i) (U (x:H))=Fo sv ov F (Ie B i x) C:=by
 unfold Fo;rw[show 24+i=(22+i)+1+1 by omega,Kn,Kn,Nc _ _ (by rw[Gy];omega),Gy,Kr,TT _ _ Ce,PA h (G:=Ie B i x) (fun b _=>rfl)]
def Aej(h:i<22):(Fo sv ov F B C).set (46+i) (U (x:H))=Fo sv ov F B (Ie C i x):=by
 unfold Fo;rw[show 46+i=(22+(22+i))+1+1 by omega,Kn,Kn,Nc _ _ (by rw[Gy];omega),Gy,Kr,Nc _ _ (by rw[Gy];omega),Gy,Kr,PA h (G:=Ie C i x) (fun b _=>rfl)]
def VP:Ajb (Fo sv ov F B C)=68:=by
 rfl
def Aek:Fo sv ov (fun _=>0) (fun _=>0) (fun _=>0)=sv::ov::BJ 66 (U 0):=by
 rfl
end
def Gq(l:Bj)(n i:Y):Bj:=(BF i).filter fun j=>decide (l.getD j 0=n)
def vr(l:Bj)(n i:Y):Gq l n (i+1)=if l.getD i 0=n then Gq l n i++[i]else Gq l n i:=by
 unfold Gq;rw[Ga,Lf];grind
def ZQ(l:Bj)(m:Y):Dt l (m+1)=Dt l m++Gq l (m+1) (Ajb l):=by
 unfold Dt;rw[Ga,IL,FZ,TL,List.append_nil];rfl
def YV(l:Bj)(n:Y):Ajb (Gq l n (Ajb l))=Cy l n:=UR l n
def jo(l:Bj)(n i:Y)(h:i<=Ajb l):Ajb (Gq l n i)<=Cy l n:=by
 rw[<-YV];unfold Gq;obtain⟨d,hd⟩:∃d,Ajb l=i+d:=⟨Ajb l-i,X⟩;rw[hd,List.range_add,Lf,BA];omega
structure TabAt(w:Ad)(B tb:Y)(l:Bj)(sv:Ah):Prop where
 lo:B<=tb
 ex:∃ov F G C,Bk w tb 367 (Fo sv ov F G C)/\Bo w B 3 1 ov (Ajb (Dt l (Bz.longest l))) (BD .i64 (Dt l (Bz.longest l)))/\(∀n,1<=n->n<=Bz.longest l->F n=fst l n/\G n=FT l n)/\(∀n,n<22->C n=Cy l n)/\∀n,F n<=4194304
def TabAt.ext{w w':Ad}{B a:Y}{l:Bj}{sv:Ah}(h:TabAt w B a l sv)(hx:Bf w w'):TabAt w' B a l sv:=by
 obtain⟨d,ov,F,G,C,j,g,f,e⟩:=h;exact⟨d,ov,F,G,C,j.ext hx,g.ext hx,f,e⟩
def TabAt.tm{w w':Ad}{B a D:Y}{l:Bj}{sv:Ah}{p:Ay->Ar}(h:TabAt w B a l sv)(t:Tm w w' D p)(p1:p 367=Aj)(d:p 3=Aj):TabAt w' B a l sv:=by
 obtain⟨e,ov,F,G,C,k,j,g,f⟩:=h;exact⟨e,ov,F,G,C,t.bk k p1,t.own j d,g,f⟩
def lq{l:Bj}(h0:Cy l 0=0)(m:Y):Ajb (Dt l m)=FT l (m+1):=by
 have:=ZP l m;omega
def Vj(l:Bj):∀m,Ajb (Dt l m)<=m*Ajb l
 |0=>by simp[Dt]
 |m+1=>by
  have h1:=Vj l m;have h2:Cy l (m+1)<=Ajb l:=List.count_le_length;rw[ZQ,BA,YV,Qj];omega
def UW{l:Bj}(h:LOk l):Bz.longest l<=20:=vY fun x hx=>(h.pos x hx).2
def fo{l:Bj}{n:Y}(h:Bz.longest l<n):Cy l n=0:=List.count_eq_zero.2 fun q=>by
 have:=UV q;omega
def jV(l:Bj)(hn:Ajb l<=1000000000)(a7:∀x∈l,x<=1000000000)(A:Aw AC)(c C:Y)(w:Ad)(hs:Sl w C A (BD .i64 l)):
 Bn prog 251 [.slice A (Ajb l) c] w fun v w'=>((GJ l≠0/\v=.tuple #[.pointer Aa,U ((80:Y):H)])∨(GJ l=0/\∃tb,v=.tuple #[.pointer (J ⟨tb,0,Aa⟩),U ((0:Y):H)]/\TabAt w' w.heap.size tb l (.slice A (Ajb l) c)))/\Bf w w':=by
 have b3:GJ l≠0->GJ l=80:=fun h=>by
  unfold GJ at h ⊢;grind
 refine Bw func251 Z ntmps251 Be Z ?_;refine(O 9∘Zc (Zf l hn a7 A c C w hs)) ?_;rintro _ _⟨rfl,rfl⟩;refine(O 7)<|Zi (fun he=>?_) fun he=>?_
 .have e:=b3 he;refine(O 6∘BG) ?_;rw[e];exact⟨.inl ⟨Bc,Z⟩,Bf.refl _⟩
 .have b4:GJ l=0:=Dk.1 he;have bq:2<=Ajb l/\Ajb l<=258/\LOk l:=IG fun q=>he (by rw[show GJ l=80 from Ag q];decide);obtain⟨l2,l3,hL⟩:=bq;have ce:=UW hL;have P:=hL.Ahb;obtain⟨D,y,rfl,_,b6⟩:=hs.intAt X;refine(O 5∘Zv (by exact oW (pl:=[(0,1),(1,1),(2,22),(24,22),(46,22)]) (ks:=[0]) (zs:=[.slice Aa 0 0,.slice Aa 0 0,U 0,U 0,U 0,U 0,U 0,U 0,U 0,U 0,U 0,U 0,U 0,U 0,U 0,U 0,U 0,U 0,U 0,U 0,U 0,U 0,U 0,U 0,U 0,U 0,U 0,U 0,U 0,U 0,U 0,U 0,U 0,U 0,U 0,U 0,U 0,U 0,U 0,U 0,U 0,U 0,U 0,U 0,U 0,U 0,U 0,U 0,U 0,U 0,U 0,U 0,U 0,U 0,U 0,U 0,U 0,U 0,U 0,U 0,U 0,U 0,U 0,U 0,U 0,U 0,U 0,U 0]) underlying367 oh Be Z Z (by simp only[Co,Ep,Value.cells];rfl) Z Z (by simp only[fillL,WP,List.zip_nil_right,List.zip_nil_left,List.getD_cons_zero,List.getD_cons_succ,Cz,EZ,Fb,Jv,Nat.reduceAdd,TV,Qd,TJ,Ot,EP,Gi];rfl))) ?_;refine Dz Z Z Z ?_;rintro tb w1 a8 a0 bl;refine(O 12) ?_
  replace a0:Bk w1 tb 367 (Fo (.slice (J ⟨D,y,Aa⟩) (Ajb l) c) (.slice Aa 0 0) (fun _=>0) (fun _=>0) (fun _=>0)):=by
   rw[Aek];exact a0
  refine(Cs 6 (U (((fst l 0+Cy l 0):Y):H)) (e:=by rw[P];rfl))<|Lo (fun((m,ov,F,G,K,wr):Y×Ah×(Y->Y)×(Y->Y)×(Y->Y)×Ad)=>(m<=Bz.longest l/\Bk wr tb 367 (Fo (.slice (J ⟨D,y,Aa⟩) (Ajb l) c) ov F G K)/\Bo wr w.heap.size 3 1 ov (Ajb (Dt l m)) (BD .i64 (Dt l m))/\(∀n,1<=n->n<=m->F n=fst l n/\G n=FT l n)/\(∀n,n<22->K n=if n<=m then Cy l n else 0)/\(∀n,F n<=4194304)/\Bf w wr,[(5,.pointer (J ⟨tb,0,Aa⟩)),(6,U (((fst l m+Cy l m):Y):H)),(7,U (((m+1):Y):H))],wr,22-m)) (0,(.slice Aa 0 0),(fun _=>0),(fun _=>0),(fun _=>0),w1) ?_ ?_
  .refine⟨BE _,a0,Bo.nil _ _ _ _,fun n h1 h2=>by omega,fun n h1=>?_,fun n=>BE _,bl⟩;grind
  .rintro⟨m,ov,F,G,K,wr⟩⟨hm,hb,a3,b9,hK,b8,hx⟩;have cb:=hL.top (n:=m) X;have cg:2 ^ m<=1048576:=Gb (n:=2) Bc (show m<=20 by omega);refine Eo (Eo (KW.region ?_));refine OW.val Z Z (EX.move Z) ?_;refine OW.val Z Z (EX.move Z) ?_;refine OW.val Z Z (DS Z) ?_;refine OW.val Z Z (Do (off:=0) underlying367 Z Z To Z Z) ?_;refine OW.val Z Z (KY (l:=[.slice (J ⟨D,y,Aa⟩) (Ajb l) c]) underlying364 Z To Z Z (fun j u hj=>hb.cell_of (by cases j with|zero=>exact hj|succ j=>grind))) ?_;refine OW.call Z Z Z (jS l hn (J ⟨D,y,Aa⟩) c C wr (hs.ext hx)) ?_;rintro _ w2⟨rfl,V⟩;refine(O 2) ?_;have al:=hb.ext V;have o:=a3.ext V;have x2:=hx.trans V;refine Zi (fun hc=>?_) fun hc=>?_
   .have b2:fst l (m+1)=2*(fst l m+Cy l m):=rfl;have cj:FT l (m+1)=FT l m+Cy l m:=rfl;have ck:=lq P m;have a9:=al.drew;obtain⟨A0,c0,rfl,_,_⟩:=o.slice;refine KW.skip (Eo (KW.block (Eo (KW.region ?_))));refine OW.val Z Z (EX.move Z) ?_;refine OW.val Z Z (Ho (s:=1) (p:=2) (m:=9223372036854775807) Z Z Bc Bc Z X) ?_;refine OW.val Z Z (CI Z) ?_;refine OW.nil ?_;refine Eo ?_;refine PY (N:=18) (fun w'=>∃F G,Bk w' tb 367 (Fo (.slice (J ⟨D,y,Aa⟩) (Ajb l) c) (.slice A0 (Ajb (Dt l m)) c0) F G K)) Be Z ?_;have f:=show ∃F G,Bk w2.drew tb 367 (Fo (.slice (J ⟨D,y,Aa⟩) (Ajb l) c) (.slice A0 (Ajb (Dt l m)) c0) F G K)from⟨F,G,a9⟩;refine GW.val 0 Z Be Be Be Z Z f (fun w' a=>EX.move Z) ?_;refine GW.val 1 Z Be Be Be Z Z f (fun w' a=>EX.move Z) ?_;refine GW.val 2 Z Be Be Be Z Z f (fun w' a=>EX.move Z) ?_;refine GW.val 3 Z Be Be Be Z Z f (fun w' a=>EX.move Z) ?_;refine GW.val 4 Z Be Be Be Z Z f (fun w' a=>EX.move Z) ?_;refine GW.val 5 Z Be Be Be Z Z f (fun w' a=>EX.move Z) ?_;refine GW.val 6 Z Be Be Be Z Z f (fun w' a=>DS Z) ?_;refine GW.val 7 Z Be Be Be Z Z f (fun w' a=>Do (off:=1) underlying367 Z Z GV Z Z) ?_;refine GW.val 8 Z Be Be Be Z Z f (fun w' a=>Ci underlying51 Z Z (by obtain⟨F',G',h⟩:=a;exact h.cell_of Z)) ?_;refine GW.val 9 Z Be Be Be Z Z f (fun w' a=>PS underlying51 Z) ?_;refine GW.val 10 Z Be Be Be Z Z f (fun w' a=>DS Z) ?_;refine GW.val 11 Z Be Be Be Z Z f (fun w' a=>Do (off:=2) underlying367 Z Z PC Z Z) ?_;refine GW.val 12 Z Be Be Be Z Z f (fun w' a=>by first|exact LQ underlying365 BV Z Z X|exact LR underlying365 BV Z Z X) ?_;refine GW.val 14 Z Be Be Be Z Z f (fun w' a=>DS Z) ?_;refine GW.val 15 Z Be Be Be Z Z f (fun w' a=>Do (off:=24) underlying367 Z Z PC Z Z) ?_;refine dc 13 Z Be Z BV Z Z (by first|rfl|assumption|exact Bo.one Ce) (a9) (by rw[VP];omega) ?_;rintro w3 aj b0;refine⟨⟨_,_,by rw[<-nO (show m+1<22 by omega)];exact aj⟩,fun f=>?_⟩;refine(Gv [16]) ?_;rw[nO (show m+1<22 by omega)]at aj;refine(Yt 17 aj (hlt:=by rw[VP];omega)) ?_;rintro w4 t bx;refine⟨⟨_,_,by rw[<-nN (show m+1<22 by omega)];exact t⟩,fun f=>?_⟩;refine(Yd∘O 6) ?_;rw[nN (show m+1<22 by omega)]at t;have a4:Mo w2 w4 [tb]:=((Mo.Agk (Bf.drew w2) [tb]).trans b0).trans bx;have a1:=o.mo a4 (fun q hq=>by simp;exact fun z=>o.ne al Bc q hq z.symm);have x4:Bf w w4:=Bu x2 a4 x2.size Bx;have bm:=hL.top (n:=m+1) X;have cc:2 ^ (m+1)<=1048576:=Gb (n:=2) Bc (show m+1<=20 by omega)
    have bi:∀n,1<=n->n<=m+1->Ie F (m+1) ((fst l m+Cy l m)*2) n=fst l n/\Ie G (m+1) (Ajb (Dt l m)) n=FT l n:=fun n h1 h2=>by
     unfold Ie;grind
    have bh:∀n,Ie F (m+1) ((fst l m+Cy l m)*2) n<=4194304:=fun n=>by
     unfold Ie;grind
    generalize cm:Ie F (m+1) ((fst l m+Cy l m)*2)=F2 at t bi bh;generalize cl:Ie G (m+1) (Ajb (Dt l m))=G2 at t bi;have af:(fst l m+Cy l m)*2=fst l (m+1):=by rw[b2,Qi]
    have cd:=Vj l m;have bn:=Oz (show m<=20 by omega) (show Ajb l<=258 from l3);refine(O 5∘Cs 6 (U (((fst l (m+1)+Ajb (Gq l (m+1) 0)):Y):H)) (e:=by rw[af];rfl))<|Lo (fun((i,ov,K2,E):Y×Ah×(Y->Y)×Ad)=>(i<=Ajb l/\Bk E tb 367 (Fo (.slice (J ⟨D,y,Aa⟩) (Ajb l) c) ov F2 G2 K2)/\Bo E w.heap.size 3 1 ov (Ajb (Dt l m++Gq l (m+1) i)) (BD .i64 (Dt l m++Gq l (m+1) i))/\(∀n,n<22->K2 n=if n<=m then Cy l n else if n=m+1 then Ajb (Gq l (m+1) i)else 0)/\Bf w E,[(5,.pointer (J ⟨tb,0,Aa⟩)),(6,U (((fst l (m+1)+Ajb (Gq l (m+1) i)):Y):H)),(7,U (((m+1):Y):H)),(50,.slice (J ⟨D,y,Aa⟩) (Ajb l) c),(51,U ((Ajb l:Y):H)),(52,U i)],E,Ajb l-i)) (0,(.slice A0 (Ajb (Dt l m)) c0),K,w4) ?_ ?_
    .refine⟨BE _,t,by simpa[Gq]using a1,fun n h1=>?_,x4⟩;rw[hK n h1];split
     .rfl
     .split<;>rfl
    .rintro⟨i,ov,K2,E⟩⟨hi,ai,g,bc,S⟩;have d:=vr l (m+1) i;have cf:=jo l (m+1) i hi;refine(O 5)<|Zi (fun k=>?_) fun k=>?_
     .rw[CG k]at d;have Q:=b6 E S i k;have bj:=a7 _ (BM k);generalize l[i]=x at d Q bj;refine(O 7∘Zv (Ca Q)∘O 9)<|Zi (fun T=>?_) fun T=>?_
      .rw[Ai T]at d;have W:=jo l (m+1) (i+1) k;rw[d,BA,Dd]at W
       have ch:Ajb (Dt l m++Gq l (m+1) i)<=1000000:=by
        rw[BA];have:Cy l (m+1)<=Ajb l:=List.count_le_length;omega
       refine(O 8∘He S g) ?_;rintro _ v5 w5 L a2 b1 _;refine(O 2) ?_;have bb:=ai.push b1 (g.ne ai Bc);refine(Zt bb (hlt:=by rw[VP];omega)) ?_;rintro w6 b5 a6;refine(O 2) ?_;have r:Bk w6 tb 367 (Fo (.slice (J ⟨D,y,Aa⟩) (Ajb l) c) v5 F2 G2 K2):=b5;have I:=L.mo a6 (fun q hq=>by simp;exact fun z=>L.ne bb Bc q hq z.symm);have x6:Bf w w6:=Bu a2 a6 a2.size Bx;have b7:K2 (m+1)=Ajb (Gq l (m+1) i):=by rw[bc _ X,Ag X,Ai Z]
       have bf:=Tn (sv:=.slice (J ⟨D,y,Aa⟩) (Ajb l) c) (ov:=v5) (F:=F2) (B:=G2) (C:=K2) (show m+1<22 by omega);rw[b7]at bf;refine Kg 10 Be Be<|HW.val Z Z (EX.move Z)<|HW.val Z Z (EX.move Z)<|HW.val Z Z (DS Z)<|HW.val Z Z (Do (off:=46) underlying367 Z Z PC Z Z)<|HW.val Z Z (by first|exact LQ underlying365 BV Z Z X|exact LR underlying365 BV Z Z X)<|HW.val Z Z (Ci underlying3 Z Z (r.drew.cell_of bf))<|HW.val Z Z (by first|exact JY (b:=1) (m:=9223372036854775807) Z Z Z X|exact Ka (m:=9223372036854775807) Z Z Z Z X)<|HW.val Z Z (DS Z)<|HW.val Z Z (Do (off:=46) underlying367 Z Z PC Z Z)<|HW.val Z Z (by first|exact LQ underlying365 BV Z Z X|exact LR underlying365 BV Z Z X)<|HW.tail<|(Zt r.drew (hlt:=by rw[VP];omega)) ?_;rintro w7 ba a5;refine(O 11) ?_;rw[Aej (show m+1<22 by omega)]at ba;refine(Cs 6 (U (((fst l (m+1)+Ajb (Gq l (m+1) (i+1))):Y):H)) (e:=by rw[d,BA,Dd,Kq]))<|Lb ((i+1),v5,(Ie K2 (m+1) (Ajb (Gq l (m+1) i)+1)),w7) ?_;have ca:=(I.ext (Bf.drew w6)).mo a5 (fun q hq=>by simp;exact fun z=>I.ne r Bc q hq z.symm);have x7:Bf w w7:=Bu (x6.trans (Bf.drew w6)) a5 (x6.trans (Bf.drew w6)).size Bx;refine⟨k,ba,?_,fun n h1=>?_,x7⟩
       .rw[d,<-Cx,<-KG,BA (bs:=[i])];omega
       .unfold Ie;grind
      .rw[Ag T]at d;refine(O 6∘Cs 6 (U (((fst l (m+1)+Ajb (Gq l (m+1) (i+1))):Y):H)) (e:=by rw[d]))<|Lb ((i+1),ov,K2,E) ?_;dsimp only;rw[d];exact⟨k,ai,g,bc,S⟩
     .obtain rfl:i=Ajb l:=X;rw[YV,<-ZQ]at*;refine(O 7)<|Lb ((m+1),ov,F2,G2,K2,E) ?_;grind
   .obtain rfl:m=Bz.longest l:=X;refine(O 7∘BG) ?_;refine⟨.inr ⟨b4,tb,Z,a8,ov,F,G,K,al,o,b9,fun n h1=>?_,b8⟩,x2⟩;rw[hK n h1];split
    .rfl
    .exact(fo X).symm
def Vi(l:Bj):∀m,(Dt l m).Nodup/\∀i∈Dt l m,i<Ajb l/\1<=l.getD i 0/\l.getD i 0<=m
 |0=>by simp[Dt]
 |m+1=>by
  have ih:=Vi l m;rw[ZQ];refine⟨WJ.2 ⟨ih.1,Qc.filter _,fun a ha b hb e=>?_⟩,fun i hi=>?_⟩
  .subst e;have h3:=(ih.2 a ha).2;have h4:=AO (Kk.1 hb).2;omega
  .rcases Dx.1 hi with q|q
   .grind
   .have h3:=DU.1 (Kk.1 q).1;have h4:=AO (Kk.1 q).2;omega
def yF{l:Bj}(h0:Cy l 0=0){m k:Y}(hk:k<Ajb (Dt l m)):k=FT l (l.getD (Dt l m)[k] 0)+MC l (Dt l m)[k]:=by
 obtain⟨d,a⟩:=Vi l m;obtain⟨h,g,f⟩:=a _ (BM hk);obtain⟨i,e⟩:=Ki.1 (ZO h0 h g f);exact((MZ d).1 e).symm
def Hg(l:Bj):Bj:=(BF (Ajb l)).map (KC l)
def fp{l:Bj}{i:Y}(h:i<Ajb l):(Hg l).getD i 0=KC l i:=by
 unfold Hg;grind
def sj(l:Bj)(hL:LOk l)(h3:Ajb l<=258)(h2:2<=Ajb l)(tb B:Y)(A:Aw AC)(c C:Y)(w:Ad)(ht:TabAt w B tb l (.slice A (Ajb l) c))(hs:Sl w C A (BD .i64 l)):
 Bn prog 272 [.pointer (J ⟨tb,0,Aa⟩)] w fun v w'=>CX w' w.heap.size v (Hg l)/\Bf w w':=by
 obtain⟨lo,ov,F,G,K,hb,j,a4,hK,a3⟩:=ht;have Q:=UW hL;have af:=hL.Ahb;have a:=(Vi l (Bz.longest l)).2;have f:=fun k hk=>yF (m:=Bz.longest l) (k:=k) af hk;have P:=Vj l (Bz.longest l);have al:=Oz Q h3;have o:=fun i y h1 h2=>ZO (l:=l) af (i:=i) (m:=Bz.longest l) y h1 h2;generalize Dt l (Bz.longest l)=od at j a f P o;obtain⟨oA,oc,rfl,_,ai⟩:=j.slice;obtain⟨ab,ao,rfl,_,a2⟩:=hs.intAt X;refine Bw func272 Z ntmps272 Be Z ?_;refine(O 12∘Gk) ?_;rintro rb w1 S aj E;refine(O 8) ?_;rw[show BJ (Ajb l) (U 0)=BD .i64 (BJ (Ajb l) 0)from(KF _ _ _).symm]at aj;refine(Zv (Bp (hb.ext E))∘O 4)<|Lo (fun((k,t,wr):Y×(Bj)×Ad)=>(k<=Ajb od/\Ajb t=Ajb l/\(∀q (hq:q<Ajb od),q<k->t.getD (od[q]'hq) 0=KC l (od[q]'hq))/\Bk wr rb 3 (BD .i64 t)/\Bf w wr,[(0,.pointer (J ⟨tb,0,Aa⟩)),(3,.slice (J ⟨rb,0,Aa⟩) (Ajb l) (Ajb l)),(17,.slice oA (Ajb od) oc),(18,U ((Ajb od:Y):H)),(19,U k)],wr,Ajb od-k)) (0,(BJ (Ajb l) 0),w1) ?_ ?_
 .grind
 .rintro⟨k,t,wr⟩⟨hk,r,I,hr,x⟩;refine(O 5)<|Zi (fun T=>?_) fun T=>?_
  .obtain⟨pb,po,rfl,_,W⟩:=ai.intAt X;obtain⟨f1,f2,f3⟩:=a _ (BM T);have N:=f k T;have p:=W wr x k T;have a1:=CG f1;have h:=a4 _ f2 f3;have d:KC l od[k]=fst l (l.getD od[k] 0)+MC l od[k]:=rfl;have g:=a2 wr x od[k] f1;rw[<-a1]at g;generalize a7:od[k]=i at p f1 f2 f3 N h d g;generalize l.getD i 0=n at f2 f3 N h d g;obtain⟨e1,e2⟩:=h;have a8:=a3 n;have V:=hb.ext x;have D:n<22:=X;refine(O 7∘Zv (Ca p)∘O 12∘Zv (Ca g)∘O 2) ?_;refine Kg 18 Be Be<|HW.val Z Z (EX.move Z)<|HW.val Z Z (EX.move Z)<|HW.val Z Z (EX.move Z)<|HW.val Z Z (EX.move Z)<|HW.val Z Z (DS Z)<|HW.val Z Z (Do (off:=2) underlying367 Z Z PC Z Z)<|HW.val Z Z (by first|exact LQ underlying365 BV Z Z X|exact LR underlying365 BV Z Z X)<|HW.val Z Z (Ci underlying3 Z Z (V.drew.cell_of (bo D)))<|HW.val Z Z (EX.move Z)<|HW.val Z Z (by first|exact JY (m:=9223372036854775807) Z Z Z X|exact Ka (m:=9223372036854775807) Z Z Z Z X)<|HW.val Z Z (EX.move Z)<|HW.val Z Z (EX.move Z)<|HW.val Z Z (DS Z)<|HW.val Z Z (Do (off:=24) underlying367 Z Z PC Z Z)<|HW.val Z Z (by first|exact LQ underlying365 BV Z Z X|exact LR underlying365 BV Z Z X)<|HW.val Z Z (Ci underlying3 Z Z (V.drew.cell_of (nM D)))<|HW.val Z Z (by first|exact Kc (m:=9223372036854775807) Z Z Z X|exact RG (m:=9223372036854775807) Z Z Z Z X)<|HW.val Z Z (by first|exact KV underlying51 BV Z Z X|exact KX underlying51 BV Z Z X)<|HW.tail<|(Zt hr.drew (hlt:=by rw[DO];omega)) ?_;rintro w3 L a0;refine(O 6) ?_;rw[Iv]at L;have a5:=E.size;refine Lb ((k+1),(t.set i (F n+k-G n)),w3) ?_;refine⟨T,Bg,fun q hq a6=>?_,L,Bu (x.trans (Bf.drew wr)) a0 (x.trans (Bf.drew wr)).size Bg⟩;obtain⟨g1,_,_⟩:=a _ (BM hq);rw[CG Bg,RQ];by_cases e:i=od[q]
   .rw[Ai e,<-e,d,e1,e2];omega
   .rw[Ag e,<-CG];grind
  .obtain rfl:k=Ajb od:=X;refine(O 6∘Br) ?_
   have e:t=Hg l:=by
    apply MX (by rw[r];simp[Hg]);intro i h1 h4;have y:i<Ajb l:=X;have hm:l.getD i 0∈l:=by rw[CG y];exact BM y
    obtain⟨q1,q2⟩:=Ki.1 (o i y (hL.pos _ hm).1 (UV hm));have h5:=I _ q1 q1;rw[q2,CG h1]at h5;rw[h5,<-fp y,CG h4]
   subst e;refine⟨?_,x⟩;unfold CX;rw[r];exact Bo.Agl hr S (by rw[DO,r,IP]) CA
def yX(l:Bj)(hL:LOk l)(i:Ajb l<=258)(j:2<=Ajb l)(A:Aw AC)(c C:Y)(w:Ad)(h:Sl w C A (BD .i64 l)):
 Bn prog 235 [.slice A (Ajb l) c] w fun v w'=>(∃u,v=.tuple #[u,U ((0:Y):H)]/\CX w' w.heap.size u (Hg l))/\Bf w w':=by
 have g:GJ l=0:=Ai ⟨j,i,hL⟩;have f:=jV l X (fun x n=>by have:=(hL.pos x n).2;omega) A c C w h;refine Bw func235 Z ntmps235 (by rfl) Z ?_;refine(O 8∘Zc f) ?_;rintro _ k⟨⟨p,rfl⟩|⟨_,m,rfl,o⟩,a⟩
 .exact AI g p
 refine(O 12∘Cb 12∘O 5∘Zc (sj l hL i j m w.heap.size A c C k o (h.ext a))) ?_;rintro _ q⟨d,e⟩;refine(O 3∘BG) ?_;exact⟨⟨_,Z,Bo.more d a.size⟩,a.trans e⟩
end
section
attribute [local irreducible] OW KW QW EX GW NV
open Bz
open Classical in
def ra(l:Bj)(hL:LOk l)(h3:Ajb l<=258)(x n i B:Y)(hx:x<=4194304)(hn:n<=21)(A:Aw AC)(c C:Y)(w:Ad)(ht:TabAt w B i l (.slice A (Ajb l) c))(W:Sl w C A (BD .i64 l)):
 Bn prog 279 [.pointer (J ⟨i,0,Aa⟩),U (x:H),U (n:H)] w fun v w'=>v=.bool (decide (Qr l x n))/\Bf w w':=by
 obtain⟨lo,ov,F,G,K,hb,L,D,hK,y⟩:=ht;have P:=UW hL;refine Bw func279 Z ntmps279 Be Z ?_;refine(O 12)<|Lo (fun((m,wr):Y×Ad)=>(n<m/\m<=22/\(∀j,n<j->j<m->¬(j<=Bz.longest l/\0<Cy l j/\x*2 ^ (j-n)<fst l j+Cy l j))/\Bf w wr,[(0,.pointer (J ⟨i,0,Aa⟩)),(1,U x),(2,U n),(7,U m)],wr,22-m)) ((n+1),w) ?_ ?_
 .exact⟨X,X,fun j h1 h2=>by omega,Bf.refl _⟩
 .rintro⟨m,wr⟩⟨S,m2,k,d⟩;have h:=hb.ext d;refine Eo (Eo (KW.region ?_));refine OW.val Z Z (EX.move Z) ?_;refine OW.val Z Z (EX.move Z) ?_;refine OW.val Z Z (DS Z) ?_;refine OW.val Z Z (Do (off:=0) underlying367 Z Z To Z Z) ?_;refine OW.val Z Z (KY (l:=[.slice A (Ajb l) c]) underlying364 Z To Z Z (fun j u hj=>h.cell_of (by cases j with|zero=>exact hj|succ j=>grind))) ?_;refine OW.call Z Z Z (jS l X A c C wr (W.ext d)) ?_;rintro _ w2⟨rfl,e⟩;refine(O 2) ?_;have f:=h.ext e;refine Zi (fun t=>?_) fun t=>?_
  .have a:m<22:=X;have ab:=hK m a;obtain⟨e1,e2⟩:=D m X t;have af:=y m;have E:=hL.top (n:=m) X;have I:2 ^ m<=1048576:=Gb (n:=2) Bc (show m<=20 by omega);have p:2 ^ (m-n)<=1048576:=Gb (n:=2) Bc (show m-n<=20 by omega);have N:x*2 ^ (m-n)<=4194304*1048576:=Oz hx p;refine(O 10∘Zq (by exact fun _=>Bp (f.drewN _) (hi:=Tn a))∘O 2)<|Nn 26 (fun h0=>?_) fun h0=>?_
   .refine(O 4∘Zq (by exact fun _=>Oj (m:=9223372036854775807) Z Z (by show _<=64;omega) Z X)∘O 5∘Zq (by exact fun _=>Bp (f.drewN _) (hi:=bo a))∘O 5∘Zq (by exact fun _=>Bp (f.drewN _) (hi:=Tn a))∘O 3∘QW.nil) fun Q=>Zi (fun r=>?_) fun r=>?_
    .refine(O 4∘Br) ?_;rw[AL (show Qr l x n from⟨m,t,S,X,X⟩)];exact⟨Z,(d.trans e).trans (Bf.drewN _ _)⟩
    .refine(O 7)<|Lb ((m+1),_) ?_;refine⟨X,X,fun j g o q=>?_,(d.trans e).trans (Bf.drewN _ _)⟩;rcases Df j m with z|z
     .exact k j g z q
     .grind
   .refine(O 20∘QW.nil) fun Q=>(O 8)<|Lb ((m+1),_) ?_;refine⟨X,X,fun j g o q=>?_,(d.trans e).trans (Bf.drewN _ _)⟩;rcases Df j m with z|z
    .exact k j g z q
    .grind
  .refine(O 5∘Br) ?_;rw[AN (show ¬Qr l x n from fun⟨j,g,o,V,T⟩=>k j o X ⟨g,V,T⟩)];exact⟨Z,d.trans e⟩
def Ra{s:Bh}{p n:Y}(h:p+n<=8*Ajb s):IB s p n=(num (BX s p n),0,p+n):=Ag X
def dW(l:Bj)(a:Y):∀d,FT l a<=FT l (a+d)
 |0=>Bv _
 |d+1=>by
  have:=dW l a d;show _<=FT l (a+d)+_;omega
def XH{l:Bj}{n:Y}(h:0<Cy l n):n<=Bz.longest l:=by
 rcases Df (Bz.longest l) n with q|q
 .have:=fo q;omega
 .omega
open Classical in
def yq(l:Bj)(s:Bh)(p f n c:Y):Pn l s p (f+1) n c=if 8*Ajb s<=p+n then Aa else if Mn l (n+1) (2*c+(Cp s (p+n)).toNat)then J ((Dt l (Bz.longest l)).getD (FT l (n+1)+(2*c+(Cp s (p+n)).toNat-fst l (n+1))) 0,p+n+1)else if Qr l (2*c+(Cp s (p+n)).toNat) (n+1)then Pn l s p f (n+1) (2*c+(Cp s (p+n)).toNat)else Aa:=by rfl
open Classical in
def xW(l:Bj)(hL:LOk l)(h3:Ajb l<=258)(s:Bh)(a7:Ajb s<=1000000000)(p L B t D:Y)(hp:p<=8*Ajb s)(A:Aw AC)(c C:Y)(w:Ad)(ht:TabAt w B L l (.slice A (Ajb l) c))(hs:Sl w C A (BD .i64 l))(hC:C<=D)(a0:C<=w.heap.size)(hr:RdAt w D t s p):
 Bn prog 252 [.pointer (J ⟨L,0,Aa⟩),.pointer (J ⟨t,0,Aa⟩)] w fun v w'=>((∃x q,ND l s p=J (x,q)/\x<Ajb l/\q<=8*Ajb s/\v=.tuple #[U (x:H),U ((0:Y):H)]/\RdAt w' D t s q)∨(ND l s p=Aa/\∃e:Y,GX e/\v=.tuple #[U ((0:Y):H),U (e:H)]))/\Tm w w' D Ja:=by
 have V:=UW hL;have a1:=hL.Ahb;refine Bw func252 Z ntmps252 Be Z ?_;refine(O 14)<|Lo (fun((n,I,wr):Y×Y×Ad)=>(n<=20/\I<2 ^ n/\p+n<=8*Ajb s/\Pn l s p (21-n) n I=ND l s p/\RdAt wr D t s (p+n)/\Tm w wr D Ja,[(0,.pointer (J ⟨L,0,Aa⟩)),(1,.pointer (J ⟨t,0,Aa⟩)),(6,U I),(7,U (((n+1):Y):H))],wr,21-n)) (0,0,w) ?_ ?_
 .exact⟨BE _,Bc,hp,Z,hr,Tm.refl _ _ _⟩
 .rintro⟨n,I,wr⟩⟨n1,n2,n3,i,n5,tr⟩;obtain⟨f,hf⟩:∃f,21-n=f+1:=⟨20-n,X⟩;rw[hf,yq]at i;have a2:2 ^ n<=1048576:=Gb (n:=2) Bc (show n<=20 by omega);have a8:2 ^ (n+1)=2*2 ^ n:=by rw[Kt];omega
  obtain⟨v0,e0,q0,aj,ab⟩:=MD s (p+n) 1;have c1:=MM D t s (p+n) 1 Bc n3 X wr n5;rw[aj]at c1;refine(O 5∘Zc c1) ?_;rintro _ w2⟨rfl,r,t2⟩;refine(O 12) ?_;have a:=tr.trans t2;refine Zi (fun he=>?_) fun he=>?_
  .rcases ab with⟨h,rfl,rfl,rfl⟩|⟨h,rfl,rfl,rfl⟩
   .rw[Ai X]at i;refine(O 6∘BG) ?_;exact⟨.inr ⟨i.symm,10,⟨Bc,Bc⟩,Z⟩,a⟩
   .exact AI Z he
  .rcases ab with⟨h,rfl,rfl,rfl⟩|⟨h,rfl,rfl,rfl⟩
   .exact AI (show(10:Y)≠0 by decide) he
   .have e1:=SU (s:=s) (p:=p+n) X;rw[Ra h]at e1;injection e1 with e1 _;rw[e1];rw[Ag X]at i;have bc:=PN (Cp s (p+n));have S:=lp I (Cp s (p+n));obtain⟨lo,ov,F,G,K,hb,P,ai,hK,ao⟩:=ht.tm a Z Z;have bh:=ao (n+1);have bf:=hK (n+1) X;have k:n+1<22:=X;refine(O 4∘Zv (by exact Ho (s:=1) (p:=2) (m:=9223372036854775807) Z Z Bc Bc Z X)∘O 2∘Zv (by exact Oh (m:=9223372036854775807) Z Z Z X)∘O 11) ?_;generalize ba:I*2|||(Cp s (p+n)).toNat=c2 at S ⊢;rw[<-S]at i;have a6:c2<=4194304:=X;refine(Zv (Bp hb (hi:=bo k))∘O 4)<|Lc (fun(d9:Ar)=>(d9=decide (Mn l (n+1) c2),[(0,.pointer (J ⟨L,0,Aa⟩)),(1,.pointer (J ⟨t,0,Aa⟩)),(6,U c2),(7,U (((n+1):Y):H)),(10,U (((c2:H)-(F (n+1):H)):H)),(54,.bool d9)],w2)) ?_ ?_
    .refine(O 6∘Zv (Bp hb (hi:=Tn k))∘O 2)<|Zd 41 (fun k1=>?_) fun k1=>?_
     .obtain⟨f1,f2⟩:=ai (n+1) X (XH X);refine(O 4)<|Zd 45 (fun k2=>?_) fun k2=>?_
      .refine(O 6∘Zv (Bp hb (hi:=Tn k))∘O 3∘Lm (decide ((c2:H)-(F (n+1):H)<(K (n+1):H)))) ?_;rw[decide_eq_decide];unfold Mn;omega
      .refine(O 10∘Lm Aj) ?_;refine(AN fun q=>?_).symm;unfold Mn at q;omega
     .refine(O 14∘Lm Aj) ?_;refine(AN fun q=>?_).symm;unfold Mn at q;omega
    .rintro d9 rfl;refine Zi (fun g=>?_) fun g=>?_
     .obtain⟨q1,q2,q3⟩:=id g;obtain⟨f1,f2⟩:=ai (n+1) X (XH q1);have a3:=lq a1 (Bz.longest l);have al:=dW l (n+1+1) (Bz.longest l+1-(n+1+1));have a9:=XH q1;rw[show n+1+1+(Bz.longest l+1-(n+1+1))=Bz.longest l+1 by omega]at al;have bb:FT l (n+1+1)=FT l (n+1)+Cy l (n+1):=rfl;rw[Ai g]at i;have o:FT l (n+1)+(c2-fst l (n+1))<Ajb (Dt l (Bz.longest l)):=X;have j:=(Vi l (Bz.longest l)).2 _ (BM o);rw[CG o]at i;obtain⟨oA,oc,rfl,_,Q⟩:=P.slice;obtain⟨ob,oo,rfl,_,T⟩:=Q.intAt X;have d:=fun W hW=>T W hW _ o;generalize(Dt l (Bz.longest l))[FT l (n+1)+(c2-fst l (n+1))]=x at i j d;have a5:=Vj l (Bz.longest l);have a4:=Oz V h3;rw[<-f1,<-f2]at o d;refine(Cs 10 (U (((c2-F (n+1)):Y):H)) (e:=by exact Av (Value.int .i64) X)∘O 5∘Zq (by exact fun _=>Bp (hb.drewN _))∘O 5∘Zq (by exact fun _=>Bp (hb.drewN _) (hi:=nM k))∘O 3∘Zq (by exact fun _=>Ca (d _ (Bf.drewN w2 _)))∘O 2∘QW.nil) fun nq=>(BG) ?_;exact⟨.inl ⟨x,p+n+1,i.symm,j.1,h,Z,r.ext (Bf.drewN _ _)⟩,a.trans (Tm.Agk (Bf.drewN _ _) _ _)⟩
     .rw[Ag g]at i;have N:=hs.below (a.below (Below.refl C w) a0 hC);refine(O 6∘Zc (ra l hL h3 c2 (n+1) L B X X A c C w2 (ht.tm a Z Z) N)) ?_;rintro _ w3⟨rfl,y⟩;refine(O 2)<|Zi (fun E=>?_) fun E=>?_
      .rw[Ag E]at i;refine(O 5∘BG) ?_;exact⟨.inr ⟨i.symm,90,⟨Bc,Bc⟩,Z⟩,a.trans (Tm.Agk y _ _)⟩
      .have af:=Dk.1 E;rw[Ai af]at i;obtain⟨m,m1,m2,_,_⟩:=af;refine(O 7)<|Lb ((n+1),c2,w3) ?_;refine⟨X,X,h,?_,r.ext y,a.trans (Tm.Agk y _ _)⟩;grind
def qL{l:Bj}{s:Bh}{fin:Y}:∀(k p:Y) (xs:Bj) (q:Y),Gl l s fin (k+1) p=J (xs,q)->xs≠[]
 |k,p,xs,q,h=>by
  rw[Gl]at h;split at h
  .grind
  .split at h
   .grind
   .obtain⟨r,_,e⟩:=Ni.1 h;grind
def qM(l:Bj)(s:Bh)(a k p:Y):Gl l s a (k+1) p=match ND l s p with
 |none=>Aa
 |some (x,q)=>if x=a then J ([x],q)else(Gl l s a k q).map fun r=>(x::r.1,r.2):=by rfl
def xX(l:Bj)(hL:LOk l)(h3:Ajb l<=258)(s:Bh)(hsl:Ajb s<=1000000000)(p tb B rb D:Y)(hp:p<=8*Ajb s)(A:Aw AC)(c C:Y)(w:Ad)(ht:TabAt w B tb l (.slice A (Ajb l) c))(hs:Sl w C A (BD .i64 l))(hC:C<=D)(hCs:C<=w.heap.size)(hr:RdAt w D rb s p):
 Bn prog 252 [.pointer (J ⟨tb,0,Aa⟩),.pointer (J ⟨rb,0,Aa⟩)] w fun v w'=>(∃x e:Y,v=.tuple #[U (x:H),U (e:H)]/\((e=0/\∃q,ND l s p=J (x,q)/\x<Ajb l/\q<=8*Ajb s/\RdAt w' D rb s q)∨(GX e/\ND l s p=Aa)))/\Tm w w' D Ja:=
 (xW l hL h3 s hsl p tb B rb D hp A c C w ht hs hC hCs hr).mono fun v w'⟨h,t⟩=>by
  grind
def all_s(l:Bj)(hL:LOk l)(h3:Ajb l<=258)(h2:2<=Ajb l)(s:Bh)(ai:Ajb s<=1000000000)(p a:Y)(hp:p<=8*Ajb s)(a7:a<=1000)(A:Aw AC)(c C:Y)(w:Ad)(V:C<=w.heap.size)(hs:Sl w C A (BD .i64 l)):
 Bn prog 205 [.slice A (Ajb l) c,Bl s,U (p:H),U 50,U (a:H)] w fun v w'=>((∃u xs q,Gl l s a 50 p=J (xs,q)/\xs≠[]/\Ajb xs<=50/\(∀x∈xs,x<Ajb l)/\q<=8*Ajb s/\v=.tuple #[u,U (q:H),U ((0:Y):H)]/\CX w' w.heap.size u xs)∨(Gl l s a 50 p=Aa/\∃e:Y,GX e/\v=.tuple #[.slice Aa 0 0,U ((0:Y):H),U (e:H)]))/\Bf w w':=by
 have a5:GJ l=0:=Ai ⟨h2,h3,hL⟩;have a4:=jV l X (fun x hx=>by have:=(hL.pos x hx).2;omega) A c C w hs;refine Bw func205 Z ntmps205 (by rfl) Z ?_;refine(O 9∘Zc a4) ?_;rintro _ B⟨⟨hq,rfl⟩|⟨_,tb,rfl,ht⟩,g⟩
 .exact AI a5 hq
 refine(O 12∘Cb 25∘O 6∘Zc (Pj s p hp X B)) ?_;rintro _ m⟨K,rfl,ao,Q⟩;refine(O 8) ?_;refine OW.as 32 (.bool Aj) Z (Z)<|(O 4)<|Zi (fun a3=>?_) fun a3=>?_
 .omega
 .have hD:C<=B.heap.size:=BC V g.size;have j:=g.trans Q;refine(O 6) ?_;have af:=ht.ext Q;have aj:=hs.ext j;have ab:=j.size;refine Lc (fun((q,o,D,wr):Y×(Bj)×Ah×Ad)=>(Gl l s a 50 p=J (o,q)/\Ajb o<=50/\(∀x∈o,x<Ajb l)/\q<=8*Ajb s/\RdAt wr B.heap.size K s q/\Bo wr m.heap.size 3 1 D (Ajb o) (BD .i64 o)/\Bf w wr,[(15,.pointer (J ⟨K,0,Aa⟩)),(16,D)],wr)) ?_ ?_
  .refine(O 1)<|Lo (fun((q,o,D,wr):Y×(Bj)×Ah×Ad)=>(Ajb o<=50/\(∀x∈o,x<Ajb l)/\q<=8*Ajb s/\(Gl l s a (50-Ajb o) q).map (fun r=>(o++r.1,r.2))=Gl l s a 50 p/\RdAt wr B.heap.size K s q/\Bo wr m.heap.size 3 1 D (Ajb o) (BD .i64 o)/\Tm m wr B.heap.size Ja,[(3,U ((50:Y):H)),(4,U a),(13,.pointer (J ⟨tb,0,Aa⟩)),(15,.pointer (J ⟨K,0,Aa⟩)),(16,D)],wr,50-Ajb o)) (p,([]),(.slice Aa 0 0),m) ?_ ?_
   .refine⟨BE _,Bi,hp,?_,ao,Bo.nil _ _ _ _,Tm.refl _ _ _⟩;simp
   .rintro⟨q,o,D,wr⟩⟨o1,o2,q1,t,al,n,tr⟩;obtain⟨A0,c0,rfl,_,_⟩:=n.slice;have hx:Bf w wr:=tr.below j j.size g.size;refine(O 8)<|Zi (fun hc=>?_) fun hc=>?_
    .obtain⟨k,hk⟩:∃k,50-Ajb o=k+1:=⟨49-Ajb o,X⟩;rw[hk,qM]at t;have a2:=xX l hL h3 s ai q tb w.heap.size K B.heap.size q1 A c C wr (af.tm tr Z Z) (aj.below (tr.below (Below.refl C m) X hD)) hD (BC V hx.size) al;refine(O 6∘Zc a2) ?_;rintro _ w3⟨⟨x,e,rfl,i⟩,t3⟩;refine(O 12) ?_;have E:=tr.trans t3;have x3:Bf w w3:=E.below j j.size g.size;refine Zi (fun I=>?_) fun I=>?_
     .rcases i with⟨rfl,_⟩|⟨W,L⟩
      .exact AI Z I
      .rw[L]at t;refine(O 7∘CT) ?_;grind
     .rcases i with⟨rfl,q2,L,x9,q9,a1⟩|⟨W,L⟩
      .rw[L]at t;simp only at t;have f:=t3.own n Z;refine(O 5∘Qp m.heap.size E.size f) ?_;rintro _ v4 N d S a6;refine(O 8) ?_;replace d:Bo N m.heap.size 3 1 v4 (Ajb o+1) (BD .i64 o++[U (x:H)]):=d;rw[KG]at d;have G:Bo N m.heap.size 3 1 v4 (Ajb (o++[x])) (BD .i64 (o++[x])):=by rw[BA];exact d
       have P:=E.fresh S (fun q hq=>(f.lt q (FC.1 hq)).1);have a0:=a1.tm (Tm.Agt f S) Z Z;have x4:Bf w N:=P.below j j.size g.size
       have T:∀y∈o++[x],y<Ajb l:=fun y hy=>by
        grind
       refine Zi (fun h=>?_) fun h=>?_
       .rw[Ai h]at t;refine(O 1∘Lm (q2,(o++[x]),v4,N)) ?_;grind
       .rw[Ag h]at t;refine(O 2)<|Lb (q2,(o++[x]),v4,N) ?_ (hm:=by dsimp only;rw[BA,Dd];omega);refine⟨by rw[BA,Dd];omega,T,q9,?_,a0,G,P⟩;rw[<-t,BA,Dd,show 50-(Ajb o+1)=k by omega];show _=((Gl l s a k q2).map fun r=>(x::r.1,r.2)).map fun r=>(o++r.1,r.2)
        rw[Option.map_map];congr 1;grind
      .exact AI (Dk.1 I) (by have:=W.1;omega)
    .have:50-Ajb o=0:=X;rw[this,Gl]at t;refine(O 1∘Lm (q,o,_,wr)) ?_;grind
  .rintro⟨q,o,D,wr⟩⟨W,L,e3,e4,e5,e6,e7⟩;obtain⟨A0,c0,rfl,_,_⟩:=e6.slice;refine(O 4∘Zc (SS B.heap.size K s q wr e5)) ?_;rintro _ _⟨rfl,rfl⟩;refine(O 4∘CT) ?_;exact⟨.inl ⟨_,o,q,W,qL 49 p o q W,L,e3,e4,Z,Bo.more e6 ab⟩,e7⟩
end
section
attribute [local irreducible] OW KW QW EX GW NV
open Bz
def sJ{now x:Y}(h:now<x):Hu now x=[Af,Aj]++Hu (now+1) x:=by
 unfold Hu;rw[show x-now=(x-(now+1))+1 by omega,show now-x=0 by omega,show now+1-x=0 by omega,Km,PZ];simp
def sG{now x:Y}(h:x<now):Hu now x=[Af,Af]++Hu (now-1) x:=by
 unfold Hu;rw[show now-x=(now-1-x)+1 by omega,show x-now=0 by omega,show x-(now-1)=0 by omega,Km,PZ];simp
def sI(x:Y):Hu x x=[Aj]:=by simp[Hu]
def sH{now x:Y}(h1:now<=20)(a:x<=20):Ajb (Hu now x)<=41:=by
 unfold Hu;simp;omega
def fG:∀(l:Bj) (now:Y),now<=20->(∀x∈l,x<=20)->Ajb (HR now l)<=41*Ajb l
 |[],_,_,_=>by simp[HR]
 |x::l,now,h1,h2=>by
  have hx:=h2 x Bi;have:=sH h1 hx;have:=fG l x hx (fun y hy=>h2 y Bg);rw[HR,BA,Cz];omega
def UB{l:Bj}(h:∀x∈l,x<=20)(h0:l≠[]):Ajb (dShow l)<=5+41*Ajb l:=by
 unfold dShow;cases l with
 |nil=>grind
 |cons x r=>
  rw[BA,nb_length];have:=fG (x::r) x (h x Bi) h;grind
def tG(l:Bj)(h2:2<=Ajb l)(h3:Ajb l<=258)(E:∀x∈l,1<=x/\x<=20)(A:Aw AC)(c C:Y)(w:Ad)(hs:Sl w C A (BD .i64 l)):
 Bn prog 233 [.slice A (Ajb l) c] w fun v w'=>v=.tuple #[.agg (Ec (dShow l)).toArray,U ((0:Y):H)]/\Bf w w':=by
 obtain⟨b,f,rfl,_,L⟩:=hs.intAt X;have a0:=UB (fun x o=>(E x o).2) (fun e=>by grind);have d:Ajb (dShow l)<=20000:=X;refine Bw func233 Z ntmps233 Be Z ?_;refine(O 2∘Zn) ?_;rintro q n al ai t;refine(O 4)<|Lc (fun(d1:Ar)=>(d1=Aj,[(0,.slice (J ⟨b,f,Aa⟩) (Ajb l) c),(2,.pointer (J ⟨q,0,Aa⟩)),(17,.bool d1)],n)) ?_ ?_
 .refine(O 5)<|Zd 13 (fun c1=>?_) fun c1=>?_
  .omega
  .refine(O 5∘Lm (decide (Ajb l>258))) ?_;exact AN X
 .rintro d1 rfl;refine(O 10)<|Lo (fun(i:Y)=>(i<=Ajb l,[(0,.slice (J ⟨b,f,Aa⟩) (Ajb l) c),(2,.pointer (J ⟨q,0,Aa⟩)),(19,.slice (J ⟨b,f,Aa⟩) (Ajb l) c),(20,U ((Ajb l:Y):H)),(21,U i)],n,Ajb l-i)) 0 ?_ ?_
  .simp
  .rintro i hi;refine(O 5)<|Zi (fun hc=>?_) fun hc=>?_
   .have y:=E _ (BM hc);have k:=L n t i hc;generalize l[i]=x at y k;refine(O 6∘Zv (Ca k)∘O 3)<|Lc (fun(d6:Ar)=>(d6=Aj,[(0,.slice (J ⟨b,f,Aa⟩) (Ajb l) c),(2,.pointer (J ⟨q,0,Aa⟩)),(19,.slice (J ⟨b,f,Aa⟩) (Ajb l) c),(20,U ((Ajb l:Y):H)),(21,U i),(30,.bool d6)],n)) ?_ ?_
    .refine(O 4)<|Zd 27 (fun c1=>?_) fun c1=>?_
     .omega
     .refine(O 4∘Lm (decide (x>20))) ?_;exact AN X
    .rintro d6 rfl;refine(O 7)<|Lb (i+1) ?_;omega
   .have h0:0<Ajb l:=X;have Q:=E _ (BM h0)
    have IU:dShow l=nb 5 l[0]++HR l[0] l:=by
     cases l with
     |nil=>grind
     |cons a r=>rfl
    have p:=fun W g=>L W g 0 h0;generalize l[0]=x0 at Q IU p;refine(O 3∘Zc (Pk n)) ?_;rintro _ w1⟨m,rfl,T,P⟩;refine(O 7) ?_;have x1:=t.trans P;have af:=ai.ext P;refine(Zv (Ca (p w1 x1))∘O 1∘Zc (GQ n.heap.size m [] x0 5 X Bc (show x0<2 ^ 5 by omega) Bc w1 T)) ?_;rintro _ w2⟨rfl,S,t2⟩;refine(O 5) ?_;have x2:Bf w w2:=t2.below x1 x1.size t.size;have ao:=t2.bk af Z;rw[EP]at S;refine(Zv (Ca (p w2 x2))∘O 10)<|Lo (fun((i,now,W,wr):Y×Y×(Ae Ar)×Ad)=>(i<=Ajb l/\1<=now/\now<=20/\W++HR now (l.drop i)=dShow l/\FD wr n.heap.size m W/\Bk wr q 226 [Bl [],U 0]/\Bf w wr,[(0,.slice (J ⟨b,f,Aa⟩) (Ajb l) c),(2,.pointer (J ⟨q,0,Aa⟩)),(6,.pointer (J ⟨m,0,Aa⟩)),(7,U now),(43,.slice (J ⟨b,f,Aa⟩) (Ajb l) c),(44,U ((Ajb l:Y):H)),(45,U i)],wr,Ajb l-i)) (0,x0,(nb 5 x0),w2) ?_ ?_
    .grind
    .rintro⟨i,now,W,wr⟩⟨i1,n1,n2,g,h,I,o⟩;refine(O 5)<|Zi (fun D=>?_) fun D=>?_
     .have y:=E _ (BM D);have k:=L wr o i D;rw[DE D,HR]at g;generalize l[i]=x at y k g;generalize K:HR x (l.drop (i+1))=rest at g;refine(O 6∘Zv (Ca k)∘O 3)<|Lc (fun((now,W,wr):Y×(Ae Ar)×Ad)=>(x<=now/\now<=20/\W++(Hu now x++rest)=dShow l/\FD wr n.heap.size m W/\Bk wr q 226 [Bl [],U 0]/\Bf w wr,[(0,.slice (J ⟨b,f,Aa⟩) (Ajb l) c),(2,.pointer (J ⟨q,0,Aa⟩)),(6,.pointer (J ⟨m,0,Aa⟩)),(7,U now),(9,U x),(43,.slice (J ⟨b,f,Aa⟩) (Ajb l) c),(44,U ((Ajb l:Y):H)),(45,U i)],wr)) ?_ ?_
      .refine(O 1)<|Lo (fun((now,W,wr):Y×(Ae Ar)×Ad)=>(now<=20/\W++(Hu now x++rest)=dShow l/\FD wr n.heap.size m W/\Bk wr q 226 [Bl [],U 0]/\Bf w wr,[(0,.slice (J ⟨b,f,Aa⟩) (Ajb l) c),(2,.pointer (J ⟨q,0,Aa⟩)),(6,.pointer (J ⟨m,0,Aa⟩)),(7,U now),(9,U x),(43,.slice (J ⟨b,f,Aa⟩) (Ajb l) c),(44,U ((Ajb l:Y):H)),(45,U i)],wr,x-now)) (now,W,wr) ?_ ?_
       .grind
       .rintro⟨now,W,wr⟩⟨n2,g,h,I,o⟩;refine(O 7)<|Zi (fun B=>?_) fun B=>?_
        .rw[sJ B]at g;have V:Ajb W<=20000:=by rw[<-g]at d;rw[BA]at d;omega
         refine(O 5∘Zc (GQ n.heap.size m W 2 2 Bc Bc Bc X wr h)) ?_;rintro _ N⟨rfl,j,G⟩;refine(O 7)<|Lb ((now+1),(W++nb 2 2),N) ?_;exact⟨X,by rw[<-g];simp[show nb 2 2=[Af,Aj]from Z],j,G.bk I Z,G.below o o.size t.size⟩
        .refine(O 1∘Lm (now,W,wr)) ?_;grind
      .rintro⟨now,W,wr⟩⟨n1,n2,g,h,I,o⟩;refine(O 1)<|Lc (fun((W,wr):(Ae Ar)×Ad)=>(W++(Hu x x++rest)=dShow l/\FD wr n.heap.size m W/\Bk wr q 226 [Bl [],U 0]/\Bf w wr,[(0,.slice (J ⟨b,f,Aa⟩) (Ajb l) c),(2,.pointer (J ⟨q,0,Aa⟩)),(6,.pointer (J ⟨m,0,Aa⟩)),(7,U x),(9,U x),(43,.slice (J ⟨b,f,Aa⟩) (Ajb l) c),(44,U ((Ajb l:Y):H)),(45,U i)],wr)) ?_ ?_
       .refine(O 1)<|Lo (fun((now,W,wr):Y×(Ae Ar)×Ad)=>(x<=now/\now<=20/\W++(Hu now x++rest)=dShow l/\FD wr n.heap.size m W/\Bk wr q 226 [Bl [],U 0]/\Bf w wr,[(0,.slice (J ⟨b,f,Aa⟩) (Ajb l) c),(2,.pointer (J ⟨q,0,Aa⟩)),(6,.pointer (J ⟨m,0,Aa⟩)),(7,U now),(9,U x),(43,.slice (J ⟨b,f,Aa⟩) (Ajb l) c),(44,U ((Ajb l:Y):H)),(45,U i)],wr,now-x)) (now,W,wr) ?_ ?_
        .grind
        .rintro⟨now,W,wr⟩⟨n1,n2,g,h,I,o⟩;refine(O 7)<|Zi (fun B=>?_) fun B=>?_
         .rw[sG B]at g;have V:Ajb W<=20000:=by rw[<-g]at d;rw[BA]at d;omega
          refine(O 5∘Zc (GQ n.heap.size m W 3 2 Bc Bc Bc X wr h)) ?_;rintro _ N⟨rfl,j,G⟩;refine(O 7)<|Lb ((now-1),(W++nb 2 3),N) ?_;exact⟨X,X,by rw[<-g];simp[show nb 2 3=[Af,Af]from Z],j,G.bk I Z,G.below o o.size t.size⟩
         .obtain rfl:now=x:=X;refine(O 1∘Lm (W,wr)) ?_;grind
       .rintro⟨W,wr⟩⟨g,h,I,o⟩;rw[sI]at g;have V:Ajb W<=20000:=by rw[<-g]at d;rw[BA]at d;omega
        refine(O 2∘Zc (GQ n.heap.size m W 0 1 Bc Bc Bc X wr h)) ?_;rintro _ N⟨rfl,j,G⟩;refine(O 6)<|Lb ((i+1),x,(W++nb 1 0),N) ?_;exact⟨D,y.1,y.2,by rw[K,<-g];simp[show nb 1 0=[Aj]from Z],j,G.bk I Z,G.below o o.size t.size⟩
     .obtain rfl:i=Ajb l:=X;rw[IK,HR,List.append_nil]at g;subst g;refine(O 4∘Zc (NW n.heap.size m _ wr h)) ?_;rintro _ _⟨rfl,rfl⟩;refine(O 1∘Zc (MQ n.heap.size m _ wr h)) ?_;rintro _ _⟨rfl,rfl⟩;refine(O 1∘Zs I) ?_;rintro w7 ab aj;refine(O 2) ?_;have x7:Bf w w7:=Bu o aj o.size Bg;refine(DA ab) ?_;grind
def XY(g a D:Y)(s:Bh)(p n:Y)(l:n<=30)(k:p<=8*Ajb s)(t:Ajb s<=1000000000)(w:Ad)(x:Bk w g 253 [.pointer (J ⟨a,0,Aa⟩)])(j:RdAt w D a s p):
 Bn prog 249 [U (n:H),.pointer (J ⟨g,0,Aa⟩)] w fun v w'=>v=.tuple #[U (((IB s p n).1:Y):H),U (((IB s p n).2.1:Y):H)]/\RdAt w' D a s (IB s p n).2.2/\Tm w w' D Ja:=by
 have i:=MM D a s p n X k X w j
 have m:(IB s p n).1<=1073741824:=by
  obtain⟨v,e,q,f,d⟩:=MD s p n;rw[f];rcases d with⟨_,h,_⟩|⟨_,h,_⟩
  .omega
  .rw[h];have A:=Ky s p n;have y:2 ^ n<=1073741824:=Gb (n:=2) Bi l;omega
 generalize IB s p n=r at i m ⊢;obtain⟨v,e,q⟩:=r;refine Bw func249 Z ntmps249 (by rfl) Z ?_;refine(O 9∘Zc i) ?_;rintro _ o⟨rfl,f,d⟩;refine(O 14∘BG) ?_;grind
def XL(s:Bh)(f p k now:Y)(a:Bj):Fu s (f+1) p (k+1) now a=if now<1∨20<now then Aa else if 8*Ajb s<=p then Aa else if Cp s p=Aj then Fu s f (p+1) k now (a++[now])else if 8*Ajb s<=p+1 then Aa else Fu s f (p+2) (k+1) (if Cp s (p+1)then now-1 else now+1) a:=by rfl
def fJ(s:Bh)(p k now:Y)(a:Bj):Fu s 0 p (k+1) now a=Aa:=by rfl
def sK(s:Bh)(f p now:Y)(a:Bj):Fu s f p 0 now a=J (a,p):=by rw[Fu]
def tI(s:Bh)(p n:Y)(hp:p<=8*Ajb s)(hn:2<=n/\n<=258)(hs:Ajb s<=1000000000)(w:Ad):
 Bn prog 202 [Bl s,U (p:H),U (n:H)] w fun v w'=>(∃u t,∃q e:Y,v=.tuple #[u,U (q:H),U (e:H)]/\CX w' w.heap.size u t/\((e=0/\JI s p n=J (t,q)/\Ajb t=n/\(∀x∈t,1<=x/\x<=20)/\q<=8*Ajb s)∨(GX e/\JI s p n=Aa)))/\Bf w w':=by
 obtain⟨bh,bf⟩:=hn;obtain⟨v0,e0,q0,a8,a0⟩:=MD s p 5;refine Bw func202 Z ntmps202 (by rfl) Z ?_;refine(O 11∘Zc (Pj s p hp X w)) ?_;rintro _ w1⟨Q,rfl,a4,T⟩;refine(Me) ?_;rintro r w2 bb y D;refine(Zt y) ?_;rintro w3 al ai;refine(O 3) ?_;have x2:=T.trans D;have bc:=T.size;have x3:Bf w w3:=Bu x2 ai x2.size Bx;have y3:Bf w1 w3:=Bu D ai D.size Bx;have V:=a4.ext y3;refine Lc (fun(d2:Ar)=>(d2=Aj,[(2,U n),(9,.pointer (J ⟨r,0,Aa⟩)),(29,.bool d2)],w3)) ?_ ?_
 .refine(O 4) ?_;refine OW.as 22 (.bool Aj) Z (Z)<|(O 4)<|Zd 26 (fun c2=>?_) fun c2=>?_
  .omega
  .refine(O 4∘Lm (decide (n>258))) ?_;grind
 .rintro d2 rfl;refine(O 4∘Zv (by exact Gf Z Z)∘O 5) ?_;have c1:=XY r Q w.heap.size s p 5 Bc hp hs w3 al V;rw[a8]at c1;refine(DW c1) ?_;rintro _ A⟨rfl,a5,t4⟩;refine(O 12) ?_;have m:Bf w A:=t4.below x3 x3.size (Bv _);refine Zi (fun he=>?_) fun he=>?_
  .rcases a0 with⟨h,rfl,rfl,rfl⟩|⟨h,rfl,rfl,rfl⟩
   .refine(O 7∘CT) ?_;exact⟨⟨_,[],0,10,Z,CX.nil _ _,.inr ⟨⟨Bc,Bc⟩,Ai h⟩⟩,m⟩
   .exact AI Z he
  .rcases a0 with⟨h,rfl,rfl,rfl⟩|⟨h,rfl,rfl,rfl⟩
   .exact AI (show(10:Y)≠0 by decide) he
   .have aj:JI s p n=Fu s (8*Ajb s-(p+5)) (p+5) n (num (BX s p 5)) []:=Ag X;have ba:=Ky s p 5;generalize num (BX s p 5)=now0 at aj ba;have K:=t4.bk al Z;have a3:=m.size;refine(O 9)<|Lo (fun((q,now,o,vo,f,wr):Y×Y×(Bj)×Ah×Y×Ad)=>(Ajb o<=n/\now<=32/\(∀x∈o,1<=x/\x<=20)/\q<=8*Ajb s/\8*Ajb s<=f+q/\Fu s f q (n-Ajb o) now o=JI s p n/\RdAt wr w.heap.size Q s q/\Bo wr A.heap.size 3 1 vo (Ajb o) (BD .i64 o)/\Tm A wr w.heap.size Ja,[(2,U n),(9,.pointer (J ⟨r,0,Aa⟩)),(10,.func (.func 249) #[] #[.pointer (J ⟨r,0,Aa⟩)]),(11,U now),(13,vo)],wr,n-Ajb o)) ((p+5),now0,([]),(.slice Aa 0 0),(8*Ajb s-(p+5)),A) ?_ ?_
    .exact⟨BE _,X,Bi,h,X,aj.symm,a5,Bo.nil _ _ _ _,Tm.refl _ _ _⟩
    .rintro⟨q,now,o,vo,f,wr⟩⟨o1,n1,o2,q1,f1,a,E,g,P⟩;obtain⟨A0,c0,rfl,_,_⟩:=g.slice;refine(O 8)<|Zi (fun hc=>?_) fun hc=>?_
     .obtain⟨k,hk⟩:∃k,n-Ajb o=k+1:=⟨n-Ajb o-1,X⟩;rw[hk]at a;refine(O 3)<|Lo (fun((q,now,f,wr):Y×Y×Y×Ad)=>(now<=32/\q<=8*Ajb s/\8*Ajb s<=f+q/\Fu s f q (k+1) now o=JI s p n/\RdAt wr w.heap.size Q s q/\Bo wr A.heap.size 3 1 (.slice A0 (Ajb o) c0) (Ajb o) (BD .i64 o)/\Tm A wr w.heap.size Ja,[(2,U n),(9,.pointer (J ⟨r,0,Aa⟩)),(10,.func (.func 249) #[] #[.pointer (J ⟨r,0,Aa⟩)]),(11,U now),(13,.slice A0 (Ajb o) c0)],wr,8*Ajb s-q)) (q,now,f,wr) ?_ ?_
      .grind
      .rintro⟨q,now,f,wr⟩⟨n1,q1,f1,a,E,g,P⟩;have xr:Bf w wr:=P.below m m.size (Bv _);refine(O 3)<|Lc (fun(N:Ar)=>(N=decide (now<1∨20<now),[(2,U n),(9,.pointer (J ⟨r,0,Aa⟩)),(10,.func (.func 249) #[] #[.pointer (J ⟨r,0,Aa⟩)]),(11,U now),(13,.slice A0 (Ajb o) c0),(48,.bool N)],wr)) ?_ ?_
       .refine(O 4)<|Zd 45 (fun c1=>?_) fun c1=>?_
        .refine(O 4∘Lm Af) ?_;grind
        .refine(O 4∘Lm (decide (now>20))) ?_;grind
       .rintro N rfl;refine Zi (fun i=>?_) fun i=>?_
        .have G:JI s p n=Aa:=by
          rw[<-a];cases f with
          |zero=>exact fJ ..
          |succ f=>rw[XL,Ai i]
         refine(O 6∘CT) ?_;exact⟨⟨_,[],0,80,Z,CX.nil _ _,.inr ⟨⟨Bc,Bc⟩,G⟩⟩,xr⟩
        .obtain⟨v1,e1,q2,a7,ao⟩:=MD s q 1;have cc:=XY r Q w.heap.size s q 1 Bc q1 hs wr (P.bk K Z) E;rw[a7]at cc;refine(O 4∘DW cc) ?_;rintro _ w5⟨rfl,ab,t5⟩;refine(O 12) ?_;have j:=P.trans t5;have x5:Bf w w5:=j.below m m.size (Bv _);refine Zi (fun I=>?_) fun I=>?_
         .rcases ao with⟨h1,rfl,rfl,rfl⟩|⟨h1,rfl,rfl,rfl⟩
          .have G:JI s p n=Aa:=by
            rw[<-a];cases f with
            |zero=>exact fJ ..
            |succ f=>rw[XL,Ag i,Ai X]
           refine(O 7∘CT) ?_;exact⟨⟨_,[],0,10,Z,CX.nil _ _,.inr ⟨⟨Bc,Bc⟩,G⟩⟩,x5⟩
          .exact AI Z I
         .rcases ao with⟨h1,rfl,rfl,rfl⟩|⟨h1,rfl,rfl,rfl⟩
          .exact AI (show(10:Y)≠0 by decide) I
          .have e1:=SU (s:=s) (p:=q) X;rw[Ra h1]at e1;injection e1 with e1 _;rw[e1];obtain⟨f',rfl⟩:∃f',f=f'+1:=⟨f-1,X⟩;rw[XL,Ag i,Ag X]at a;have d:=t5.own g Z;have bj:=PN (Cp s q);refine(O 7)<|Zi (fun h0=>?_) fun h0=>?_
           .have L:Cp s q=Aj:=by
             cases hb:Cp s q
             .rfl
             .grind
            rw[Ai L]at a;refine(O 4∘Qp A.heap.size j.size d) ?_;rintro _ v6 S B af a9;refine(O 3) ?_;rw[KG]at B;have a2:Bo S A.heap.size 3 1 v6 (Ajb (o++[now])) (BD .i64 (o++[now])):=by rw[BA];exact B
            have C:=j.fresh af (fun q hq=>(d.lt q (FC.1 hq)).1);have W:=ab.tm (Tm.Agt d af) Z Z;refine Lb ((q+1),now,(o++[now]),v6,f',S) ?_ (hm:=by dsimp only;rw[BA,Dd];omega);grind
           .have L:¬Cp s q=Aj:=fun z=>h0 Bg;rw[Ag L]at a;obtain⟨v2,e2,q3,a6,y⟩:=MD s (q+1) 1;have a1:=XY r Q w.heap.size s (q+1) 1 Bc h1 hs w5 (j.bk K Z) ab;rw[a6]at a1;refine(O 4∘DW a1) ?_;rintro _ S⟨rfl,W,t6⟩;refine(O 12) ?_;have C:=j.trans t6;have x6:Bf w S:=C.below m m.size (Bv _);refine Zi (fun l=>?_) fun l=>?_
            .rcases y with⟨h2,rfl,rfl,rfl⟩|⟨h2,rfl,rfl,rfl⟩
             .rw[Ai X]at a;refine(O 7∘CT) ?_;exact⟨⟨_,[],0,10,Z,CX.nil _ _,.inr ⟨⟨Bc,Bc⟩,a.symm⟩⟩,x6⟩
             .exact AI Z l
            .rcases y with⟨h2,rfl,rfl,rfl⟩|⟨h2,rfl,rfl,rfl⟩
             .exact AI (show(10:Y)≠0 by decide) l
             .have e2:=SU (s:=s) (p:=q+1) X;rw[Ra h2]at e2;injection e2 with e2 _;rw[e2];rw[Ag X]at a;have bi:=PN (Cp s (q+1));refine(O 10∘Cs 11 (U (((if Cp s (q+1)then now-1 else now+1):Y):H)) (e:=by grind))<|Lb ((q+2),(if Cp s (q+1)then now-1 else now+1),f',S) ?_;exact⟨Bg,h2,X,a,W,t6.own d Z,C⟩
     .have:n-Ajb o=0:=X;rw[this,sK]at a;have xr:Bf w wr:=P.below m m.size (Bv _);refine(O 4∘Zv (Bp (P.bk K Z))∘Zc (SS w.heap.size Q s q wr E)) ?_;rintro _ _⟨rfl,rfl⟩;refine(O 4∘CT) ?_;exact⟨⟨_,o,q,0,Z,Bo.more g a3,.inl ⟨Z,a.symm,X,o2,q1⟩⟩,xr⟩
structure Rows(w:Ad)(B:Y)(vs:Bm)(ls:Ae (Bj)):Prop where
 len:Ajb vs=Ajb ls
 row:∀i (h:i<Ajb ls),∃A c,vs[i]? =J (.slice A (Ajb ls[i]) c)/\Sl w B A (BD .i64 ls[i])
def Rows.below{w w':Ad}{B:Y}{vs:Bm}{ls:Ae (Bj)}(h:Rows w B vs ls)(hb:Below B w w'):Rows w' B vs ls:=
 ⟨h.len,fun i hi=>by
  obtain⟨A,c,h1,h2⟩:=h.row i hi;exact⟨A,c,h1,h2.below hb⟩⟩
def Rows.ext{w w':Ad}{B:Y}{vs:Bm}{ls:Ae (Bj)}(h:Rows w B vs ls)(hx:Bf w w'):Rows w' B vs ls:=
 ⟨h.len,fun i hi=>by
  obtain⟨A,c,h1,h2⟩:=h.row i hi;exact⟨A,c,h1,h2.ext hx⟩⟩
structure PlanAt(w:Ad)(B:Y)(cs:Bm)(p:Pl):Prop where
 ex:∃A1 c1 A2 c2 vs,cs=[.slice A1 (Ajb p.tabs) c1,.slice A2 (Ajb p.picks) c2]/\Sl w B A1 vs/\Rows w B vs p.tabs/\Sl w B A2 (BD .i64 p.picks)
def PlanAt.ext{w w':Ad}{B:Y}{a:Bm}{p:Pl}(h:PlanAt w B a p)(hx:Bf w w'):PlanAt w' B a p:=by
 obtain⟨A1,k,A2,j,d,i,g,f,e⟩:=h;exact⟨A1,k,A2,j,d,i,g.ext hx,f.ext hx,e.ext hx⟩
def PlanAt.below{w w':Ad}{B:Y}{d:Bm}{p:Pl}(h:PlanAt w B d p)(a:Below B w w'):PlanAt w' B d p:=by
 obtain⟨A1,l,A2,k,e,j,i,g,f⟩:=h;exact⟨A1,l,A2,k,e,j,i.below a,g.below a,f.below a⟩
def jg(n:Y)(r:n<=1000)(w:Ad):Bn prog 199 [U (n:H)] w fun v w'=>∃g,v=.slice (J ⟨g,0,Aa⟩) n n/\w.heap.size<=g/\Bk w' g 3 (BD .i64 (BF n))/\Bf w w':=by
 refine Bw func199 Z ntmps199 (by rfl) Z ?_;refine(O 7∘Gk) ?_;rintro g l h t m;refine(O 10)<|Lo (fun((i,wr):Y×Ad)=>(i<=n/\Bk wr g 3 (fill (fun(j:Y)=>Value.int .i64 (j:H)) (U 0) n i)/\Mo l wr [g],[(3,.slice (J ⟨g,0,Aa⟩) n n),(8,U n),(9,U i)],wr,n-i)) (0,l) ?_ ?_
 .exact⟨BE _,Ce,Mo.refl _ _⟩
 .rintro⟨i,wr⟩⟨q,d,o⟩;refine(O 5)<|Zi (fun k=>?_) fun k=>?_
  .refine(O 13∘Zt d (hlt:=by rw[QJ q];omega)) ?_;rintro p a e;refine(O 6) ?_;rw[QK (f:=fun(j:Y)=>Value.int .i64 (j:H)) k]at a;refine Lb ((i+1),p) ?_;exact⟨k,a,o.trans e⟩
  .obtain rfl:i=n:=X;rw[QI,jA]at d;refine(O 6∘Br) ?_;exact⟨g,Z,h,d,Bu m o m.size Bg⟩
def vI{l:Bj}{k:Y}(h:k<Ajb l):Value.int .i64 ((l[k]:Y):H)::(BD .i64 l).eraseIdx k=BD .i64 (EF l k):=by
 unfold EF BD;rw[Co,Ck,BR h,WB,WB,DT,TP,List.map_drop];rfl
def jd(l:Bj)(k g:Y)(hk:k<Ajb l)(A:Ajb l<=1000)(w:Ad)(h:Bk w g 3 (BD .i64 l)):
 Bn prog 201 [.slice (J ⟨g,0,Aa⟩) (Ajb l) (Ajb l),U (k:H)] w fun v w'=>v=U ((l.getD k 0:Y):H)/\Bk w' g 3 (BD .i64 (EF l k))/\Mo w w' [g]:=by
 have j:(BD .i64 l)[k]? =J (U ((l[k]:Y):H)):=by rw[Fx hk,CG hk]
 have B:Ajb (BD .i64 l)=Ajb l:=DO _ _;have r:Ajb ((BD .i64 l).take k)=k:=by rw[BZ];omega
 have e:=kG (cap:=Ajb l) j Z (fun q=>by omega);rw[vI hk]at e;have d:∀u∈(BD .i64 l).take k,u.oneCell'=Af:=fun u p=>Lz u (Kl p);refine Bw func201 Z ntmps201 Be Z ?_;refine(O 9∘Zv (Bp h (hi:=j))∘O 3∘Yr 8 (fun w'=>True) AB) fun t=>(Gv [0,1,2]∘Yw 3 (he:=by exact fun _ _=>cO underlying51 BV Z (i:=1) Z Z ⟨X,X,Bv _⟩)∘Gv [4,5]∘Yw 6 (he:=by exact fun _ _=>Wm underlying51 BV Z Z ⟨X,Bv _⟩)) ?_;have a:=h.drew.Ahd 0 k;rw[Ot]at a;refine Ws 7 _ Z Be Z Z underlying51 underlying51 BV Z Z (a) X (d) (h.drew) Bg ?_;rintro y o n;refine⟨AB,fun t=>?_⟩;refine(Yd∘O 5∘Zt o (hlt:=by grind)) ?_;rintro x f m;refine(O 6∘Br) ?_;rw[e]at f;rw[CG hk];exact⟨Z,f,((Mo.Agk (Bf.drew w) _).trans n).trans m⟩
def YL(m:Y)(hm:m<=1000000000)(w:Ad):Bn prog 234 [U (m:H)] w fun v w'=>v=U ((grpN m:Y):H)/\w=w':=by
 refine Bw func234 Z ntmps234 (by rfl) Z ?_;refine(O 12∘Br) ?_;exact⟨Av (Value.int .i64) (Av Nd (show(m+50-1)/50=(m+49)/50 by omega)),Z⟩
def jk(l:Bj)(k:Y):(l.drop (k*50)).take (min (Ajb l) ((k+1)*50)-k*50)=EA l k:=by
 unfold EA;rw[Qi 50 k];simp;omega
def jl(l:Bj){k:Y}(h:k<grpN (Ajb l)):Ajb (EA l k)=min (Ajb l) ((k+1)*50)-k*50/\k*50<Ajb l:=by
 unfold grpN at h;have e:=jk l k;grind
def vG(l:Bj)(i m:Y):((BD .i64 l).drop i).take m=BD .i64 ((l.drop i).take m):=by
 unfold BD;simp
def ji(l:Bj)(k:Y)(hk:k<grpN (Ajb l))(f:Ajb l<=1000000000)(A:Aw AC)(c C:Y)(a:Ajb l<=c)(w:Ad)(e:Sl w C A (BD .i64 l)):
 Bn prog 269 [.slice A (Ajb l) c,U (k:H)] w fun v w'=>(∃A' c',v=.slice A' (Ajb (EA l k)) c'/\Sl w C A' (BD .i64 (EA l k)))/\w=w':=by
 obtain⟨h,g⟩:=jl l hk;refine Bw func269 Z ntmps269 (by rfl) Z ?_;refine(O 15) ?_;refine WY Z Z underlying51 BV Z Z Z (⟨X,X,a⟩) (e) (DO _ _) ?_;rintro A' d;refine(O 2∘Br) ?_;rw[vG,jk]at d;simp_all
def uH(m:Y)(h1:1<=m)(hm:m<=1000000000)(w:Ad):Bn prog 267 [U (m:H)] w fun v w'=>v=.tuple #[U ((Gs m:Y):H),U ((0:Y):H)]/\w=w':=by
 refine Bw func267 Z ntmps267 (by rfl) Z ?_;refine(O 11)<|Zi (fun h=>?_) fun h=>?_
 .omega
 .refine(O 4∘Zv (by exact oV (ks:=[0,1,2,3]) (zs:=[U 0,U 0,U 0,U 0]) underlying373 oi BV Z Z Z)∘O 3)<|Lo (fun(i:Y)=>(i<=4/\(∀j,j<i->[200,600,1200,2400].getD j 0<=m),[(0,U m),(8,.agg (BD .i64 [200,600,1200,2400]).toArray),(9,U i)],w,4-i)) 0 ?_ ?_
  .simp
  .rintro i⟨n,a⟩;refine(O 5)<|Zi (fun g=>?_) fun g=>?_
   .have o:[200,600,1200,2400].getD i 0<=2400:=by
     rcases(show i=0∨i=1∨i=2∨i=3 by omega)with rfl|rfl|rfl|rfl<;>decide
    refine(O 6∘Zv (by exact Ty underlying373 underlying3 Z BV Z Z X (Fx (show i<Ajb [200,600,1200,2400]from g)))∘O 9)<|Zi (fun d=>?_) fun d=>?_
    .have e:Gs m=i+2:=by
      unfold Gs;have f:=fun j k=>a j k;rcases(show i=0∨i=1∨i=2∨i=3 by omega)with rfl|rfl|rfl|rfl
      .grind
      .grind
      .have:=f 1 Bc;grind
      .have:=f 2 Bc;grind
     refine(O 7∘BG) ?_;simp_all
    .refine(O 6)<|Lb (i+1) ?_;grind
   .have l:=a 3 X;simp at l
    have e:Gs m=6:=by
     unfold Gs;rw[Ag X,Ag X,Ag X,Ag X]
    refine(O 6∘BG) ?_;grind
def kh(l:Bj)(n:Y)(o:3<=n/\n<=258)(h1:1<=Ajb l)(B:Ajb l<=1638350)(hl:∀x∈l,x<n)(A:Aw AC)(c C:Y)(w:Ad)(m:Sl w C A (BD .i64 l)):
 Bn prog 266 [.slice A (Ajb l) c,U (n:H)] w fun v w'=>v=.bool Af/\w=w':=by
 obtain⟨t,r⟩:=o;refine Bw func266 Z ntmps266 (by rfl) Z ?_;refine(O 6)<|Lc (fun(j:Ar)=>(j=Aj,[(0,.slice A (Ajb l) c),(1,U n),(22,.bool j)],w)) ?_ ?_
 .refine(O 4)<|Zd 9 (fun k=>?_) fun k=>?_
  .omega
  .refine(O 4)<|Zd 13 (fun q=>?_) fun q=>?_
   .omega
   .refine(O 5)<|Zd 18 (fun p=>?_) fun p=>?_
    .omega
    .refine(O 5∘Lm (decide (Ajb l>1638350))) ?_;exact AN X
 .rintro j rfl;refine(O 10)<|Lo (fun(i:Y)=>(i<=Ajb l,[(0,.slice A (Ajb l) c),(1,U n),(23,.slice A (Ajb l) c),(24,U ((Ajb l:Y):H)),(25,U i)],w,Ajb l-i)) 0 ?_ ?_
  .simp
  .rintro i y;refine(O 5)<|Zi (fun e=>?_) fun e=>?_
   .obtain⟨b,f,rfl,_,g⟩:=m.intAt X;have d:=hl _ (BM e);have a:=g w (Bf.refl _) i e;generalize l[i]=x at d a;refine(O 6∘Zv (Ca a)∘O 3)<|Lc (fun(h:Ar)=>(h=Aj,[(0,.slice (J ⟨b,f,Aa⟩) (Ajb l) c),(1,U n),(23,.slice (J ⟨b,f,Aa⟩) (Ajb l) c),(24,U ((Ajb l:Y):H)),(25,U i),(35,.bool h)],w)) ?_ ?_
    .refine(O 4)<|Zd 31 (fun k=>?_) fun k=>?_
     .omega
     .refine(O 5∘Lm (decide (x≥n))) ?_;exact AN X
    .rintro h rfl;refine(O 7)<|Lb (i+1) ?_;omega
   .refine(O 5∘Br) ?_;simp
def Sl.at3{w:Ad}{B:Y}{A:Aw AC}{xs:Bm}(h:Sl w B A xs)(h0:0<Ajb xs):∃b o,A=J ⟨b,o,Aa⟩/\b<B/\∀W,Below B w W->∀j u,xs[j]? =J u->W.cell? ⟨b,o+j,Aa⟩=J u:=by
 obtain⟨b,o,f,a,_⟩:=h.at_ h0;refine⟨b,o,f,a,fun W d=>?_⟩;obtain⟨i,g,e,_,q⟩:=(h.below d).at_ h0;grind
def YH(p:Pl)(n:Y)(hp:p.Ok n)(B:Y)(cs:Bm)(w:Ad)(h:PlanAt w B cs p)(hB:B<=w.heap.size):
 Bn prog 204 [.agg cs.toArray] w fun v w'=>v=.bool Af/\Bf w w':=by
 obtain⟨A1,c1,A2,c2,vs,rfl,s1,y,s3⟩:=h;obtain⟨⟨t1,t2⟩,⟨p1,p2⟩,g,⟨l1,l2⟩,G,I⟩:=hp;obtain⟨b1,o1,rfl,_,j⟩:=s1.at3 (by rw[y.len];omega);refine Bw Bi Z ntmps204 (by rfl) Z ?_;refine(O 2) ?_;refine Dz Z Z Z ?_;rintro r d Q ab E;refine(O 4) ?_;have f:=E.mono hB;refine Lc (fun P=>(P=Aj,[(1,.pointer (J ⟨r,0,Aa⟩)),(28,.bool P)],d)) ?_ ?_
 .refine(O 6)<|Zd 11 (fun m=>?_) fun m=>?_
  .omega
  .refine(O 6)<|Zd 17 (fun C=>?_) fun C=>?_
   .omega
   .refine(O 6)<|Zd 23 (fun k3=>?_) fun k3=>?_
    .omega
    .refine(O 6∘Lm (decide (Ajb p.picks>32767))) ?_;grind
 .rintro P rfl;refine(O 11)<|Lo (fun i=>(i<=Ajb p.tabs,[(1,.pointer _),(30,.slice _ _ _),(31,.int _ _),(32,.int _ i)],d,Ajb p.tabs-i)) 0 ?_ ?_
  .omega
  .rintro i hi;refine(O 5)<|Zi (fun o=>?_) fun o=>?_
   .obtain⟨A,c,W,V⟩:=y.row i o;obtain⟨A0,c0,T,f2⟩:=y.row 0 X;have L:=g _ (BM (show 0<Ajb p.tabs by omega));have K:=g _ (BM o);have a:=G _ (BM o);generalize p.tabs[i]=t at W V K a;generalize p.tabs[0]=t0 at T f2 L;have S:GJ t=0:=Ai ⟨X,X,a⟩;refine(O 6∘Zv (Ca (j d f i _ W))∘O 3)<|Lc (fun(N:Ar)=>(N=Aj,[(1,.pointer (J ⟨r,0,Aa⟩)),(30,.slice (J ⟨b1,o1,Aa⟩) (Ajb p.tabs) c1),(31,U ((Ajb p.tabs:Y):H)),(32,U i),(53,.bool N)],d)) ?_ ?_
    .refine(O 6∘Zv (Ca (j d f 0 _ T))∘O 3)<|Zd 44 (fun m=>?_) fun m=>?_
     .omega
     .refine(O 5)<|Zd 49 (fun C=>?_) fun C=>?_
      .omega
      .refine(O 1∘Zc (Zf t X (fun x hx=>by have:=(a.pos x hx).2;omega) A c B d (V.below f))) ?_;rintro _ _⟨rfl,rfl⟩;refine(O 3∘Lm (decide (GJ t≠0))) ?_;grind
    .rintro N rfl;refine(O 7)<|Lb (i+1) ?_;exact o
   .refine(O 10)<|Lo (fun(i:Y)=>(i<=Ajb p.picks,[(1,.pointer (J ⟨r,0,Aa⟩)),(56,.slice A2 (Ajb p.picks) c2),(57,U ((Ajb p.picks:Y):H)),(58,U i)],d,Ajb p.picks-i)) 0 ?_ ?_
    .exact BE _
    .rintro i hi;refine(O 5)<|Zi (fun e=>?_) fun e=>?_
     .obtain⟨b2,o2,rfl,_,q⟩:=s3.at3 (by rw[DO];omega);have D:=I _ (BM e);have k:=q d f i _ (by rw[Fx e,CG e]);generalize p.picks[i]=x at D k;refine(O 6∘Zv (Ca k)∘O 3)<|Lc (fun(l:Ar)=>(l=Aj,[(1,.pointer (J ⟨r,0,Aa⟩)),(56,.slice (J ⟨b2,o2,Aa⟩) (Ajb p.picks) c2),(57,U ((Ajb p.picks:Y):H)),(58,U i),(70,.bool l)],d)) ?_ ?_
      .refine(O 4)<|Zd 64 (fun m=>?_) fun m=>?_
       .omega
       .refine(O 7∘Lm (decide (x≥Ajb p.tabs))) ?_;exact AN X
      .rintro l rfl;refine(O 7)<|Lb (i+1) ?_;omega
     .refine(O 5∘Br) ?_;grind
def all_u(l:Bj)(hL:LOk l)(h3:Ajb l<=258)(h2:2<=Ajb l)(s:Bh)(hsl:Ajb s<=1000000000)(p fin:Y)(hp:p<=8*Ajb s)(hfin:fin<=1000)(A:Aw AC)(c C:Y)(w:Ad)(hCw:C<=w.heap.size)(hs:Sl w C A (BD .i64 l)):
 Bn prog 205 [.slice A (Ajb l) c,Bl s,U (p:H),U 50,U (fin:H)] w fun v w'=>(∃u xs,∃q e:Y,v=.tuple #[u,U (q:H),U (e:H)]/\CX w' w.heap.size u xs/\((e=0/\Gl l s fin 50 p=J (xs,q)/\xs≠[]/\Ajb xs<=50/\(∀x∈xs,x<Ajb l)/\q<=8*Ajb s)∨(GX e/\Gl l s fin 50 p=Aa)))/\Bf w w':=
 (all_s l hL h3 h2 s hsl p fin hp hfin A c C w hCw hs).mono fun v w'⟨h,x⟩=>by
  refine⟨?_,x⟩;rcases h with⟨u,xs,q,h1,h2,h3,h4,h5,h6,h7⟩|⟨h1,e,h2,h3⟩
  .grind
  .exact⟨_,[],0,e,h3,CX.nil _ _,.inr ⟨h2,h1⟩⟩
open Classical in
def uL(a:Ae (Bj))(s:Bh)(d k:Y)(ks:Bj)(p:Y)(e:Bj):Is a s d (k::ks) p e=match Gl (a.getD k []) s d 50 p with
 |none=>Aa
 |some (xs,q)=>if xs.getLast? =J d then J (e++xs,q)else Is a s d ks q (e++xs):=by rfl
def uM(a:Ae (Bj))(s:Bh)(d p:Y)(e:Bj):Is a s d [] p e=Aa:=by rfl
def Bo.other{w w':Ad}{B T s n:Y}{v v2:Ah}{xs:Bm}(h:Bo w B T s v n xs)(hg:w.grownBy w' v2.ownBlock)(h2:∀k,v2.ownBlock=J k->k<B):Bo w' B T s v n xs:=
 h.grown hg (by
  cases e:v.ownBlock with
  |none=>simp
  |some k=>exact .inr fun q=>by have:=h2 k q.symm;have:=(h.lt k e).1;omega)
def get_s(p:Pl)(n:Y)(hp:p.Ok n)(B:Y)(cs:Bm)(s:Bh)(a4:Ajb s<=1000000000)(a:Y)(ha:a<=8*Ajb s)(w:Ad)(h:PlanAt w B cs p)(hB:B<=w.heap.size):
 Bn prog 162 [.agg cs.toArray,Bl s,U (a:H)] w fun v w'=>(∃u xs,∃q e:Y,v=.tuple #[u,U (q:H),U (e:H)]/\CX w' w.heap.size u xs/\((e=0/\Is p.tabs s (n-1) p.picks a []=J (xs,q)/\Ajb xs<=1638350/\(∀x∈xs,x<n)/\q<=8*Ajb s)∨(GX e/\Is p.tabs s (n-1) p.picks a []=Aa)))/\Bf w w':=by
 have a6:=h;obtain⟨A1,c1,A2,c2,vs,rfl,s1,s2,s3⟩:=h;obtain⟨⟨t1,t2⟩,⟨p1,p2⟩,D,⟨l1,l2⟩,a7,a8⟩:=id hp;obtain⟨b1,o1,rfl,_,E⟩:=s1.at3 (by rw[s2.len];omega);obtain⟨b2,o2,rfl,_,aj⟩:=s3.at3 (by rw[DO];omega);obtain⟨Az,cz,f1,f2⟩:=s2.row 0 X;have a9:=D _ (BM (show 0<Ajb p.tabs by omega));generalize p.tabs[0]=t0 at f1 f2 a9;refine Bw func162 Z ntmps162 (by rfl) Z ?_;refine(O 2) ?_;refine Dz Z Z Z ?_;rintro pb w1 bf af K;refine(O 7) ?_;have Q:Below B w w1:=K.mono hB;have ao:=K.size;refine(Zv (BW af)∘Zc (YH p n hp B _ w1 (a6.below Q) X)) ?_;rintro _ S⟨rfl,f⟩;refine(O 10)<|Zd 21 (fun k1=>?_) fun k1=>?_
 .omega
 .refine(O 7∘Cb 27∘O 5) ?_;have x2:=K.trans f;have bb:=af.ext f;refine(O 2∘Zv (Ca (E S (Q.trans (f.mono X)) 0 _ f1))∘O 17∘Cs 9 (U (((n-1):Y):H)) (e:=by grind))<|Lo (fun((i,q,o,vo,wr):Y×Y×(Bj)×Ah×Ad)=>(i<=Ajb p.picks/\q<=8*Ajb s/\Ajb o<=50*i/\(∀x∈o,x<n)/\Is p.tabs s (n-1) (p.picks.drop i) q o=Is p.tabs s (n-1) p.picks a []/\Bo wr S.heap.size 3 1 vo (Ajb o) (BD .i64 o)/\Bf S wr,[(1,Bl (s)),(2,U q),(3,.pointer (J ⟨pb,0,Aa⟩)),(9,U (((n-1):Y):H)),(10,vo),(35,.slice (J ⟨b2,o2,Aa⟩) (Ajb p.picks) c2),(36,U ((Ajb p.picks:Y):H)),(37,U i)],wr,Ajb p.picks-i)) (0,a,([]),(.slice Aa 0 0),S) ?_ ?_
  .exact⟨BE _,ha,BE _,Bi,Z,Bo.nil _ _ _ _,Bf.refl _⟩
  .rintro⟨i,q,o,vo,wr⟩⟨hi,hq,ho,bj,d,g,r⟩;have xr:=x2.trans r;have P:=(Q.trans (f.mono X)).trans (r.mono (BC hB x2.size));obtain⟨A0,c0,rfl,_,_⟩:=g.slice;refine(O 5)<|Zi (fun hc=>?_) fun hc=>?_
   .have y:=a8 _ (BM hc);have G:=aj wr P i _ (by rw[Fx hc,CG hc]);rw[DE hc,uL]at d;generalize p.picks[i]=k at y G d;obtain⟨At,ct,e1,e2⟩:=s2.row k y;have a3:=D _ (BM y);have C:=a7 _ (BM y);rw[show p.tabs.getD k []=p.tabs[k]from by grind]at d;generalize p.tabs[k]=t at e1 e2 a3 C d;refine(O 6∘Zv (Ca G)∘O 5∘Zv (Bp (bb.ext r))∘O 2∘Zv (Ca (E wr P k _ e1))∘O 3∘Zc (all_u t C X X s a4 q (n-1) hq X At ct B wr (BC hB xr.size) (e2.below P))) ?_;rintro _ w3⟨⟨u,xs,q3,e,rfl,A,m⟩,I⟩;refine(O 14)<|Zi (fun L=>?_) fun L=>?_
    .rcases m with⟨rfl,_⟩|⟨g1,g2⟩
     .exact AI Z L
     .rw[g2]at d;refine(O 7∘CT) ?_;exact⟨⟨_,[],0,e,Z,CX.nil _ _,.inr ⟨g1,d.symm⟩⟩,xr.trans I⟩
    .rcases m with⟨rfl,g2,a0,bi,a1,a5⟩|⟨g1,g2⟩
     .rw[g2]at d;simp only at d;have bh:=Na.2 a0;have N:=dq (l:=xs);obtain⟨Ax,cx,rfl,_,V⟩:=A.sl;have bc:=a1 _ (BM (show Ajb xs-1<Ajb xs by omega));rw[BR (show Ajb xs-1<Ajb xs by omega)]at N;obtain⟨bx,ox,rfl,_,_⟩:=V.intAt X;have x3:=r.trans I;refine(O 5) ?_;refine HL Z Z underlying51 BV Z Bc Z Z (x3) (g.ext I) (Src.Agn underlying51 V (by rw[DO,IP]) Lz Bc) CA X ?_;rintro v4 w4 ab a2 ba _;obtain⟨_,_,ex,_,T⟩:=CX.sl (Bo.other A ba fun k hk=>(g.lt k hk).2);cases ex;obtain⟨_,_,ey,_,ai⟩:=T.intAt X;cases ey;have W:Bo w4 S.heap.size 3 1 v4 (Ajb (o++xs)) (BD .i64 (o++xs)):=by rw[BA,US];exact ab
      refine(O 14∘Zv (Ca (ai w4 (Bf.refl _) _ (show Ajb xs-1<Ajb xs by omega)))∘O 3) ?_
      have al:∀x∈o++xs,x<n:=fun x hx=>by
       grind
      refine Zi (fun j=>?_) fun j=>?_
      .rw[N,Ai (Av J j)]at d;refine(O 8∘CT) ?_;refine⟨⟨_,o++xs,q3,0,Z,W.more (BC ao f.size),.inl ⟨Z,d.symm,by rw[BA];omega,al,a5⟩⟩,x2.trans a2⟩
      .rw[N,Ag (fun z=>j Bg)]at d;refine(O 6)<|Lb ((i+1),q3,(o++xs),v4,w4) ?_;grind
     .exact AI (Dk.1 L) (by have:=g1.1;omega)
   .obtain rfl:i=Ajb p.picks:=X;rw[IK,uM]at d;refine(O 7∘CT) ?_;exact⟨⟨_,[],0,110,Z,CX.nil _ _,.inr ⟨⟨Bc,Bc⟩,d.symm⟩⟩,xr⟩
def GF(w:Ad)(B:Y)(vs:Bm)(ls:Ae (Bj)):Prop:=Ajb vs=Ajb ls/\∀i (h:i<Ajb ls),∃u,vs[i]? =J u/\CX w B u ls[i]
section
variable{w w':Ad}{B C g:Y}{vs:Bm}{ls:Ae (Bj)}{u:Ah}{l:Bj}{p:Ay->Ar}
def GF.keep(h:GF w B vs ls)(k:∀u l,CX w B u l->CX w' B u l):GF w' B vs ls:=
 ⟨h.1,fun i hi=>by obtain⟨u,h1,h2⟩:=h.2 i hi;grind⟩
def GF.ext(h:GF w B vs ls)(hx:Bf w w'):GF w' B vs ls:=h.keep fun _ _ q=>q.ext hx
def GF.mo(h:GF w B vs ls)(hm:Mo w w' [g])(hg:g<B):GF w' B vs ls:=h.keep fun _ _ q=>Bo.mo q hm fun k hk=>by have:=(q.lt k hk).1;grind
def GF.tm(h:GF w B vs ls)(t:Tm w w' C p)(hp:p 3=Aj):GF w' B vs ls:=h.keep fun _ _ q=>t.own q hp
def GF.snoc(h:GF w B vs ls)(d:CX w B u l):GF w B (vs++[u]) (ls++[l]):=by
 refine⟨by simp[h.1],fun i a=>?_⟩;rw[BA,Dd]at a;rcases Df i (Ajb ls)with q|q
 .rw[FN (by rw[h.1];omega),WF q];exact h.2 i q
 .obtain rfl:i=Ajb ls:=X;exact⟨u,by rw[Ii (by rw[h.1];simp),h.1,Fa];rfl,Bg⟩
def GF.rows(h:GF w B vs ls):Rows w w.heap.size vs ls:=
 ⟨h.1,fun i hi=>by
  obtain⟨u,h1,h2⟩:=h.2 i hi;obtain⟨A,c,rfl,_,h3⟩:=h2.sl;grind⟩
def Xm{a:Bm}{n:Y}{z v:Ah}{i:Y}(h:i<n)(d:Ajb a=i):(a++BJ (n-i) z).set i v=(a++[v])++BJ (n-(i+1)) z:=by
 subst d;rw[Nc _ _ (Bv _),Fa,show n-Ajb a=(n-(Ajb a+1))+1 by omega,Km];simp
end
def lQ(p:Pl)(l:Bj){i:Y}(h:i<Ajb l):Ev p (l.take (i+1))=Ev p (l.take i)++Lp (p.tabs.getD (p.picks.getD (i/50) 0) []) l[i]:=by
 unfold Ev;rw[du h,List.zipIdx_append,IL,BZ,Hb X];simp
def jh(p:Pl)(n:Y)(hp:p.Ok n)(l:Bj)(c7:Ajb l<=1638350)(cf:grpN (Ajb l)<=Ajb p.picks)(bm:∀x∈l,x<n)(B:Y)(cs:Bm)(A:Aw AC)(c:Y)(w:Ad)(h:PlanAt w B cs p)(hs:Sl w B A (BD .i64 l))(hB:B<=w.heap.size):
 Bn prog 180 [.agg cs.toArray,.slice A (Ajb l) c] w fun v w'=>v=.tuple #[.agg (Ec (Ev p l)).toArray,U ((0:Y):H)]/\Bf w w':=by
 have b8:=h;obtain⟨A1,c1,A2,c2,vs,rfl,s1,s2,s3⟩:=h;obtain⟨⟨t1,t2⟩,⟨p1,p2⟩,P,⟨l1,l2⟩,bj,bl⟩:=id hp;obtain⟨b1,o1,rfl,_,ai⟩:=s1.at3 (by rw[s2.len];omega);obtain⟨b2,o2,rfl,_,b4⟩:=s3.at3 (by rw[DO];omega);obtain⟨Az,cz,f1,f2⟩:=s2.row 0 X;have cg:=P _ (BM (show 0<Ajb p.tabs by omega));generalize p.tabs[0]=t0 at f1 f2 cg;refine Bw func180 Z ntmps180 Be Z ?_;refine(O 2) ?_;refine Dz Z Z Z ?_;rintro pb w1 cp bx bc;refine(Zn) ?_;rintro ob w2 co cd a4;refine(O 4) ?_;have x2:=bc.trans a4;have a8:=bx.ext a4;have c3:=bc.size;have c0:=a4.size;have c6:ob≠pb:=by have:=bx.lt;omega
 have bs:Below B w w2:=x2.mono hB;refine Lc (fun(j:Ad)=>(Bf w2 j,[(1,.slice A (Ajb l) c),(2,.pointer (J ⟨pb,0,Aa⟩)),(4,.pointer (J ⟨ob,0,Aa⟩)),(25,.bool Aj)],j)) ?_ ?_
 .refine(Yr 12 (fun w'=>Bf w2 w') (Bf.drew w2)) fun hS=>(Yw 0 (he:=by exact fun _ ba=>BW (a8.ext ba))∘Yc 1 (YH p n hp B _ _ (b8.below (bs.trans (hS.mono X))) (by simp;omega))) ?_;rintro _ j⟨rfl,G⟩;refine⟨hS.trans G,fun hS=>?_⟩;refine(Gv [2,3,4,5,7]∘Yw 8 (he:=by exact fun _ ba=>Bp (a8.ext ba))∘Gv [9]∘Yc 6 (YL (Ajb l) X _)) ?_;rintro _ _⟨rfl,rfl⟩;refine⟨hS,fun hS=>?_⟩;refine(Gv [10,11]∘Yd∘Cb 25∘Lm j) ?_;omega
 .rintro j G;refine(O 10) ?_;have x3:=x2.trans G;have a7:=a8.ext G;have cc:=cd.ext G;have cw:=G.size;have S:Below B w j:=x3.mono hB;refine Lo (fun(i:Y)=>(i<=Ajb l,[(1,.slice A (Ajb l) c),(2,.pointer (J ⟨pb,0,Aa⟩)),(4,.pointer (J ⟨ob,0,Aa⟩)),(27,.slice A (Ajb l) c),(28,U ((Ajb l:Y):H)),(29,U i)],j,Ajb l-i)) 0 ?_ ?_
  .simp
  .rintro i hi;refine(O 5)<|Zi (fun hc=>?_) fun hc=>?_
   .obtain⟨b,f,rfl,_,a9⟩:=hs.intAt X;have a2:=bm _ (BM hc);have q:=a9 j x3 i hc;generalize l[i]=x at a2 q;refine(O 6∘Zv (Ca q)∘O 3)<|Lc (fun(d6:Ar)=>(d6=Aj,[(1,.slice (J ⟨b,f,Aa⟩) (Ajb l) c),(2,.pointer (J ⟨pb,0,Aa⟩)),(4,.pointer (J ⟨ob,0,Aa⟩)),(27,.slice (J ⟨b,f,Aa⟩) (Ajb l) c),(28,U ((Ajb l:Y):H)),(29,U i),(43,.bool d6)],j)) ?_ ?_
    .refine(O 4)<|Zd 35 (fun k1=>?_) fun k1=>?_
     .omega
     .refine(O 4∘Zv (Ca (ai j S 0 _ f1))∘O 4∘Lm (decide (x≥Ajb t0))) ?_;grind
    .rintro d6 rfl;refine(O 7)<|Lb (i+1) ?_;omega
   .refine(O 3∘Zc (Pk j)) ?_;rintro _ w4⟨wb,rfl,b5,a3⟩;refine(O 5) ?_;have c9:=a7.ext a3;have cv:=a3.size;refine(O 2∘Gk) ?_;rintro cb w5 cn ck bb;refine(O 10) ?_;have x5:=a3.trans bb;have c4:=b5.ext bb;have I:=ck.lt;have cm:GF w5 (cb+1) [] (List.map Hg (p.tabs.take 0)):=⟨Z,fun i hi=>by grind⟩;refine Lo (fun((i,us,wr):Y×(Bm)×Ad)=>(i<=Ajb p.tabs/\GF wr (cb+1) us ((p.tabs.take i).map Hg)/\Bk wr cb 51 (us++BJ (Ajb p.tabs-i) (.slice Aa 0 0))/\FD wr j.heap.size wb []/\Bf j wr,[(1,.slice A (Ajb l) c),(2,.pointer (J ⟨pb,0,Aa⟩)),(4,.pointer (J ⟨ob,0,Aa⟩)),(8,.pointer (J ⟨wb,0,Aa⟩)),(9,.slice (J ⟨cb,0,Aa⟩) (Ajb p.tabs) (Ajb p.tabs)),(52,U ((Ajb p.tabs:Y):H)),(53,U i)],wr,Ajb p.tabs-i)) (0,([]),w5) ?_ ?_
    .grind
    .rintro⟨i,us,wr⟩⟨hi,d,Q,bf,L⟩;have xr:=x3.trans L;have K:=S.trans (L.mono (BC hB x3.size));refine(O 5)<|Zi (fun D=>?_) fun D=>?_
     .obtain⟨At,ct,e1,e2⟩:=s2.row i D;have a5:=P _ (BM D);have e:=bj _ (BM D);have b6:Ajb us=i:=by rw[d.1,DF,BZ];omega
      have N:(p.tabs.take (i+1)).map Hg=(p.tabs.take i).map Hg++[Hg p.tabs[i]]:=by rw[du D,DT];rfl
      generalize p.tabs[i]=t at e1 e2 a5 e N;refine(O 12∘Zv (Bp (a7.ext L))∘O 2∘Zv (Ca (ai wr K i _ e1))∘Zc (yX t e X X At ct B wr (e2.below K))) ?_;rintro _ w7⟨⟨u,rfl,bi⟩,r⟩;refine(O 4) ?_;obtain⟨Au,cu,rfl,_,_⟩:=bi.sl;refine(Zt (Q.ext r) (hlt:=by grind)) ?_;rintro w8 bq a6;refine(O 6) ?_;rw[Xm D b6]at bq;have cr:=r.size;have cq:=Q.lt
      have r8:GF w8 (cb+1) (us++[.slice Au (Ajb (Hg t)) cu]) ((p.tabs.take (i+1)).map Hg):=by
       rw[N];exact((d.ext r).snoc (Bo.more bi X)).mo a6 X
      refine Lb ((i+1),(us++[.slice Au (Ajb (Hg t)) cu]),w8) ?_;exact⟨D,r8,bq,(bf.ext r).tm (Tm.set (Q.ext r) a6 (B:=0) (BE _)) Z Z,Bu (L.trans r) a6 (L.trans r).size Bx⟩
     .obtain rfl:i=Ajb p.tabs:=X;rw[Fa,TS,List.append_nil]at Q;rw[DV]at d;have c5:=d.rows;refine(O 9)<|Lo (fun((i,E):Y×Ad)=>(i<=Ajb l/\FD E j.heap.size wb (Ev p (l.take i))/\Ajb (Ev p (l.take i))<=20*i/\Tm wr E j.heap.size KS,[(1,.slice A (Ajb l) c),(2,.pointer (J ⟨pb,0,Aa⟩)),(4,.pointer (J ⟨ob,0,Aa⟩)),(8,.pointer (J ⟨wb,0,Aa⟩)),(9,.slice (J ⟨cb,0,Aa⟩) (Ajb p.tabs) (Ajb p.tabs)),(69,.slice A (Ajb l) c),(70,U ((Ajb l:Y):H)),(71,U i)],E,Ajb l-i)) (0,wr) ?_ ?_
      .exact⟨BE _,bf,BE _,Tm.refl _ _ _⟩
      .rintro⟨i,E⟩⟨hi,aj,c8,tq⟩;have L:=tq.below L L.size (Bv _);have xr:=x3.trans L;have K:=S.trans (L.mono (BC hB x3.size));have cl:=a7.ext L;have ch:=tq.bk Q Z;have b7:=(d.tm tq Z).rows;refine(O 5)<|Zi (fun I=>?_) fun I=>?_
       .have a0:i/50<Ajb p.picks:=by unfold grpN at cf;omega
        obtain⟨b,f,rfl,_,a9⟩:=hs.intAt X;have q:=a9 E xr i I;have a2:=bm _ (BM I);have a:=lQ p l I;generalize l[i]=x at a2 q a;have af:=b4 E K _ _ (by rw[Fx a0,CG a0]);rw[CG a0]at a;have al:=bl _ (BM a0);generalize p.picks[i/50]=k at af al a;obtain⟨At,ct,e1,e2⟩:=s2.row k al;obtain⟨Au,cu,g1,g2⟩:=b7.row k Bg;have a5:=P _ (BM al);have e:=bj _ (BM al);rw[Ou]at g1 g2;rw[show p.tabs.getD k []=p.tabs[k]from by grind]at a;generalize p.tabs[k]=t at e1 e2 a5 e g1 g2 a;have cj:Ajb (Hg t)=Ajb t:=by simp[Hg]
        rw[cj]at g1;obtain⟨ab,ao,rfl,_,b3⟩:=(e2.below K).intAt X;obtain⟨ub,uo,rfl,_,b0⟩:=g2.intAt X;have V:=fun W hW=>b3 W hW x X;have T:=fun W hW=>b0 W hW x X;have a1:=e.pos _ (BM (show x<Ajb t by omega));have o:=e.Ahu (show x<Ajb t by omega);have bn:=fp (show x<Ajb t by omega);rw[CG X]at bn;rw[CG (show x<Ajb t by omega)]at o;unfold Lp at a;rw[CG (show x<Ajb t by omega)]at a;rw[<-bn]at o a;generalize(Hg t)[x]=cx at T o a;generalize t[x]=y at V a1 o a;have da:2 ^ y<=1048576:=Gb (n:=2) Bc a1.2;refine(O 7∘Zv (Ca q)∘O 10∘Zv (Ca af)∘O 2) ?_;refine Kg 17 Be Be<|HW.val Z Z (EX.move Z)<|HW.val Z Z (EX.move Z)<|HW.val Z Z (EX.move Z)<|HW.val Z Z (by first|exact KV underlying258 GV Z Z X|exact KX underlying258 GV Z Z X)<|HW.val Z Z (Ci underlying51 Z Z (ch.drew.cell_of g1))<|HW.val Z Z (EX.move Z)<|HW.val Z Z (by first|exact KV underlying51 BV Z Z X|exact KX underlying51 BV Z Z X)<|HW.val Z Z (Ci underlying3 Z Z (T _ (Bf.drew E)))<|HW.val Z Z (by first|exact LP (m:=18446744073709551615) underlying3 underlying211 Z Z X|exact MR (m:=18446744073709551616) underlying3 underlying211 Z Z Bc|exact EX.convZ underlying3 underlying211 Z)<|HW.val Z Z (Do (off:=0) underlying260 Z Z nZ Z Z)<|HW.val Z Z (Ci underlying258 Z Z (cl.drew.cell_of Z))<|HW.val Z Z (EX.move Z)<|HW.val Z Z (by first|exact KV underlying258 GV Z Z X|exact KX underlying258 GV Z Z X)<|HW.val Z Z (Ci underlying51 Z Z (ai _ (K.trans ((Bf.drew E).mono (BC hB xr.size))) k _ e1))<|HW.val Z Z (EX.move Z)<|HW.val Z Z (by first|exact KV underlying51 BV Z Z X|exact KX underlying51 BV Z Z X)<|HW.val Z Z (Ci underlying3 Z Z (V _ (Bf.drew E)))<|HW.tail<|(Zc (GQ j.heap.size wb _ cx y X X o X _ (aj.ext (Bf.drew E)))) ?_;rintro _ w8⟨rfl,bh,t8⟩;refine(O 6) ?_;rw[<-a]at bh;refine Lb ((i+1),w8) ?_;refine⟨I,bh,by rw[a,BA,nb_length];omega,(tq.trans (Tm.Agk (Bf.drew E) _ _)).trans t8⟩
       .obtain rfl:i=Ajb l:=X;rw[DV]at aj;refine(O 4∘Zc (NW j.heap.size wb _ E aj)) ?_;rintro _ _⟨rfl,rfl⟩;refine(O 1∘Zc (MQ j.heap.size wb _ E aj)) ?_;rintro _ _⟨rfl,rfl⟩;refine(O 1) ?_;have b9:=cc.ext L;refine(Zs b9) ?_;rintro w9 ca ce;refine(O 2∘DA ca) ?_;exact⟨Z,Bu xr ce xr.size Bx⟩
def VE{m:Y}:∀(ps l:Bj),Ajb l=m->(∀x,x<m->x∈l)->(∀x∈ps,x<m)->Ajb (Hm l ps)<=m*Ajb ps
 |[],l,_,_,_=>Bv _
 |p::ps,l,hl,hm,hp=>by
  have h1:=Qb (hm p (hp p Bi));have:=VE ps (EF l (l.idxOf p)) ((Pg h1).trans hl) (fun x hx=>(SI h1 x).2 (hm x hx)) (fun x hx=>hp x Bg);rw[Hm,BA,Cq,Cz,Cz,Nat.mul_succ];omega
def XK:∀(ts:Ae (Bj)),(∀t∈ts,Ajb t<=258/\t≠[]/\∀x∈t,x<=20)->Ajb (ts.flatMap dShow)<=20000*Ajb ts
 |[],_=>Bv _
 |t::ts,h=>by
  have h1:=h t Bi;have:=UB h1.2.2 h1.2.1;have:=XK ts fun u hu=>h u Bg;grind
def jm(p:Pl)(n:Y)(hp:p.Ok n)(B:Y)(cs:Bm)(w:Ad)(h:PlanAt w B cs p)(hB:B<=w.heap.size):
 Bn prog 179 [.agg cs.toArray] w fun v w'=>v=.tuple #[.agg (Ec (planBits p)).toArray,U ((0:Y):H)]/\Bf w w':=by
 have cc:=h;obtain⟨A1,c1,A2,c2,vs,rfl,s1,s2,s3⟩:=h;obtain⟨⟨t1,t2⟩,⟨p1,p2⟩,A,⟨l1,l2⟩,V,ba⟩:=id hp;obtain⟨b1,o1,rfl,_,b0⟩:=s1.at3 (by rw[s2.len];omega);obtain⟨b2,o2,rfl,_,bx⟩:=s3.at3 (by rw[DO];omega);have c9:=VE (m:=Ajb p.tabs) p.picks (BF (Ajb p.tabs)) Hp (fun x f=>DU.2 f) ba;have cw:=Oz t2 p2;have cv:=Ud (Ajb p.picks) t2;have dg:=XK p.tabs fun t ht=>⟨Bg,fun e=>by have:=A t ht;rw[e]at this;simp at this;omega,fun x f=>((V t ht).pos x f).2⟩;generalize hH:nb 3 (Ajb p.tabs)++(nb 15 (Ajb p.picks)++Hm (BF (Ajb p.tabs)) p.picks)=j7;have b3:Ajb j7<=300000:=by rw[<-hH];simp only[BA,nb_length];omega
 have cd:planBits p=j7++p.tabs.flatMap dShow:=by rw[<-hH];simp[planBits]
 refine Bw func179 Z ntmps179 Be Z ?_;refine(O 2) ?_;refine Dz Z Z Z ?_;rintro pb w1 c3 bs a1;refine(Zn) ?_;rintro ob w2 c0 cg T;refine(O 5) ?_;have x2:=a1.trans T;have o:=bs.ext T;have c8:=a1.size;have c7:=T.size;have da:ob≠pb:=by have:=bs.lt;omega
 have Q:Below B w w2:=x2.mono hB;refine(Zv (BW o)∘Zc (YH p n hp B _ w2 (cc.below Q) X)) ?_;rintro _ E⟨rfl,I⟩;refine(O 6∘Zc (Pk E)) ?_;rintro _ w4⟨D,rfl,b9,b6⟩;refine(O 6) ?_;have x4:=I.trans b6;refine(Zv (Bp (o.ext x4))∘O 2∘Zc (GQ E.heap.size D [] (Ajb p.tabs) 3 X Bc (show Ajb p.tabs<8 by omega) Bc w4 b9)) ?_;rintro _ w5⟨rfl,b8,t5⟩;refine(O 5) ?_;have x5:Bf w2 w5:=t5.below x4 x4.size I.size;refine(Zv (Bp (o.ext x5))∘O 2∘Zc (GQ E.heap.size D _ (Ajb p.picks) 15 X Bc (show Ajb p.picks<32768 by omega) Bg w5 b8)) ?_;rintro _ w6⟨rfl,b7,t6⟩;refine(O 4) ?_;have x6:Bf w2 w6:=t6.below x5 x5.size I.size;refine(Zv (Bp (o.ext x6))∘O 1∘Zc (jg (Ajb p.tabs) X w6)) ?_;rintro _ w7⟨gb,rfl,df,cp,a0⟩;refine(O 6) ?_;have x7:=x6.trans a0;have c6:=x6.size;refine(Zv (Bp (o.ext x7))∘O 4)<|Lo (fun((i,a,W,wr):Y×(Bj)×(Ae Ar)×Ad)=>(i<=Ajb p.picks/\Ajb a=Ajb p.tabs/\(∀x,x<Ajb p.tabs->x∈a)/\W++Hm a (p.picks.drop i)=j7/\FD wr E.heap.size D W/\Bk wr gb 3 (BD .i64 a)/\Bf w2 wr,[(1,.pointer (J ⟨pb,0,Aa⟩)),(2,.pointer (J ⟨ob,0,Aa⟩)),(4,.pointer (J ⟨D,0,Aa⟩)),(5,.slice (J ⟨gb,0,Aa⟩) (Ajb p.tabs) (Ajb p.tabs)),(36,.slice (J ⟨b2,o2,Aa⟩) (Ajb p.picks) c2),(37,U ((Ajb p.picks:Y):H)),(38,U i)],wr,Ajb p.picks-i)) (0,(BF (Ajb p.tabs)),(nb 3 (Ajb p.tabs)++nb 15 (Ajb p.picks)),w7) ?_ ?_
 .exact⟨BE _,Hp,fun x f=>DU.2 f,Bg,b7.ext a0,cp,x7⟩
 .rintro⟨i,a,W,wr⟩⟨hi,bf,bc,hW,a2,hg,f⟩;have xr:=x2.trans f;have bn:=Q.trans (f.mono (BC hB x2.size));refine(O 5)<|Zi (fun hc=>?_) fun hc=>?_
  .have bh:=ba _ (BM hc);have S:=bx wr bn i _ (by rw[Fx hc,CG hc]);rw[DE hc,Hm]at hW;generalize p.picks[i]=k at bh S hW;have bj:=Qb (bc k bh);have ck:=List.getElem_idxOf bj
   have a7:∀j,j<Ajb a->a[j]? =J k->a.idxOf k<=j:=fun j hj q=>by
    rcases Df j (a.idxOf k)with z|z
    .have:=List.not_of_lt_findIdx (p:=fun x=>x==k) (xs:=a) z;grind
    .omega
   generalize cx:a.idxOf k=ix at hW bj ck a7;generalize cb:Hm (EF a ix) (p.picks.drop (i+1))=rest at hW;have dk:Ajb W+ix+1<=300000:=by rw[<-hW]at b3;simp only[BA,Cq,Cz]at b3;omega
   refine(O 6∘Zv (Ca S)∘O 8)<|Lo (fun((j,g):Y×Ad)=>(j<=ix/\FD g E.heap.size D (W++BJ j Af)/\Tm wr g E.heap.size KS,[(1,.pointer (J ⟨pb,0,Aa⟩)),(2,.pointer (J ⟨ob,0,Aa⟩)),(4,.pointer (J ⟨D,0,Aa⟩)),(5,.slice (J ⟨gb,0,Aa⟩) (Ajb p.tabs) (Ajb p.tabs)),(7,U k),(8,U j),(36,.slice (J ⟨b2,o2,Aa⟩) (Ajb p.picks) c2),(37,U ((Ajb p.picks:Y):H)),(38,U i)],g,ix-j)) (0,wr) ?_ ?_
   .exact⟨BE _,Bg,Tm.refl _ _ _⟩
   .rintro⟨j,g⟩⟨hj,a3,tq⟩;have d:j<Ajb a:=X;have bl:=tq.bk hg Z;have a9:(BD .i64 a)[j]? =J (U ((a[j]:Y):H)):=by rw[Fx d,CG d]
    have a8:=a7 j d;rw[BR d]at a8;have bi:j=ix->a[j]=k:=fun e=>by grind
    generalize a[j]=y at a9 a8 bi;refine(O 6∘Zv (Bp bl (hi:=a9))∘O 3)<|Zi (fun a6=>?_) fun a6=>?_
    .have db:j≠ix:=fun e=>a6 (bi e);refine(O 10∘Zc (GQ E.heap.size D _ 1 1 Bc Bc Bc (by rw[BA,Cq];omega) g a3)) ?_;rintro _ w8⟨rfl,K,t8⟩;refine(O 2) ?_;rw[show nb 1 1=[Af]from Z,Cx,<-RT]at K;refine Lb ((j+1),w8) ?_;exact⟨X,K,tq.trans t8⟩
    .obtain rfl:j=ix:=Bg;refine(O 4∘Zc (GQ E.heap.size D _ 0 1 Bc Bc Bc (by rw[BA,Cq];omega) g a3)) ?_;rintro _ w8⟨rfl,K,t8⟩;refine(O 4) ?_;have bm:=t8.bk bl Z;have x8:Bf w2 w8:=(tq.trans t8).below f f.size I.size;have cm:=jd a j gb d X w8 bm;rw[bf]at cm;refine(Zc cm) ?_;rintro _ w9⟨_,cn,L⟩;refine(O 6) ?_;have a4:=K.tm (Tm.set bm L (B:=0) (BE _)) Z Z;rw[show nb 1 0=[Aj]from Z]at a4;refine Lb ((i+1),(EF a j),(W++BJ j Af++[Aj]),w9) ?_;refine⟨hc,(Pg d).trans bf,fun x f=>(SI d x).2 (bc x f),?_,a4,cn,Bu x8 L x8.size Bx⟩;grind
  .obtain rfl:i=Ajb p.picks:=X;rw[IK,Hm,List.append_nil]at hW;subst hW;refine(O 4∘Zc (NW E.heap.size D _ wr a2)) ?_;rintro _ _⟨rfl,rfl⟩;refine(O 1∘Zc (MQ E.heap.size D _ wr a2)) ?_;rintro _ _⟨rfl,rfl⟩;refine(O 1) ?_;refine Mb 1 ([Ec W]) Z Z underlying227 GU Z Bc Z Z Z Bi Bc ?_;rintro eb we cl cr al;refine(O 6) ?_;have xe:=f.trans al;refine(Zv (Bp (o.ext xe))∘O 4)<|Lo (fun((i,vo,g):Y×Ah×Ad)=>(i<=Ajb p.tabs/\Bo g wr.heap.size 226 2 vo (i+1) (Je (W::(p.tabs.take i).map dShow))/\Bf wr g,[(2,.pointer (J ⟨ob,0,Aa⟩)),(9,vo),(65,.slice (J ⟨b1,o1,Aa⟩) (Ajb p.tabs) c1),(66,U ((Ajb p.tabs:Y):H)),(67,U i)],g,Ajb p.tabs-i)) (0,(.slice (J ⟨eb,0,Aa⟩) 1 1),we) ?_ ?_
   .exact⟨BE _,Bo.Agl cr cl Z Bc,al⟩
   .rintro⟨i,vo,g⟩⟨hi,N,G⟩;have xq:=xr.trans G;have bq:=bn.trans (G.mono (BC hB xr.size));obtain⟨Ao,co,rfl,_,a5⟩:=N.slice;refine(O 5)<|Zi (fun C=>?_) fun C=>?_
    .obtain⟨At,ct,e1,e2⟩:=s2.row i C;have ca:=A _ (BM C);have P:=V _ (BM C);have r:(p.tabs.take (i+1)).map dShow=(p.tabs.take i).map dShow++[dShow p.tabs[i]]:=by rw[du C,DT];rfl
     generalize p.tabs[i]=t at e1 e2 ca P r;refine(O 6∘Zv (Ca (b0 g bq i _ e1))∘O 5∘Zc (tG t X X (fun x f=>P.pos x f) At ct B g (e2.below bq))) ?_;rintro _ wa⟨rfl,b5⟩;refine(O 3∘Zn) ?_;rintro bb c5 cz cu ao;refine(Zs cu) ?_;rintro wc ab ch;refine(O 4) ?_;replace ab:Bk wc bb 226 (Ec (dShow t)):=ab;have b4:Bf wa wc:=Bu ao ch ao.size Bx;have af:=b5.trans b4;refine(Zv (BW ab)∘Kx (G.trans af) (N.ext af)) ?_;rintro _ v4 w4 ai c4 _;refine(O 7) ?_;have e4:Je (W::(p.tabs.take i).map dShow)++Ec (dShow t)=Je (W::(p.tabs.take (i+1)).map dShow):=by rw[r];simp[Je]
     rw[e4]at ai;refine Lb ((i+1),v4,w4) ?_;grind
    .obtain rfl:i=Ajb p.tabs:=X;rw[DV]at a5;have cq:(W::p.tabs.map dShow).flatten=planBits p:=by rw[cd,PZ,IM]
     have d:∀l∈W::p.tabs.map dShow,Ajb l<=100000000:=fun l hl=>by
      rcases List.mem_cons.1 hl with rfl|hl
      .omega
      .obtain⟨t,ht,rfl⟩:=Cr.1 hl;have:=UB (fun x f=>((V t ht).pos x f).2) (fun e=>by have:=A t ht;rw[e]at this;simp at this;omega);grind
     have cj:=Ny (W::p.tabs.map dShow) d Bx Bg Ao co _ g a5;rw[cq,Cz,DF]at cj;refine(O 4∘Zc cj) ?_;rintro _ wj⟨rfl,aj⟩;refine(O 2) ?_;have ce:=cg.ext ((f.trans G).trans aj);refine(Zs ce) ?_;rintro w9 cf L;refine(O 2) ?_;have xj:=xq.trans aj;refine(DA cf) ?_;exact⟨Z,Bu xj L xj.size Bx⟩
def Afe(B rb:Y)(s:Bh)(p most:Y)(hm:most<=1000000)(hp:p<=8*Ajb s)(hs:Ajb s<=140737488355328)(w:Ad)(h:RdAt w B rb s p):
 Bn prog 200 [.pointer (J ⟨rb,0,Aa⟩),U (most:H)] w fun v w'=>(∃k e:Y,v=.tuple #[U (k:H),U (e:H)]/\((e=0/\∃q,Jk s most p (most+1) 0=J (k,q)/\k<=most/\q<=8*Ajb s/\RdAt w' B rb s q)∨(GX e/\Jk s most p (most+1) 0=Aa)))/\Tm w w' B Ja:=
 (Afd B rb s p most hm hp hs w h).mono fun v w'⟨h,t⟩=>by
  refine⟨?_,t⟩;rcases h with⟨k,q,h1,h2,h3,h4,h5⟩|⟨h1,e,h2,h3,h4,_⟩
  .grind
  .exact⟨0,e,h4,.inr ⟨⟨h2,h3⟩,h1⟩⟩
abbrev LLN:=Ae (Bj)
def Ady(s:Bh)(most k:Y)(l:Bj)(p:Y)(a:Bj):KP s most (k+1) l p a=match Jk s most p (most+1) 0 with
 |none=>Aa
 |some (j,q)=>KP s most k (EF l j) q (a++[l.getD j 0]):=by rfl
open Classical in
def Aee(s:Bh)(n k p:Y)(a:Ae (Bj)):KQ s n (k+1) p a=match JI s p n with
 |none=>Aa
 |some (t,q)=>if LOk t then KQ s n k q (a++[t])else Aa:=by rfl
def Adz(s:Bh)(most:Y)(l:Bj)(p:Y)(a:Bj):KP s most 0 l p a=J (a,p):=by rfl
def Aef(s:Bh)(n p:Y)(a:Ae (Bj)):KQ s n 0 p a=J (a,p):=by rfl
def aa{p m f A N v a:Ad}{w y rb q:Y}{s:Bh}{B d:Ah}{o lc E:Bj}{x:Y}(hr:RdAt f p.heap.size rb s q)(K:Bk f w 3 (BD .i64 lc))(G:Bk f y 260 [.slice Aa 0 0,B])(r:Bo f m.heap.size 3 1 B (Ajb o) (BD .i64 o))(x7:Bf p f)(ai:p.heap.size<=m.heap.size)(af:m.heap.size<=f.heap.size)(W:p.heap.size<=w/\w<m.heap.size)(Q:p.heap.size<=y/\y<m.heap.size)
 (ab:Bk A w 3 (BD .i64 E)) (n:Mo f.drew A [w]) (i:Bf A N) (g:Bo v 0 3 1 d (Ajb o+1) (BD .i64 o++[U (x:H)])) (l:N.grownBy v B.ownBlock) (aj:d.ownBlock=B.ownBlock∨d.ownBlock=J N.heap.size) (al:Bk a y 260 [.slice Aa 0 0,d]) (j:Mo v a [y]):
 RdAt a p.heap.size rb s q/\Bk a w 3 (BD .i64 E)/\Bo a m.heap.size 3 1 d (Ajb (o++[x])) (BD .i64 (o++[x]))/\m.heap.size<=a.heap.size/\Bf p a:=by
 have V:y≠w:=G.ne K Bi;have ao:=fun k L=>(r.lt k L).1;have S:=(G.drew.mo n (by simpa using V)).ext i;have I:=S.grown l fun e=>by grind
 have D:Bo A m.heap.size 3 1 B (Ajb o) (BD .i64 o):=(r.ext (Bf.drew f)).mo n fun k L=>by grind
 have C:=D.ext i
 let P:Ay->Ar:=fun T=>T==3||T==260
 have m1:∀T,(T==3)=Af->P T=Af:=fun T h=>by simp[P,h]
 have m2:∀T,(T==260)=Af->P T=Af:=fun T h=>by simp[P,h]
 have t:Tm f a p.heap.size P:=((((Tm.Agk (Bf.drew f) _ _).trans ((Tm.set K.drew n W.1).mono m1)).trans (Tm.Agk i _ _)).trans ((Tm.grown (Bo.more C ai) l).mono m1)).trans ((Tm.set I j Q.1).mono m2);refine⟨hr.tm t Z Z,((ab.ext i).grown l fun e=>by grind).mo j Bg,?_,BC af t.size,t.below x7 x7.size (Bv _)⟩;have a1:f.heap.size<=A.heap.size:=n.size;have a0:=i.size;rw[KG]at g;rw[BA]
 have hb:∀k,d.ownBlock=J k->m.heap.size<=k:=fun k L=>by
  grind
 exact(Bo.base g hb).mo j fun k L=>by grind
def uV(s:Bh)(p n:Y)(hp:p<=8*Ajb s)(hn:3<=n/\n<=258)(hs:Ajb s<=1000000000)(w:Ad):
 Bn prog 161 [Bl s,U (p:H),U (n:H)] w fun v w'=>(∃cs,∃q e:Y,v=.tuple #[.agg (Li cs),U (q:H),U (e:H)]/\((e=0/\∃pl,MK s p n=J (pl,q)/\pl.Ok n/\PlanAt w' w'.heap.size cs pl/\q<=8*Ajb s)∨(GX e/\MK s p n=Aa)))/\Bf w w':=by
 obtain⟨d8,d6⟩:=hn;obtain⟨v0,e0,q0,d0,c6⟩:=MD s p 3;refine Bw func161 Z ntmps161 Be Z ?_;refine(O 2∘Zn) ?_;rintro ob P es bn ba;refine(O 7) ?_;have ck:=ba.size;refine(Zc (Pj s p hp X P)) ?_;rintro _ w2⟨rb,rfl,dg,Q⟩;refine(O 4) ?_;have x2:=ba.trans Q;have d5:=bn.ext Q;refine Lc (fun(d2:Ar)=>(d2=Aj,[(0,Bl (s)),(2,U n),(6,.pointer (J ⟨ob,0,Aa⟩)),(9,.pointer (J ⟨rb,0,Aa⟩)),(32,.bool d2)],w2)) ?_ ?_
 .refine(O 4) ?_;refine OW.as 25 (.bool Aj) Z (Z)<|(O 4)<|Zd 29 (fun c1=>?_) fun c1=>?_
  .omega
  .refine(O 4∘Lm (decide (n>258))) ?_;grind
 .rintro d2 rfl;refine(O 5) ?_;have c1:=MM P.heap.size rb s p 3 Bc hp X w2 dg;rw[d0]at c1;refine(Zc c1) ?_;rintro _ w3⟨rfl,ds,t3⟩;refine(O 12) ?_;have x3:Bf w w3:=t3.below x2 x2.size ck;have b7:=t3.bk d5 Z;refine Zi (fun he=>?_) fun he=>?_
  .rcases c6 with⟨h,rfl,rfl,rfl⟩|⟨h,rfl,rfl,rfl⟩
   .refine(O 4∘Zs b7) ?_;rintro w4 af b9;refine(O 3) ?_;refine Gh<|NI Z underlying260 Z NS Z Z Z (af) Z ?_;refine⟨⟨_,0,10,Z,.inr ⟨⟨Bc,Bc⟩,Ai h⟩⟩,Bu x3 b9 x3.size Bx⟩
   .exact AI Z he
  .rcases c6 with⟨h,rfl,rfl,rfl⟩|⟨h,rfl,rfl,rfl⟩
   .exact AI (show(10:Y)≠0 by decide) he
   .have hM:=Ky s p 3
    have d:MK s p n=if num (BX s p 3)<2∨6<num (BX s p 3)then Aa else if 8*Ajb s<p+3+15 then Aa else if num (BX s (p+3) 15)=0 then Aa else match KP s (num (BX s p 3)-1) (num (BX s (p+3) 15)) (BF (num (BX s p 3))) (p+18) []with
     |none=>Aa
     |some (picks,q)=>(KQ s n (num (BX s p 3)) q []).map fun r=>(⟨r.1,picks⟩,r.2):=Ag X
    generalize num (BX s p 3)=M at d hM;refine(O 3)<|Lc (fun(d7:Ar)=>(d7=decide (M<2∨6<M),[(0,Bl (s)),(2,U n),(6,.pointer (J ⟨ob,0,Aa⟩)),(9,.pointer (J ⟨rb,0,Aa⟩)),(10,.int .u64 M),(48,.bool d7)],w3)) ?_ ?_
    .refine(O 4)<|Zd 45 (fun c2=>?_) fun c2=>?_
     .refine(O 4∘Lm Af) ?_;grind
     .refine(O 4∘Lm (decide (M>6))) ?_;grind
    .rintro d7 rfl;refine Zi (fun bm=>?_) fun bm=>?_
     .rw[Ai bm]at d;refine(O 3∘Zs b7) ?_;rintro w4 af b9;refine(O 3) ?_;refine Gh<|NI Z underlying260 Z NS Z Z Z (af) Z ?_;refine⟨⟨_,0,110,Z,.inr ⟨⟨Bc,Bc⟩,d⟩⟩,Bu x3 b9 x3.size Bx⟩
     .rw[Ag bm]at d;obtain⟨v1,e1,q1,dv,c5⟩:=MD s (p+3) 15;have c3:=MM P.heap.size rb s (p+3) 15 Bc h X w3 ds;rw[dv]at c3;refine(O 4∘Zc c3) ?_;rintro _ w4⟨rfl,dn,t4⟩;refine(O 12) ?_;have x4:Bf w w4:=t4.below x3 x3.size ck;have af:=t4.bk b7 Z;refine Zi (fun cc=>?_) fun cc=>?_
      .rcases c5 with⟨h1,rfl,rfl,rfl⟩|⟨h1,rfl,rfl,rfl⟩
       .rw[Ai h1]at d;refine(O 4∘Zs af) ?_;rintro w5 a1 a2;refine(O 3) ?_;refine Gh<|NI Z underlying260 Z NS Z Z Z (a1) Z ?_;refine⟨⟨_,0,10,Z,.inr ⟨⟨Bc,Bc⟩,d⟩⟩,Bu x4 a2 x4.size Bx⟩
       .exact AI Z cc
      .rcases c5 with⟨h1,rfl,rfl,rfl⟩|⟨h1,rfl,rfl,rfl⟩
       .exact AI (show(10:Y)≠0 by decide) cc
       .have hK:=Ky s (p+3) 15;rw[Ag X]at d;generalize num (BX s (p+3) 15)=K at d hK;refine(O 7)<|Zi (fun ca=>?_) fun ca=>?_
        .rw[Ai ca]at d;refine(O 3∘Zs af) ?_;rintro w5 a1 a2;refine(O 3) ?_;refine Gh<|NI Z underlying260 Z NS Z Z Z (a1) Z ?_;refine⟨⟨_,0,110,Z,.inr ⟨⟨Bc,Bc⟩,d⟩⟩,Bu x4 a2 x4.size Bx⟩
        .rw[Ag ca]at d;have e8:2<=M/\M<=6:=X;have et:K<32768:=hK;refine(O 3∘Zn) ?_;rintro pb w5 er cr a9;refine(O 5∘Zc (jg M X w5)) ?_;rintro _ w6⟨gb,rfl,e7,c4,a4⟩;refine(O 9) ?_;have x6:=(x4.trans a9).trans a4;have d3:=cr.ext a4;have e5:=(af.ext a9).ext a4;have dk:=(dn.ext a9).ext a4;have ez:=cr.lt;have e6:=c4.lt;have e4:=af.lt;have ew:=x6.size;have cf:Bf P w6:=(((t4.below (t3.below Q Q.size (Bv _)) (t3.below Q Q.size (Bv _)).size (Bv _)).trans (a9.mono (by have:=t3.size;have:=t4.size;have:=Q.size;omega))).trans (a4.mono (by have:=t3.size;have:=t4.size;have:=Q.size;omega)));have ce:=cf.size;have fa:=a9.size;have e9:=a4.size;have fb:P.heap.size<=w4.heap.size:=by have:=t3.size;have:=t4.size;have:=Q.size;omega
         have eo:M-1+1=M:=X;refine Lo (fun((i,lc,q,o,vo,wr):Y×(Bj)×Y×(Bj)×Ah×Ad)=>(i<=K/\Ajb lc=M/\(∀x∈lc,x<M)/\q<=8*Ajb s/\KP s (M-1) (K-i) lc q o=KP s (M-1) K (BF M) (p+18) []/\Ajb o=i/\(∀x∈o,x<M)/\RdAt wr P.heap.size rb s q/\Bk wr gb 3 (BD .i64 lc)/\Bk wr pb 260 [.slice Aa 0 0,vo]/\Bo wr w6.heap.size 3 1 vo (Ajb o) (BD .i64 o)/\w6.heap.size<=wr.heap.size/\Bf P wr,[(0,Bl (s)),(2,U n),(6,.pointer (J ⟨ob,0,Aa⟩)),(9,.pointer (J ⟨rb,0,Aa⟩)),(10,.int .u64 M),(13,.pointer (J ⟨pb,0,Aa⟩)),(14,.slice (J ⟨gb,0,Aa⟩) M M),(65,.int .u64 K),(66,.int .u64 i)],wr,K-i)) (0,(BF M),(p+18),([]),(.slice Aa 0 0),w6) ?_ ?_
         .exact⟨BE _,Hp,fun x hx=>DU.1 hx,X,Z,Z,Bi,dk,c4,d3,Bo.nil _ _ _ _,Bv _,cf⟩
         .rintro⟨i,lc,q,o,vo,wr⟩⟨hi,cz,cx,hq,ao,em,e3,cn,ed,co,bx,eh,a8⟩;refine(O 5)<|Zi (fun hc=>?_) fun hc=>?_
          .obtain⟨j,hj⟩:∃j,K-i=j+1:=⟨K-i-1,X⟩;rw[hj,Ady]at ao;have cu:=Afe P.heap.size rb s q (M-1) X hq X wr cn;refine(O 9∘Zc cu) ?_;rintro _ w7⟨⟨k,e,rfl,A⟩,t7⟩;refine(O 8) ?_;have bl:=t7.bk ed Z;have I:=t7.bk co Z;have g:=t7.own bx Z;have x7:Bf P w7:=t7.below a8 a8.size (Bv _);refine Ld (fun(e2:Y)=>((e=0->e2=0)/\(e≠0->GX e2),[(0,Bl (s)),(2,U n),(6,.pointer (J ⟨ob,0,Aa⟩)),(9,.pointer (J ⟨rb,0,Aa⟩)),(10,.int .u64 M),(13,.pointer (J ⟨pb,0,Aa⟩)),(14,.slice (J ⟨gb,0,Aa⟩) M M),(15,U k),(16,U e2),(65,.int .u64 K),(66,.int .u64 i)],w7)) ?_ ?_
           .refine(O 4)<|Zi (fun h3=>?_) fun h3=>?_
            .refine(O 3∘Lm 110) ?_;exact⟨fun z=>by omega,fun _=>⟨Bc,Bc⟩⟩
            .refine(O 1∘Lm e) ?_;grind
           .rintro e2⟨cj,bs⟩;refine(O 6)<|Zi (fun ai=>?_) fun ai=>?_
            .have b8:MK s p n=Aa:=by
              rcases A with⟨h,_⟩|⟨_,h⟩
              .omega
              .grind
             have b6:=bn.ext x7;have ee:e≠0:=fun z=>ai (cj z);have xw:=ba.trans x7;refine(O 4∘Zs b6) ?_;rintro w5 a1 a2;refine(O 3) ?_;refine Gh<|NI Z underlying260 Z NS Z Z Z (a1) Z ?_;refine⟨⟨_,0,e2,Z,.inr ⟨bs ee,b8⟩⟩,Bu xw a2 xw.size Bx⟩
            .rcases A with⟨rfl,q2,g1,g2,g3,b2⟩|⟨g1,g2⟩
             .have bh:k<Ajb lc:=X;rw[g1]at ao;simp only at ao;have c0:lc.getD k 0=lc[k]:=by simp[bh]
              have d9:=cx _ (BM bh);have cm:=jd lc k gb bh X w7.drew bl.drew;rw[cz,c0]at cm;rw[c0]at ao;generalize lc[k]=x at ao d9 cm;refine(O 1)<|Lc (fun((vq,V):Ah×Ad)=>(RdAt V P.heap.size rb s q2/\Bk V gb 3 (BD .i64 (EF lc k))/\Bo V w6.heap.size 3 1 vq (Ajb (o++[x])) (BD .i64 (o++[x]))/\w6.heap.size<=V.heap.size/\Bf P V/\Bk V pb 260 [.slice Aa 0 0,vq],[(0,Bl (s)),(2,U n),(6,.pointer (J ⟨ob,0,Aa⟩)),(9,.pointer (J ⟨rb,0,Aa⟩)),(10,.int .u64 M),(13,.pointer (J ⟨pb,0,Aa⟩)),(14,.slice (J ⟨gb,0,Aa⟩) M M),(65,.int .u64 K),(66,.int .u64 i)],V)) ?_ ?_
              .have cd:w6.heap.size<=w7.heap.size:=BC eh t7.size;have ep:=fun k hk=>(g.lt k hk).1;have cb:pb≠gb:=I.ne bl Bc;have bj:P.heap.size<=gb:=X;have bi:gb<w6.heap.size:=X;have bf:P.heap.size<=pb:=X;have bc:pb<w6.heap.size:=X;have L:∀w8,Mo w7.drew w8 [gb]->Bo w8 w6.heap.size 3 1 vo (Ajb o) (BD .i64 o):=fun w8 f=>(g.ext (Bf.drew w7)).mo f fun k hk=>by grind
               have b3:∀w8 w9 N,Mo w7.drew w8 [gb]->Bf w8 w9->w9.grownBy N vo.ownBlock->Bk N pb 260 [.slice Aa 0 0,vo]:=fun w8 w9 N a b c=>((I.drew.mo a (by simpa using cb)).ext b).grown c fun e=>by grind
               refine(Yr 9 (fun w'=>True) AB) fun hS=>(Gv [0,2,3])<|Ye 1 4 ?_ ?_
               .refine(Jo 1 (he:=by exact Bp I.drew)) fun hS=>(Yc 4 cm) ?_;rintro _ w8⟨rfl,bq,f⟩;refine⟨AB,fun hS=>?_⟩;refine PU 5 1 Z Be Z Z underlying51 BV Z Z Z Z Z Bc ?_;rintro eb w9 b0 al D;refine⟨AB,fun hS=>?_⟩;refine GW.append 6 0 Z Be Z Z underlying51 BV Z Bc Z Z (((L w8 f).ext D).more (BE _)) (Src.Agn (m:=1) underlying51 (Sl.Agl al al.lt) Z (Lz (k:=.i64) (l:=[x])) Bc) CA X (BE _) ?_;rintro a7 N E C W;have ab:=b3 w8 w9 N f D C;refine⟨AB,fun hS=>?_⟩;refine(Gv [7]∘Yt 8 ab) ?_;rintro a6 B aj;refine⟨AB,fun hS=>?_⟩;refine(Yd∘Lm (a7,a6)) ?_;obtain⟨y1,y2,y3,y4,y5⟩:=aa b2 bl I g x7 ce cd ⟨bj,bi⟩ ⟨bf,bc⟩ bq f D E C W B aj;exact⟨y1,y2,y3,y4,y5,B⟩
               .refine(Jc 4 cm) ?_;rintro _ w8⟨rfl,bq,f⟩;refine⟨AB,fun hS=>?_⟩;refine Ye 1 5 ?_ ?_
                .refine(Jo 1 (he:=by exact Bp (I.drew.mo f (by simpa using cb)))) fun hS=>?_;refine PU 5 1 Z Be Z Z underlying51 BV Z Z Z Z Z Bc ?_;rintro eb w9 b0 al D;refine⟨AB,fun hS=>?_⟩;refine GW.append 6 0 Z Be Z Z underlying51 BV Z Bc Z Z (((L w8 f).ext D).more (BE _)) (Src.Agn (m:=1) underlying51 (Sl.Agl al al.lt) Z (Lz (k:=.i64) (l:=[x])) Bc) CA X (BE _) ?_;rintro a7 N E C W;have ab:=b3 w8 w9 N f D C;refine⟨AB,fun hS=>?_⟩;refine(Gv [7]∘Yt 8 ab) ?_;rintro a6 B aj;refine⟨AB,fun hS=>?_⟩;refine(Yd∘Lm (a7,a6)) ?_;obtain⟨y1,y2,y3,y4,y5⟩:=aa b2 bl I g x7 ce cd ⟨bj,bi⟩ ⟨bf,bc⟩ bq f D E C W B aj;exact⟨y1,y2,y3,y4,y5,B⟩
                .refine Jt 5 1 Z Z Z underlying51 BV Z Z Z Z Z Bc ?_;rintro eb w9 b0 al D;refine⟨AB,fun hS=>?_⟩;refine(Yo 1 (he:=by exact Bp ((I.drew.mo f (by simpa using cb)).ext D))) fun hS=>?_;refine GW.append 6 0 Z Be Z Z underlying51 BV Z Bc Z Z (((L w8 f).ext D).more (BE _)) (Src.Agn (m:=1) underlying51 (Sl.Agl al al.lt) Z (Lz (k:=.i64) (l:=[x])) Bc) CA X (BE _) ?_;rintro a7 N E C W;have ab:=b3 w8 w9 N f D C;refine⟨AB,fun hS=>?_⟩;refine(Gv [7]∘Yt 8 ab) ?_;rintro a6 B aj;refine⟨AB,fun hS=>?_⟩;refine(Yd∘Lm (a7,a6)) ?_;obtain⟨y1,y2,y3,y4,y5⟩:=aa b2 bl I g x7 ce cd ⟨bj,bi⟩ ⟨bf,bc⟩ bq f D E C W B aj;exact⟨y1,y2,y3,y4,y5,B⟩
              .rintro⟨vq,V⟩⟨y1,y2,y3,y4,y5,y6⟩;refine(O 5)<|Lb ((i+1),(EF lc k),q2,(o++[x]),vq,V) ?_;exact⟨hc,(Pg bh).trans cz,fun z hz=>cx z ((SI bh z).1 hz),g3,Bg,by rw[BA,Dd];omega,fun z hz=>by grind,y1,y2,y6,y3,y4,y5⟩
             .exact AI (Dk.1 ai) (by have:=bs (by have:=g1.1;omega);have:=this.1;omega)
          .obtain rfl:i=K:=X;rw[Fa,Adz]at ao;rw[<-ao]at d;simp only at d;refine(O 4∘Zc (SS P.heap.size rb s q wr cn)) ?_;rintro _ _⟨rfl,rfl⟩;refine(O 9) ?_;have el:pb<wr.heap.size:=X
           let P2:Ay->Ar:=fun T=>T==51||T==260
           have m1:∀T,(T==51)=Af->P2 T=Af:=fun T h=>by simp[P2,h]
           have m2:∀T,(T==260)=Af->P2 T=Af:=fun T h=>by simp[P2,h]
           refine Lo (fun((i,a,ts,us,vt,V):Y×Y×LLN×(Bm)×Ah×Ad)=>(i<=M/\KQ s n (M-i) a ts=KQ s n M q []/\Ajb ts=i/\(∀t∈ts,Ajb t=n/\LOk t)/\a<=8*Ajb s/\Bo V wr.heap.size 51 1 vt i us/\GF V wr.heap.size us ts/\Bk V pb 260 [vt,vo]/\Tm wr V P.heap.size P2,[(0,Bl (s)),(1,U a),(2,U n),(6,.pointer (J ⟨ob,0,Aa⟩)),(13,.pointer (J ⟨pb,0,Aa⟩)),(93,.int .u64 M),(94,.int .u64 i)],V,M-i)) (0,q,([]),([]),(.slice Aa 0 0),wr) ?_ ?_
           .exact⟨BE _,Z,Z,Bi,hq,Bo.nil _ _ _ _,⟨Z,fun i hi=>by grind⟩,co,Tm.refl _ _ _⟩
           .rintro⟨i,a,ts,us,vt,V⟩⟨hi,G,ey,cl,ha,a0,bb,cp,tq⟩;have xq:Bf P V:=tq.below a8 a8.size (Bv _);refine(O 5)<|Zi (fun ef=>?_) fun ef=>?_
            .obtain⟨j,hj⟩:∃j,M-i=j+1:=⟨M-i-1,X⟩;rw[hj,Aee]at G;refine(O 8∘Zc (tI s a n ha ⟨X,X⟩ hs V)) ?_;rintro _ w7⟨⟨u,t,q2,e,rfl,cv,A⟩,a3⟩;obtain⟨At,ct,rfl,_,c8⟩:=cv.sl;refine(O 10) ?_;have x7:Bf P w7:=xq.trans a3;refine Ld (fun(e2:Y)=>(e2=(if e=0 then GJ t else e),[(0,Bl (s)),(2,U n),(6,.pointer (J ⟨ob,0,Aa⟩)),(13,.pointer (J ⟨pb,0,Aa⟩)),(17,.slice At (Ajb t) ct),(18,U q2),(19,U e2),(93,.int .u64 M),(94,.int .u64 i)],w7)) ?_ ?_
             .refine(O 4)<|Zi (fun S=>?_) fun S=>?_
              .rcases A with⟨_,h2,h3,h4,h5⟩|⟨h1,_⟩
               .refine(O 2∘Zc (Zf t X (fun x hx=>by grind) At ct _ w7 c8)) ?_;rintro _ _⟨rfl,rfl⟩;refine(O 2∘Lm (GJ t)) ?_;grind
               .exact AI S (by have:=h1.1;omega)
              .refine(O 1∘Lm e) ?_;grind
             .rintro e2 S;refine(O 6)<|Zi (fun ai=>?_) fun ai=>?_
              .have b8:GX e2/\MK s p n=Aa:=by
                rcases A with⟨h1,h2,h3,h4,h5⟩|⟨h1,h2⟩
                .rw[Ai h1]at S;rw[h2]at G;have cw:¬LOk t:=fun z=>ai (by rw[S];exact Ai ⟨X,X,z⟩);simp only at G;rw[Ag cw]at G;rw[<-G]at d;refine⟨?_,d⟩;rw[S,show GJ t=80 from Ag fun z=>cw z.2.2];exact⟨Bc,Bc⟩
                .rw[Ag (by have:=h1.1;omega)]at S;grind
               have b6:=bn.ext x7;have xw:=ba.trans x7;refine(O 4∘Zs b6) ?_;rintro w5 a1 a2;refine(O 3) ?_;refine Gh<|NI Z underlying260 Z NS Z Z Z (a1) Z ?_;exact⟨⟨_,0,e2,Z,.inr b8⟩,Bu xw a2 xw.size Bx⟩
              .have c7:e=0/\JI s a n=J (t,q2)/\Ajb t=n/\LOk t/\q2<=8*Ajb s:=by
                rcases A with⟨h1,h2,h3,h4,h5⟩|⟨h1,h2⟩
                .refine⟨h1,h2,h3,IG fun z=>ai ?_,h5⟩;rw[S,Ai h1,show GJ t=80 from Ag fun y=>z y.2.2];decide
                .exact AI (by rw[S,Ag (by have:=h1.1;omega)];have:=h1.1;omega) ai
               obtain⟨rfl,g2,g3,g4,g5⟩:=c7;rw[g2]at G;simp only at G;rw[Ai g4]at G;have I:=cp.ext a3;have g:=a0.ext a3;have db:wr.heap.size<=w7.heap.size:=BC tq.size a3.size;have df:=a8.size;refine(O 6∘Qp wr.heap.size db g) ?_;rintro _ v8 w8 L f eg;refine(O 1) ?_;have ec:=fun k hk=>(g.lt k hk).1;have ea:=fun k hk=>(L.lt k hk).1;have cq:=I.mo f fun z=>by grind
               refine(Zt cq) ?_;rintro w9 d1 a5;refine(O 10) ?_;have cg:Tm w7 w9 P.heap.size P2:=((Tm.Agt (Bo.more g df) f).mono m1).trans ((Tm.set cq a5 X).mono m2);have t9:Tm wr w9 P.heap.size P2:=(tq.trans (Tm.Agk a3 _ _)).trans cg;refine Lb ((i+1),q2,(ts++[t]),(us++[.slice At (Ajb t) ct]),v8,w9) ?_;refine⟨X,Bg,by rw[BA,Dd];omega,fun z hz=>?_,g5,L.mo a5 (fun k hk=>by grind),((bb.ext a3).snoc (Bo.more cv tq.size)).tm cg Z,d1,t9⟩;grind
            .obtain rfl:i=M:=X;rw[Fa,Aef]at G;rw[<-G]at d;have b5:=bn.ext xq;have b4:=tq.own bx Z;refine(O 3∘Zv (BW cp)∘O 1∘Zs b5) ?_;rintro w9 d4 a5;refine(O 3) ?_;have t9:=Tm.set b5 a5 (BE ob);have xw:=ba.trans xq;have en:=b5.lt;obtain⟨A2,c2,rfl,_,c9⟩:=(t9.own b4 Z).slice;have ch:=a0.mo a5 fun k hk=>by have:=(a0.lt k hk).1;simp;omega
             obtain⟨A1,ek,rfl,_,da⟩:=ch.slice;have b1:=(bb.tm t9 Z).rows;refine Gh<|NI Z underlying260 Z NS Z Z Z (d4) Z ?_;refine⟨⟨_,a,0,Z,.inl ⟨Z,⟨ts,o⟩,d,⟨Bg,⟨Bg,Bg⟩,fun t ht=>(cl t ht).1,⟨d8,d6⟩,fun t ht=>(cl t ht).2,fun k hk=>by grind⟩,⟨A1,ek,A2,c2,us,Bg,da,b1,c9⟩,ha⟩⟩,Bu xw a5 xw.size Bx⟩
def FQ(w:Ad)(lo:Y)(vs:Bm)(m n:Y)(P:Y->Bj->Prop):Prop:=Ajb vs=m/\∀i,i<m->∃u l,vs[i]? =J u/\CX w lo u l/\Ajb l=n/\P i l
section
variable{w w1 w2:Ad}{lo g m n i:Y}{vs us:Bm}{P Q:Y->Bj->Prop}{S:Bj}{u:Ah}{l:Bj}
def FQ.keep(h:FQ w lo vs m n P)(k:∀u l,CX w lo u l->CX w2 lo u l):FQ w2 lo vs m n P:=
 ⟨h.1,fun i hi=>by obtain⟨u,l,h1,h2,h3⟩:=h.2 i hi;grind⟩
def FQ.imp(h:FQ w lo vs m n P)(k:∀i l,i<m->P i l->Q i l):FQ w lo vs m n Q:=
 ⟨h.1,fun i hi=>by obtain⟨u,l,h1,h2,h3,h4⟩:=h.2 i hi;grind⟩
def FQ.ext(h:FQ w lo vs m n P)(hx:Bf w w2):FQ w2 lo vs m n P:=h.keep fun _ _ q=>q.ext hx
def FQ.mo(h:FQ w lo vs m n P)(hm:Mo w w2 [g])(hg:g<lo):FQ w2 lo vs m n P:=h.keep fun _ _ q=>Bo.mo q hm fun k hk=>by have:=(q.lt k hk).1;grind
def FQ.moS(h:FQ w lo vs m n P)(hm:Mo w w2 S)(hS:∀k∈S,k<lo):FQ w2 lo vs m n P:=h.keep fun _ _ q=>Bo.mo q hm fun k hk z=>by have:=(q.lt k hk).1;grind
def FQ.set(h:FQ w lo vs m n P)(hi:i<m)(d:CX w lo u l)(hl:Ajb l=n)(k:Q i l)(f:∀j l,j≠i->P j l->Q j l):FQ w lo (vs.set i u) m n Q:=by
 refine⟨by rw[HH];exact h.1,fun j a=>?_⟩;rw[WE];by_cases e:i=j
 .subst e;rw[Ai Z,Ai (by rw[h.1];omega)];grind
 .rw[Ag e];obtain⟨u,l,r,q,p,o⟩:=h.2 j a;grind
def FQ.snoc(h:FQ w lo vs m n P)(a:CX w lo u l)(hl:Ajb l=n)(e:P m l):FQ w lo (vs++[u]) (m+1) n P:=by
 refine⟨by rw[BA,h.1];rfl,fun j d=>?_⟩;rcases Df j m with q|q
 .rw[FN (by rw[h.1];omega)];exact h.2 j q
 .obtain rfl:j=m:=X;rw[Ii (by rw[h.1];simp),h.1,Fa];grind
def FQ.lists(h:FQ w lo vs m n P):∃ls:Ae (Bj),Ajb ls=m/\GF w lo vs ls/\∀i (hi:i<Ajb ls),Ajb ls[i]=n/\P i ls[i]:=by
 have e:∀i,i<m->∃l,∃u,vs[i]? =J u/\CX w lo u l/\Ajb l=n/\P i l:=fun i hi=>by
  obtain⟨u,l,q⟩:=h.2 i hi;grind
 let f:Y->Bj:=fun i=>open Classical in if q:∃l,∃u,vs[i]? =J u/\CX w lo u l/\Ajb l=n/\P i l then q.choose else[]
 have d:∀i,i<m->∃u,vs[i]? =J u/\CX w lo u (f i)/\Ajb (f i)=n/\P i (f i):=fun i hi=>by
  grind
 have a:Ajb ((BF m).map f)=m:=Bi;refine⟨(BF m).map f,a,⟨by rw[a];exact h.1,fun i hi=>?_⟩,fun i hi=>?_⟩
 .obtain⟨u,o,k,j⟩:=d i X;simp_all
 .obtain⟨u,o,k,j⟩:=d i X;simp_all
def Lj(w:Ad)(lo:Y)(us:Bm)(m n:Y)(P:Y->Bj->Prop):Prop:=Ajb us=m/\(∀i,i<m->∃g l,us[i]? =J (.slice (J ⟨g,0,Aa⟩) n n)/\lo<=g/\Bk w g 3 (BD .i64 l)/\Ajb l=n/\P i l)/\∀i j g,i<m->j<m->us[i]? =J (.slice (J ⟨g,0,Aa⟩) n n)->us[j]? =J (.slice (J ⟨g,0,Aa⟩) n n)->i=j
def Lj.keep{P Q:Y->Bj->Prop}(h:Lj w lo us m n P)(k:∀g l,lo<=g->Bk w g 3 (BD .i64 l)->Bk w2 g 3 (BD .i64 l))(hP:∀i l,P i l->Q i l):Lj w2 lo us m n Q:=
 ⟨h.1,fun i hi=>by obtain⟨g,l,h1,h2,h3,h4,h5⟩:=h.2.1 i hi;grind,h.2.2⟩
def Lj.lt{P:Y->Bj->Prop}(h:Lj w lo us m n P){i g:Y}(hi:i<m)(e:us[i]? =J (.slice (J ⟨g,0,Aa⟩) n n)):g<w.heap.size:=by
 obtain⟨j,l,d,f,a,_⟩:=h.2.1 i hi;rw[d]at e;cases e;exact a.lt
def Lj.snoc{P:Y->Bj->Prop}(h:Lj w lo us m n P)(hf:∀i,i<m->¬us[i]? =J (.slice (J ⟨g,0,Aa⟩) n n))(f:lo<=g)(t:Bk w g 3 (BD .i64 l))(hl:Ajb l=n)(x:P m l):Lj w lo (us++[.slice (J ⟨g,0,Aa⟩) n n]) (m+1) n P:=by
 have a:∀i,i<m->(us++[Value.slice (J ⟨g,0,Aa⟩) n n])[i]? =us[i]?:=fun i o=>FN (by rw[h.1];omega)
 have v:(us++[Value.slice (J ⟨g,0,Aa⟩) n n])[m]? =J (.slice (J ⟨g,0,Aa⟩) n n):=by
  rw[Ii (by rw[h.1];simp),h.1,Fa];rfl
 refine⟨by rw[BA,h.1];rfl,fun j k=>?_,fun i j r o k e d=>?_⟩
 .rcases Df j m with q|q
  .rw[a j q];exact h.2.1 j q
  .grind
 .rcases Df i m with p|p<;>rcases Df j m with q|q
  .rw[a i p]at e;rw[a j q]at d;exact h.2.2 i j r p q e d
  .grind
  .grind
  .omega
def Lj.put{P Q:Y->Bj->Prop}(h:Lj w lo us m n P)(hi:i<m)(he:us[i]? =J (.slice (J ⟨g,0,Aa⟩) n n))(hm:Mo w w2 [g])(hb:Bk w2 g 3 (BD .i64 l))(hl:Ajb l=n)(hP:Q i l)(hQ:∀j l,j≠i->P j l->Q j l):Lj w2 lo us m n Q:=
 ⟨h.1,fun j hj=>by
  obtain⟨g',l',h1,h2,h3,h4,h5⟩:=h.2.1 j hj;by_cases e:j=i
  .grind
  .exact⟨g',l',h1,h2,h3.mo hm (by simp;rintro rfl;exact e (h.2.2 j i g' hj hi h1 he)),h4,hQ j l' e h5⟩,h.2.2⟩
end
def Up(c:Y)(l:Bj):Prop:=∀x∈l,x<=c
def mQ{α:Type}{a b:Ae α}{i:Y}{x v:α}(h:i=Ajb a):(a++x::b).set i v=a++v::b:=by
 simp_all
def NK(n many t s:Y):Bj:=(BF s).map (fun s=>if s*many/n=t then 1 else 15)++BJ (n-s) 0
def mw{n a t s v:Y}(h:s<n)(hv:v=if s*a/n=t then 1 else 15):(NK n a t s).set s v=NK n a t (s+1):=by
 have e:n-s=(n-(s+1))+1:=X;unfold NK;rw[e,Km,mQ Bi,Ga,DT,Cx,hv];rfl
def VN(n many:Y):Ae (Bj):=(BF many).map fun t=>NK n many t n
def JE(tabs:Ae (Bj))(gl:Bj)(t:Y):Y:=(BF t).foldl (fun b t=>if Ip (tabs.getD t []) gl<Ip (tabs.getD b []) gl then t else b) 0
def dU(a:Ae (Bj))(d:Bj):JE a d 1=0:=by
 unfold JE;simp
def dV(a:Ae (Bj))(d:Bj)(t:Y):JE a d (t+1)=if Ip (a.getD t []) d<Ip (a.getD (JE a d t) []) d then t else JE a d t:=by
 unfold JE;rw[Ga,Qa,Kh,List.foldl_nil]
def JW(row gl:Bj):Bj:=gl.foldl (fun r y=>r.set y (r.getD y 0+1)) row
def oF{row a:Bj}{j:Y}(h:j<Ajb a):JW row (a.take (j+1))=(JW row (a.take j)).set a[j] ((JW row (a.take j)).getD a[j] 0+1):=by
 unfold JW;rw[LY,BR h,Qa];rfl
def wK(tabs:Ae (Bj))(l:Bj)(n many:Y):Y->Y->Bj
 |0,_=>BJ n 0
 |k+1,t=>if t=JE tabs (EA l k) many then JW (wK tabs l n many k t) (EA l k)else wK tabs l n many k t
def Ee(l:Bj)(n many G:Y):Y->Ae (Bj)
 |0=>VN n many
 |r+1=>(BF many).map fun t=>KK (wK (Ee l n many G r) l n many G t)
def QV(l:Bj)(n many G r:Y):Bj:=(BF G).map fun k=>JE (Ee l n many G r) (EA l k) many
def Pq(tabs:Ae (Bj))(l:Bj)(many:Y)(ks:Bj)(k:Y):Bj:=(BF k).map (fun k=>JE tabs (EA l k) many)++ks.drop k
def zf{a:Ae (Bj)}{l:Bj}{d:Y}{ks:Bj}{k:Y}(h:k<Ajb ks):(Pq a l d ks k).set k (JE a (EA l k) d)=Pq a l d ks (k+1):=by
 unfold Pq;rw[DE h,mQ Bi,Ga,DT,Cx];rfl
def sw{t a:Bj}{i:Y}(h:i<Ajb a):Ip t (a.take (i+1))=Ip t (a.take i)+t.getD a[i] 0:=by
 unfold Ip;rw[LY,BR h,DT,Tk];rfl
def sx(l:Bj)(n a t k:Y)(ht:t<a)(hk:k<grpN (Ajb l))(hn:Ajb l<=1638350)(V:∀x∈l,x<n)(A:Aw AC)(c C lb I tb lo:Y)(kv:Ah)(vs:Bm)(B:Ajb l<=c)(w:Ad)(hs:Sl w C A (BD .i64 l))(aj:Bk w lb 51 [.slice A (Ajb l) c])(hp:Bk w I 260 [.slice (J ⟨tb,0,Aa⟩) a a,kv])(L:Bk w tb 51 vs)(h:Ae (Bj))(hr:FQ w lo vs a n (fun i l=>Up 20 l/\l=h.getD i [])):
 Bn prog 268 [U (t:H),U (k:H),.pointer (J ⟨lb,0,Aa⟩),.pointer (J ⟨I,0,Aa⟩)] w fun v w'=>v=U ((Ip (h.getD t []) (EA l k):Y):H)/\w=w':=by
 obtain⟨u,e,hu,T,ai,q,N⟩:=hr.2 t ht;rw[<-N];have W:Ajb (EA l k)<=50:=by unfold EA;rw[BZ];omega
 have r:∀x∈EA l k,x<n:=fun x hx=>V x (List.mem_of_mem_drop (Kl hx));refine Bw func268 Z ntmps268 (by rfl) Z ?_;refine(O 13∘Zc (ji l k hk X A c C B w hs)) ?_;rintro _ _⟨⟨A',c',rfl,p⟩,rfl⟩;refine(O 4) ?_;generalize EA l k=gl at W r p;obtain⟨Au,cu,rfl,_,G⟩:=T.sl;refine Lo (fun((i,x):Y×Y)=>(i<=Ajb gl/\x<=20*i/\x=Ip e (gl.take i),[(0,U t),(3,.pointer (J ⟨I,0,Aa⟩)),(7,U x),(12,.slice A' (Ajb gl) c'),(13,U ((Ajb gl:Y):H)),(14,U i)],w,Ajb gl-i)) (0,0) ?_ ?_
 .exact⟨BE _,BE _,Z⟩
 .rintro⟨i,x⟩⟨hi,hx,af⟩;refine(O 5)<|Zi (fun E=>?_) fun E=>?_
  .obtain⟨b,f,rfl,_,ab⟩:=p.intAt X;have j:=ab w (Bf.refl _) i E;have K:=r _ (BM E);have o:=sw (t:=e) E;generalize gl[i]=y at j K o;obtain⟨rb,rf,rfl,_,D⟩:=G.intAt X;have d:=D w (Bf.refl _) y X;have hz:=q _ (BM (show y<Ajb e by omega));rw[CG X]at o;generalize e[y]=z at d hz o;refine(O 6∘Zv (Ca j)∘O 8∘Zv (Bp L (hi:=hu))∘O 2∘Zv (Ca d)∘O 8)<|Lb ((i+1),(x+z)) ?_;omega
  .refine(O 6∘Br) ?_;grind
def Jl(w:Ad)(lo n m:Y)(cs:Bm)(p:Pl):Prop:=p.Ok n/\Ajb p.picks=m/\∀W:Ad,(∀k,lo<=k->k<w.heap.size->W.heap[k]? =w.heap[k]?)->PlanAt W W.heap.size cs p
section
variable{w w':Ad}{lo lo' n m g:Y}{cs:Bm}{p:Pl}
def Jl.ext(h:Jl w lo n m cs p)(hx:Bf w w'):Jl w' lo n m cs p:=by
 obtain⟨j,i,f⟩:=h;exact⟨j,i,fun W e=>f W fun k d a=>(e k d (Ks a hx.size)).trans (hx.block k a)⟩
def Jl.mo(h:Jl w lo n m cs p)(hm:Mo w w' [g])(l:g<lo):Jl w' lo n m cs p:=by
 obtain⟨j,i,f⟩:=h;exact⟨j,i,fun W e=>f W fun k d a=>(e k d (Ks a hm.size)).trans (hm.block k a Bg)⟩
def Jl.now(h:Jl w lo n m cs p):p.Ok n/\Ajb p.picks=m/\PlanAt w w.heap.size cs p:=by
 obtain⟨e,d,a⟩:=h;grind
def Jl.low(h:Jl w lo n m cs p)(hl:lo'<=lo):Jl w lo' n m cs p:=by
 obtain⟨j,i,f⟩:=h;exact⟨j,i,fun W e=>f W fun k d a=>e k (BC hl d) a⟩
end
def Mo.Agu{a b c:Ad}{S:Bj}{g:Y}(m:Mo a b S)(k:Mo b c [g])(hg:a.heap.size<=g):Mo a c S:=
 ((m.mono (S':=g::S) fun _ h=>FO _ h).trans (k.mono (S':=g::S) fun x h=>by grind)).fresh fun x h q=>by
  grind
def Mo.low{a b c:Ad}{S:Bj}(m:Mo a b S)(h:Below a.heap.size b c):Mo a c S:=
 ⟨h.os.trans m.os,h.tape.trans m.tape,h.output.trans m.output,BC m.size h.size,fun i hi hS=>(h.block i hi).trans (m.block i hi hS)⟩
def Bk.low{a b:Ad}{B g:Y}{T:Ay}{l:Bm}(h:Bk a g T l)(hb:Below B a b)(hg:g<B):Bk b g T l:=h.of_block (hb.block g hg)
def Up.set{c x i:Y}{l:Bj}(h:Up c l)(hx:x<=c):Up c (l.set i x):=fun y a=>by
 rcases List.mem_or_eq_of_mem_set a with z|z
 .exact h y z
 .omega
def FQ.nil{w:Ad}{lo n:Y}{P:Y->Bj->Prop}:FQ w lo [] 0 n P:=⟨Z,fun i hi=>by omega⟩
def KA(l:Bj)(n:Y):Pl:=⟨Ee l n (Gs (Ajb l)) (grpN (Ajb l)) 4,QV l n (Gs (Ajb l)) (grpN (Ajb l)) 3⟩
def Adn{n a t:Y}(h:t<a):(VN n a).getD t []=NK n a t n:=by
 unfold VN;grind
def Ads{l:Bj}{n a G r t:Y}(h:t<a):(Ee l n a G (r+1)).getD t []=KK (wK (Ee l n a G r) l n a G t):=by
 rw[Ee,Ck,Eh,MY h];rfl
def nG(l:Bj)(n many G:Y):∀r,Ajb (Ee l n many G r)=many
 |0=>by rw[Ee,VN,DF,Hp]
 |r+1=>by rw[Ee,DF,Hp]
def zd{l:Bj}{n a G r:Y}{ks:Bj}(h:Ajb ks=G):Pq (Ee l n a G r) l a ks G=QV l n a G r:=by
 unfold Pq QV;grind
def su{t a:Bj}(h:Up 20 t)(f:Ajb a<=50):Ip t a<=1000:=by
 have:=VK (l:=a.map fun s=>t.getD s 0) (m:=20) fun x d=>by
  obtain⟨y,_,rfl⟩:=Cr.1 d;rw[Ck];rcases e:t[y]? with _|z
  .simp
  .exact h z (WI e)
 rw[DF]at this;unfold Ip;omega
def rN(l:Bj)(n:Y)(hn:3<=n/\n<=258)(h1:1<=Ajb l)(h2:Ajb l<=1638350)(cr:∀x∈l,x<n)(A:Aw AC)(c C:Y)(cb:Ajb l<=c)(w:Ad)(gp:C<=w.heap.size)(hs:Sl w C A (BD .i64 l)):
 Bn prog 230 [.slice A (Ajb l) c,U (n:H)] w fun v w'=>(∃cs,v=.tuple #[.agg (Li cs),U ((0:Y):H)]/\Jl w' w.heap.size n (grpN (Ajb l)) cs (KA l n))/\Bf w w':=by
 unfold KA;obtain⟨d3,ca⟩:=jX (Ajb l);have fc:=UP h1;have fb:grpN (Ajb l)<=32767:=by unfold grpN;omega
 have cz:∀k,k<grpN (Ajb l)->Ajb (EA l k)<=50/\50*k+Ajb (EA l k)<=Ajb l:=fun k hk=>by
  obtain⟨q1,q2⟩:=jl l hk;omega
 refine Bw func230 Z ntmps230 Be Z ?_;refine(O 2) ?_;refine Ma Z Z Z Z ?_;rintro lb w1 L d4 D;refine(Zn) ?_;rintro ob w2 f2 d2 cf;refine(O 5) ?_;have x2:=D.trans cf;have ct:=d4.ext cf;have f6:=D.size;have f5:=cf.size;have ge:=d4.lt;have gd:=d2.lt;refine(O 2∘Zc (kh l n hn h1 h2 cr A c C w2 (hs.ext x2))) ?_;rintro _ _⟨rfl,rfl⟩;refine(O 8∘Zc (uH (Ajb l) h1 X w2)) ?_;rintro _ _⟨rfl,rfl⟩;refine(O 7) ?_;generalize Gs (Ajb l)=many at d3 ca;generalize hG:grpN (Ajb l)=G at fc fb cz;obtain⟨n1,n2⟩:=hn;have cg:∀W,Bn prog 234 [U (Ajb l:H)] W fun v w'=>v=U ((G:Y):H)/\W=w':=fun W=>by rw[<-hG];exact YL (Ajb l) X W
 refine Lc (fun((wr,S,tb,kb):Ad×Y×Y×Y)=>(Bf w2 wr/\w2.heap.size<=S/\w2.heap.size<=tb/\w2.heap.size<=kb/\Bk wr S 260 [.slice (J ⟨tb,0,Aa⟩) many many,.slice (J ⟨kb,0,Aa⟩) G G]/\Bk wr tb 51 (BJ many (.slice Aa 0 0))/\Bk wr kb 3 (BJ G (U 0)),[(1,U n),(2,.pointer (J ⟨lb,0,Aa⟩)),(4,.pointer (J ⟨ob,0,Aa⟩)),(5,U ((0:Y):H)),(6,U many),(8,.pointer (J ⟨S,0,Aa⟩))],wr)) ?_ ?_
 .skip
  refine(Yr 9 (fun w'=>Bf w2 w'/\Bk w' lb 51 [.slice A (Ajb l) c]) ⟨Bf.drew w2,ct.drew⟩) fun a=>(Gv [0,2,3]) ?_;refine Wu 1 4 7 Be ?_ ?_ ?_
  .refine DL 1 Z Z Z underlying258 GV Z Z Z X X ?_;rintro tb w1 L h1 D;have Q:=BC a.1.size L;refine⟨⟨a.1.trans D,a.2.ext D⟩,fun a=>?_⟩;refine Ye 4 7 ?_ ?_
   .refine(Jc 4 (cg w1)) ?_;rintro _ _⟨rfl,rfl⟩;refine⟨a,fun a=>?_⟩;refine Ye 5 7 ?_ ?_
    .refine DL 5 Z Z Z underlying51 BV Z Z Z X X ?_;rintro kb w5 B E o;have P:=BC a.1.size B;refine⟨⟨a.1.trans o,a.2.ext o⟩,fun a=>?_⟩;have h1:=h1.ext o;refine(Gv [6]∘Yn 7) ?_;rintro S w7 N K I;have ab:=BC a.1.size N;refine⟨⟨a.1.trans I,a.2.ext I⟩,fun a=>?_⟩;have h1:=h1.ext I;have E:=E.ext I;refine(Ys 8 K) ?_;rintro w8 T d;have h1:=h1.mo d (by first|simpa using h1.ne K Bc|(simp;omega));have E:=E.mo d (by first|simpa using E.ne K Bc|(simp;omega));refine⟨⟨Bu a.1 d a.1.size Bx,a.2.mo d Bx⟩,fun a=>?_⟩;refine(Yd∘Lm (w8,S,tb,kb)) ?_;exact⟨a.1,ab,Q,P,T,h1,E⟩
    .refine(Jn 7) ?_;rintro S w7 N K I;have ab:=BC a.1.size N;refine⟨⟨a.1.trans I,a.2.ext I⟩,fun a=>?_⟩;have h1:=h1.ext I;refine GW.one 5 Be<|DL 5 Z Z Z underlying51 BV Z Z Z X X ?_;rintro kb w5 B E o;have P:=BC a.1.size B;refine⟨⟨a.1.trans o,a.2.ext o⟩,fun a=>?_⟩;have h1:=h1.ext o;have K:=K.ext o;refine(Gv [6]∘Ys 8 K) ?_;rintro w8 T d;have h1:=h1.mo d (by first|simpa using h1.ne K Bc|(simp;omega));have E:=E.mo d (by first|simpa using E.ne K Bc|(simp;omega));refine⟨⟨Bu a.1 d a.1.size Bx,a.2.mo d Bx⟩,fun a=>?_⟩;refine(Yd∘Lm (w8,S,tb,kb)) ?_;exact⟨a.1,ab,Q,P,T,h1,E⟩
   .refine(Jn 7) ?_;rintro S w7 N K I;have ab:=BC a.1.size N;refine⟨⟨a.1.trans I,a.2.ext I⟩,fun a=>?_⟩;have h1:=h1.ext I;refine(Yc 4 (cg w7)) ?_;rintro _ _⟨rfl,rfl⟩;refine⟨a,fun a=>?_⟩;refine GW.one 5 Be<|DL 5 Z Z Z underlying51 BV Z Z Z X X ?_;rintro kb w5 B E o;have P:=BC a.1.size B;refine⟨⟨a.1.trans o,a.2.ext o⟩,fun a=>?_⟩;have h1:=h1.ext o;have K:=K.ext o;refine(Gv [6]∘Ys 8 K) ?_;rintro w8 T d;have h1:=h1.mo d (by first|simpa using h1.ne K Bc|(simp;omega));have E:=E.mo d (by first|simpa using E.ne K Bc|(simp;omega));refine⟨⟨Bu a.1 d a.1.size Bx,a.2.mo d Bx⟩,fun a=>?_⟩;refine(Yd∘Lm (w8,S,tb,kb)) ?_;exact⟨a.1,ab,Q,P,T,h1,E⟩
  .refine(Jc 4 (cg w2.drew)) ?_;rintro _ _⟨rfl,rfl⟩;refine⟨a,fun a=>?_⟩;refine Wu 1 5 7 Be ?_ ?_ ?_
   .refine DL 1 Z Z Z underlying258 GV Z Z Z X X ?_;rintro tb w1 L h1 D;have Q:=BC a.1.size L;refine⟨⟨a.1.trans D,a.2.ext D⟩,fun a=>?_⟩;refine Ye 5 7 ?_ ?_
    .refine DL 5 Z Z Z underlying51 BV Z Z Z X X ?_;rintro kb w5 B E o;have P:=BC a.1.size B;refine⟨⟨a.1.trans o,a.2.ext o⟩,fun a=>?_⟩;have h1:=h1.ext o;refine(Gv [6]∘Yn 7) ?_;rintro S w7 N K I;have ab:=BC a.1.size N;refine⟨⟨a.1.trans I,a.2.ext I⟩,fun a=>?_⟩;have h1:=h1.ext I;have E:=E.ext I;refine(Ys 8 K) ?_;rintro w8 T d;have h1:=h1.mo d (by first|simpa using h1.ne K Bc|(simp;omega));have E:=E.mo d (by first|simpa using E.ne K Bc|(simp;omega));refine⟨⟨Bu a.1 d a.1.size Bx,a.2.mo d Bx⟩,fun a=>?_⟩;refine(Yd∘Lm (w8,S,tb,kb)) ?_;exact⟨a.1,ab,Q,P,T,h1,E⟩
    .refine(Jn 7) ?_;rintro S w7 N K I;have ab:=BC a.1.size N;refine⟨⟨a.1.trans I,a.2.ext I⟩,fun a=>?_⟩;have h1:=h1.ext I;refine GW.one 5 Be<|DL 5 Z Z Z underlying51 BV Z Z Z X X ?_;rintro kb w5 B E o;have P:=BC a.1.size B;refine⟨⟨a.1.trans o,a.2.ext o⟩,fun a=>?_⟩;have h1:=h1.ext o;have K:=K.ext o;refine(Gv [6]∘Ys 8 K) ?_;rintro w8 T d;have h1:=h1.mo d (by first|simpa using h1.ne K Bc|(simp;omega));have E:=E.mo d (by first|simpa using E.ne K Bc|(simp;omega));refine⟨⟨Bu a.1 d a.1.size Bx,a.2.mo d Bx⟩,fun a=>?_⟩;refine(Yd∘Lm (w8,S,tb,kb)) ?_;exact⟨a.1,ab,Q,P,T,h1,E⟩
   .refine DL 5 Z Z Z underlying51 BV Z Z Z X X ?_;rintro kb w5 B E o;have P:=BC a.1.size B;refine⟨⟨a.1.trans o,a.2.ext o⟩,fun a=>?_⟩;refine Ye 1 7 ?_ ?_
    .refine DL 1 Z Z Z underlying258 GV Z Z Z X X ?_;rintro tb w1 L h1 D;have Q:=BC a.1.size L;refine⟨⟨a.1.trans D,a.2.ext D⟩,fun a=>?_⟩;have E:=E.ext D;refine(Gv [6]∘Yn 7) ?_;rintro S w7 N K I;have ab:=BC a.1.size N;refine⟨⟨a.1.trans I,a.2.ext I⟩,fun a=>?_⟩;have E:=E.ext I;have h1:=h1.ext I;refine(Ys 8 K) ?_;rintro w8 T d;have E:=E.mo d (by first|simpa using E.ne K Bc|(simp;omega));have h1:=h1.mo d (by first|simpa using h1.ne K Bc|(simp;omega));refine⟨⟨Bu a.1 d a.1.size Bx,a.2.mo d Bx⟩,fun a=>?_⟩;refine(Yd∘Lm (w8,S,tb,kb)) ?_;exact⟨a.1,ab,Q,P,T,h1,E⟩
    .refine(Jn 7) ?_;rintro S w7 N K I;have ab:=BC a.1.size N;refine⟨⟨a.1.trans I,a.2.ext I⟩,fun a=>?_⟩;have E:=E.ext I;refine GW.one 1 Be<|DL 1 Z Z Z underlying258 GV Z Z Z X X ?_;rintro tb w1 L h1 D;have Q:=BC a.1.size L;refine⟨⟨a.1.trans D,a.2.ext D⟩,fun a=>?_⟩;have E:=E.ext D;have K:=K.ext D;refine(Gv [6]∘Ys 8 K) ?_;rintro w8 T d;have E:=E.mo d (by first|simpa using E.ne K Bc|(simp;omega));have h1:=h1.mo d (by first|simpa using h1.ne K Bc|(simp;omega));refine⟨⟨Bu a.1 d a.1.size Bx,a.2.mo d Bx⟩,fun a=>?_⟩;refine(Yd∘Lm (w8,S,tb,kb)) ?_;exact⟨a.1,ab,Q,P,T,h1,E⟩
   .refine(Jn 7) ?_;rintro S w7 N K I;have ab:=BC a.1.size N;refine⟨⟨a.1.trans I,a.2.ext I⟩,fun a=>?_⟩;refine Ye 1 5 ?_ ?_
    .refine DL 1 Z Z Z underlying258 GV Z Z Z X X ?_;rintro tb w1 L h1 D;have Q:=BC a.1.size L;refine⟨⟨a.1.trans D,a.2.ext D⟩,fun a=>?_⟩;have K:=K.ext D;refine GW.one 5 Be<|DL 5 Z Z Z underlying51 BV Z Z Z X X ?_;rintro kb w5 B E o;have P:=BC a.1.size B;refine⟨⟨a.1.trans o,a.2.ext o⟩,fun a=>?_⟩;have K:=K.ext o;have h1:=h1.ext o;refine(Gv [6]∘Ys 8 K) ?_;rintro w8 T d;have h1:=h1.mo d (by first|simpa using h1.ne K Bc|(simp;omega));have E:=E.mo d (by first|simpa using E.ne K Bc|(simp;omega));refine⟨⟨Bu a.1 d a.1.size Bx,a.2.mo d Bx⟩,fun a=>?_⟩;refine(Yd∘Lm (w8,S,tb,kb)) ?_;exact⟨a.1,ab,Q,P,T,h1,E⟩
    .refine DL 5 Z Z Z underlying51 BV Z Z Z X X ?_;rintro kb w5 B E o;have P:=BC a.1.size B;refine⟨⟨a.1.trans o,a.2.ext o⟩,fun a=>?_⟩;have K:=K.ext o;refine GW.one 1 Be<|DL 1 Z Z Z underlying258 GV Z Z Z X X ?_;rintro tb w1 L h1 D;have Q:=BC a.1.size L;refine⟨⟨a.1.trans D,a.2.ext D⟩,fun a=>?_⟩;have K:=K.ext D;have E:=E.ext D;refine(Gv [6]∘Ys 8 K) ?_;rintro w8 T d;have E:=E.mo d (by first|simpa using E.ne K Bc|(simp;omega));have h1:=h1.mo d (by first|simpa using h1.ne K Bc|(simp;omega));refine⟨⟨Bu a.1 d a.1.size Bx,a.2.mo d Bx⟩,fun a=>?_⟩;refine(Yd∘Lm (w8,S,tb,kb)) ?_;exact⟨a.1,ab,Q,P,T,h1,E⟩
  .refine(Jn 7) ?_;rintro S w7 N K I;have ab:=BC a.1.size N;refine⟨⟨a.1.trans I,a.2.ext I⟩,fun a=>?_⟩;refine Ye 1 4 ?_ ?_
   .refine DL 1 Z Z Z underlying258 GV Z Z Z X X ?_;rintro tb w1 L h1 D;have Q:=BC a.1.size L;refine⟨⟨a.1.trans D,a.2.ext D⟩,fun a=>?_⟩;have K:=K.ext D;refine(Yc 4 (cg w1)) ?_;rintro _ _⟨rfl,rfl⟩;refine⟨a,fun a=>?_⟩;refine GW.one 5 Be<|DL 5 Z Z Z underlying51 BV Z Z Z X X ?_;rintro kb w5 B E o;have P:=BC a.1.size B;refine⟨⟨a.1.trans o,a.2.ext o⟩,fun a=>?_⟩;have K:=K.ext o;have h1:=h1.ext o;refine(Gv [6]∘Ys 8 K) ?_;rintro w8 T d;have h1:=h1.mo d (by first|simpa using h1.ne K Bc|(simp;omega));have E:=E.mo d (by first|simpa using E.ne K Bc|(simp;omega));refine⟨⟨Bu a.1 d a.1.size Bx,a.2.mo d Bx⟩,fun a=>?_⟩;refine(Yd∘Lm (w8,S,tb,kb)) ?_;exact⟨a.1,ab,Q,P,T,h1,E⟩
   .refine(Jc 4 (cg w7)) ?_;rintro _ _⟨rfl,rfl⟩;refine⟨a,fun a=>?_⟩;refine Ye 1 5 ?_ ?_
    .refine DL 1 Z Z Z underlying258 GV Z Z Z X X ?_;rintro tb w1 L h1 D;have Q:=BC a.1.size L;refine⟨⟨a.1.trans D,a.2.ext D⟩,fun a=>?_⟩;have K:=K.ext D;refine GW.one 5 Be<|DL 5 Z Z Z underlying51 BV Z Z Z X X ?_;rintro kb w5 B E o;have P:=BC a.1.size B;refine⟨⟨a.1.trans o,a.2.ext o⟩,fun a=>?_⟩;have K:=K.ext o;have h1:=h1.ext o;refine(Gv [6]∘Ys 8 K) ?_;rintro w8 T d;have h1:=h1.mo d (by first|simpa using h1.ne K Bc|(simp;omega));have E:=E.mo d (by first|simpa using E.ne K Bc|(simp;omega));refine⟨⟨Bu a.1 d a.1.size Bx,a.2.mo d Bx⟩,fun a=>?_⟩;refine(Yd∘Lm (w8,S,tb,kb)) ?_;exact⟨a.1,ab,Q,P,T,h1,E⟩
    .refine DL 5 Z Z Z underlying51 BV Z Z Z X X ?_;rintro kb w5 B E o;have P:=BC a.1.size B;refine⟨⟨a.1.trans o,a.2.ext o⟩,fun a=>?_⟩;have K:=K.ext o;refine GW.one 1 Be<|DL 1 Z Z Z underlying258 GV Z Z Z X X ?_;rintro tb w1 L h1 D;have Q:=BC a.1.size L;refine⟨⟨a.1.trans D,a.2.ext D⟩,fun a=>?_⟩;have K:=K.ext D;have E:=E.ext D;refine(Gv [6]∘Ys 8 K) ?_;rintro w8 T d;have E:=E.mo d (by first|simpa using E.ne K Bc|(simp;omega));have h1:=h1.mo d (by first|simpa using h1.ne K Bc|(simp;omega));refine⟨⟨Bu a.1 d a.1.size Bx,a.2.mo d Bx⟩,fun a=>?_⟩;refine(Yd∘Lm (w8,S,tb,kb)) ?_;exact⟨a.1,ab,Q,P,T,h1,E⟩
 .rintro⟨wr,S,tb,kb⟩⟨da,ab,Q,P,co,b2,cx⟩;refine(O 8) ?_;have f4:=da.size;have b4:S≠tb:=co.ne b2 Bc;have fu:=co.lt;have b7:=b2.lt;have f0:=cx.lt;refine Lc (fun((w4,vs):Ad×(Bm))=>(Bf w2 w4/\Bk w4 S 260 [.slice (J ⟨tb,0,Aa⟩) many many,.slice (J ⟨kb,0,Aa⟩) G G]/\Bk w4 tb 51 vs/\Bk w4 kb 3 (BJ G (U 0))/\FQ w4 wr.heap.size vs many n (fun i l=>Up 20 l/\l=NK n many i n)/\wr.heap.size<=w4.heap.size,[(1,U n),(2,.pointer (J ⟨lb,0,Aa⟩)),(4,.pointer (J ⟨ob,0,Aa⟩)),(5,U ((0:Y):H)),(6,U many),(8,.pointer (J ⟨S,0,Aa⟩))],w4)) ?_ ?_
  .refine(O 1)<|Lo (fun((t,us,wq):Y×(Bm)×Ad)=>(t<=many/\Bk wq tb 51 (us++BJ (many-t) (.slice Aa 0 0))/\FQ wq wr.heap.size us t n (fun i l=>Up 20 l/\l=NK n many i n)/\Bk wq S 260 [.slice (J ⟨tb,0,Aa⟩) many many,.slice (J ⟨kb,0,Aa⟩) G G]/\Bk wq kb 3 (BJ G (U 0))/\wr.heap.size<=wq.heap.size/\Bf w2 wq,[(1,U n),(2,.pointer (J ⟨lb,0,Aa⟩)),(4,.pointer (J ⟨ob,0,Aa⟩)),(5,U ((0:Y):H)),(6,U many),(8,.pointer (J ⟨S,0,Aa⟩)),(40,U many),(41,U t)],wq,many-t)) (0,([]),wr) ?_ ?_
   .exact⟨BE _,b2,FQ.nil,co,cx,Bv _,da⟩
   .rintro⟨t,us,wq⟩⟨bb,a2,bc,a0,a3,bm,ao⟩;refine(O 5)<|Zi (fun hc=>?_) fun hc=>?_
    .have b0:=bc.1;have eo:t<Ajb (us++BJ (many-t) (Value.slice Aa 0 0)):=by rw[BA,Cq];omega
     refine(O 9∘Yr 7 (fun w'=>Bk w' S 260 [.slice (J ⟨tb,0,Aa⟩) many many,.slice (J ⟨kb,0,Aa⟩) G G]) a0.drew) fun a=>(Gv [0,1,2,3]) ?_;refine GW.one 4 Be<|DL 4 Z Z Z underlying51 BV Z Z Z X X ?_;rintro g w5 B fa o;refine⟨a.ext o,fun a=>?_⟩;refine(Gv [5]∘Yt 6 (a2.drew.ext o) (hlt:=eo)) ?_;rintro w6 dk cq;refine⟨a.mo cq (by simpa using b4),fun a=>?_⟩;refine(Yd∘O 6) ?_;rw[Xm hc b0]at dk;have xd:Bf wq w5:=(Bf.drew wq).trans o
     have c2:Bk w6 g 3 (BD .i64 (BJ n 0)):=by
      rw[KF];exact fa.mo cq (by simp_all;omega)
     have m6:Mo wq w6 [tb]:=(Mo.Agk xd _).trans cq;have B:wq.heap.size<=g:=B;have ea:tb≠g:=by have:=a2.lt;omega
     have gk:S≠g:=by have:=a0.lt;omega
     have b8:((us++[Value.slice (J ⟨g,0,Aa⟩) n n])++BJ (many-(t+1)) (Value.slice Aa 0 0))[t]? =J (.slice (J ⟨g,0,Aa⟩) n n):=by
      rw[Cx,Ii X,b0,Fa];rfl
     refine Lo (fun((s,xs,wi):Y×(Bj)×Ad)=>(s<=n/\(Ajb xs=n/\xs=NK n many t s)/\Up 20 xs/\Bk wi g 3 (BD .i64 xs)/\Bk wi tb 51 ((us++[Value.slice (J ⟨g,0,Aa⟩) n n])++BJ (many-(t+1)) (Value.slice Aa 0 0))/\Mo wq wi [tb],[(1,U n),(2,.pointer (J ⟨lb,0,Aa⟩)),(4,.pointer (J ⟨ob,0,Aa⟩)),(5,U ((0:Y):H)),(6,U many),(8,.pointer (J ⟨S,0,Aa⟩)),(9,U t),(40,U many),(41,U t),(50,U n),(51,U s)],wi,n-s)) (0,(BJ n 0),w6) ?_ ?_
     .exact⟨BE _,⟨Cq,Z⟩,fun x hx=>by grind,c2,dk,m6⟩
     .rintro⟨s,xs,wi⟩⟨gb,⟨ce,c9⟩,df,ec,ba,a5⟩;have bf:=a0.mo a5 (by simpa using b4);refine(O 5)<|Zi (fun bi=>?_) fun bi=>?_
      .have gc:s*many<=258*6:=Oz X ca;refine(O 14∘Zv (Bp ba (hi:=b8))∘O 2∘Zt ec (hlt:=by rw[DO];omega)) ?_;rintro w7 a6 aj;refine(O 11) ?_;replace a6:Bk w7 g 3 (BD .i64 (xs.set s 15)):=by rw[<-Iv];exact a6
       have cj:=ba.mo aj (by simpa using ea);have c7:=a5.Agu aj B;have c6:=df.set (i:=s) (show 15<=20 by decide);refine Zi (fun fd=>?_) fun fd=>?_
       .refine(O 2∘Zv (Bp (bf.mo aj Bg))∘O 2∘Zv (Bp cj (hi:=b8))∘O 2∘Zt a6 (hlt:=by rw[DO,HH];omega)) ?_;rintro w8 c1 d;refine(O 6) ?_;replace c1:Bk w8 g 3 (BD .i64 ((xs.set s 15).set s 1)):=by rw[<-Iv];exact c1
        refine Lb ((s+1),((xs.set s 15).set s 1),w8) ?_;exact⟨bi,⟨Bg,by rw[List.set_set,c9];exact mw bi Bg⟩,c6.set Bc,c1,cj.mo d (by simpa using ea),c7.Agu d B⟩
       .refine(O 6)<|Lb ((s+1),(xs.set s 15),w7) ?_;exact⟨bi,⟨Bg,by rw[c9];exact mw bi Bg⟩,c6,a6,cj,c7⟩
      .refine(O 6)<|Lb ((t+1),(us++[.slice (J ⟨g,0,Aa⟩) n n]),wi) ?_
       have e2:CX wi wr.heap.size (.slice (J ⟨g,0,Aa⟩) n n) xs:=by
        have:=Bo.Agl (s:=1) (cap:=n) ec (BC bm B) (by rw[DO,ce,IP]) CA;unfold CX;rw[ce];exact this
       exact⟨hc,ba,(bc.mo a5 b7).snoc e2 ce ⟨df,Bg⟩,bf,a3.mo a5 (by simpa using(b2.ne cx Bc).symm),BC bm a5.size,Bu ao a5 ao.size Bx⟩
    .obtain rfl:t=many:=X;rw[Fa,TS,List.append_nil]at a2;refine(O 1∘Lm (wq,us)) ?_;grind
  .rintro⟨w4,vs⟩⟨ek,ez,ep,gg,ey,eg⟩;refine(O 2∘Zv (by exact Gf Z Z)∘O 8)<|Lo (fun((r,vs,ks,wq):Y×(Bm)×(Bj)×Ad)=>(r<=4/\Bk wq tb 51 vs/\FQ wq wr.heap.size vs many n (fun i x=>(Up 20 x/\x=(Ee l n many G r).getD i [])/\(0<r->LOk x))/\Bk wq S 260 [.slice (J ⟨tb,0,Aa⟩) many many,.slice (J ⟨kb,0,Aa⟩) G G]/\Bk wq kb 3 (BD .i64 ks)/\(Ajb ks=G/\∀q,r=q+1->ks=QV l n many G q)/\(∀k∈ks,k<many)/\wr.heap.size<=wq.heap.size/\Bf w2 wq,[(1,U n),(2,.pointer (J ⟨lb,0,Aa⟩)),(4,.pointer (J ⟨ob,0,Aa⟩)),(5,U ((0:Y):H)),(6,U many),(8,.pointer (J ⟨S,0,Aa⟩)),(11,.func (.func 268) #[] #[.pointer (J ⟨lb,0,Aa⟩),.pointer (J ⟨S,0,Aa⟩)]),(78,U r)],wq,4-r)) (0,vs,(BJ G 0),w4) ?_ ?_
   .exact⟨BE _,ep,ey.imp fun i x hi h=>⟨⟨h.1,h.2.trans (Adn hi).symm⟩,fun q=>by omega⟩,ez,by rw[KF];omega,⟨Cq,fun q hq=>by omega⟩,fun k hk=>by grind,eg,ek⟩
   .rintro⟨r,vs,ks,wq⟩⟨hr,a2,bc,a0,a3,⟨bh,e6⟩,cv,bm,ao⟩;have fs:=(hs.ext x2).ext ao;have d9:=bh;generalize fv:ks=ks0 at d9;refine(O 5)<|Zi (fun hc=>?_) fun hc=>?_
    .refine(O 6∘Gk) ?_;rintro wb w5 B en o;refine(O 10)<|Lo (fun((t,us,wx):Y×(Bm)×Ad)=>(t<=many/\Bk wx wb 51 (us++BJ (many-t) (.slice Aa 0 0))/\Lj wx wq.heap.size us t n (fun _ x=>x=BJ n 0)/\Bf wq wx,[(1,U n),(2,.pointer (J ⟨lb,0,Aa⟩)),(4,.pointer (J ⟨ob,0,Aa⟩)),(5,U ((0:Y):H)),(6,U many),(8,.pointer (J ⟨S,0,Aa⟩)),(11,.func (.func 268) #[] #[.pointer (J ⟨lb,0,Aa⟩),.pointer (J ⟨S,0,Aa⟩)]),(12,.slice (J ⟨wb,0,Aa⟩) many many),(78,U r),(83,U many),(84,U t)],wx,many-t)) (0,([]),w5) ?_ ?_
     .exact⟨BE _,en,⟨Z,fun i hi=>by omega,fun i j g hi=>by omega⟩,o⟩
     .rintro⟨t,us,wx⟩⟨bb,bq,b3,a4⟩;refine(O 5)<|Zi (fun al=>?_) fun al=>?_
      .have b0:=b3.1;refine(O 12∘Gk) ?_;rintro g w6 f1 c2 a9;refine(O 1) ?_;have b6:=bq.ext a9;have f7:=bq.lt;refine(Zt b6 (hlt:=by rw[BA,Cq];omega)) ?_;rintro w7 bx aj;refine(O 6) ?_;rw[Xm al b0]at bx
       have a6:Bk w7 g 3 (BD .i64 (BJ n 0)):=by
        rw[KF];exact c2.mo aj Bx
       have f3:=a4.size;refine Lb ((t+1),(us++[.slice (J ⟨g,0,Aa⟩) n n]),w7) ?_;refine⟨al,bx,?_,Bu (a4.trans a9) aj (a4.trans a9).size Bx⟩;exact(b3.keep (w2:=w7) (fun g' l' q1 q2=>(q2.ext a9).mo aj (by simpa using(q2.ext a9).ne b6 Bc)) fun _ _ h=>h).snoc (fun i hi e=>by have:=b3.lt hi e;omega) X a6 Cq Z
      .obtain rfl:many=t:=X;rw[Fa,TS,List.append_nil]at bq;refine(O 5∘Zv (Bp (a0.ext a4))∘O 4)<|Lo (fun((k,ks,wi):Y×(Bj)×Ad)=>(k<=G/\(Ajb ks=G/\ks=Pq (Ee l n many G r) l many ks0 k)/\(∀x∈ks,x<many)/\Bk wi kb 3 (BD .i64 ks)/\Bk wi wb 51 us/\Lj wi wq.heap.size us many n (fun i x=>Up (50*k) x/\x=wK (Ee l n many G r) l n many k i)/\Mo wq wi [kb],[(1,U n),(2,.pointer (J ⟨lb,0,Aa⟩)),(4,.pointer (J ⟨ob,0,Aa⟩)),(5,U ((0:Y):H)),(6,U many),(8,.pointer (J ⟨S,0,Aa⟩)),(11,.func (.func 268) #[] #[.pointer (J ⟨lb,0,Aa⟩),.pointer (J ⟨S,0,Aa⟩)]),(12,.slice (J ⟨wb,0,Aa⟩) many many),(78,U r),(95,U G),(96,U k)],wi,G-k)) (0,ks,wx) ?_ ?_
       .exact⟨BE _,⟨bh,Ce⟩,cv,a3.ext a4,bq,b3.keep (fun _ _ _ q=>q) fun i x q=>⟨fun y hy=>by grind,q⟩,Mo.Agk a4 _⟩
       .rintro⟨k,ks,wi⟩⟨gf,⟨bh,d6⟩,cv,cw,db,dv,mi⟩;have bf:=a0.mo mi (by simpa using a0.ne a3 Bc);have bb:=a2.mo mi (by simpa using a2.ne a3 Bc);have cn:=bc.moS mi Bg;have xi:Bf w2 wi:=Bu ao mi ao.size Bx;have e4:=ct.ext xi;have er:=(hs.ext x2).ext xi;refine(O 5)<|Zi (fun a7=>?_) fun a7=>?_
        .have cc:=fun t (ht:t<many)=>sx l n many t k ht (by rw[hG];exact a7) h2 cr A c C lb S tb wr.heap.size _ vs cb wi er e4 bf bb (Ee l n many G r) (cn.imp fun _ _ _ q=>q.1);refine(O 18)<|Lo (fun((t,V):Y×Y)=>(1<=t/\t<=many/\(V<many/\V=JE (Ee l n many G r) (EA l k) t),[(1,U n),(2,.pointer (J ⟨lb,0,Aa⟩)),(4,.pointer (J ⟨ob,0,Aa⟩)),(5,U ((0:Y):H)),(6,U many),(8,.pointer (J ⟨S,0,Aa⟩)),(11,.func (.func 268) #[] #[.pointer (J ⟨lb,0,Aa⟩),.pointer (J ⟨S,0,Aa⟩)]),(12,.slice (J ⟨wb,0,Aa⟩) many many),(14,U k),(15,U V),(16,U t),(78,U r),(95,U G),(96,U k)],wi,many-t)) (1,0) ?_ ?_
         .exact⟨Bv _,X,X,(dU _ _).symm⟩
         .rintro⟨t,V⟩⟨f9,f8,b5,c4⟩;refine(O 7)<|Zi (fun al=>?_) fun al=>?_
          .refine(O 8) ?_;have c3:=dV (Ee l n many G r) (EA l k) t;rw[<-c4]at c3;have ef:=cc t al;have ee:=cc V b5
           have ed:∀t,t<many->Ip ((Ee l n many G r).getD t []) (EA l k)<=1000:=fun t ht=>by
            obtain⟨_,af,_,_,_,⟨hu,et⟩,_⟩:=cn.2 t ht;rw[<-et];exact su hu (cz k a7).1
           have hx:=ed t al;have hy:=ed V b5;generalize Ip ((Ee l n many G r).getD t []) (EA l k)=x at c3 ef hx;generalize Ip ((Ee l n many G r).getD V []) (EA l k)=y at c3 ee hy;refine(DW ef) ?_;rintro _ _⟨rfl,rfl⟩;refine(O 3∘DW ee) ?_;rintro _ _⟨rfl,rfl⟩;refine(O 2)<|Zi (fun a1=>?_) fun a1=>?_
           .refine(O 10)<|Lb ((t+1),t) ?_;grind
           .refine(O 7)<|Lb ((t+1),V) ?_;grind
          .obtain rfl:many=t:=X;refine(O 8∘Zt cw (hlt:=by rw[DO];omega)) ?_;rintro w7 d8 aj;refine(O 3) ?_;rw[Iv]at d8;have m7:=mi.trans aj;have x7:Bf w2 w7:=Bu ao m7 ao.size Bx;have bx:=db.mo aj Bg;have ew:=dv.keep (w2:=w7) (fun g' l' q1 q2=>q2.mo aj Bx) fun _ _ h=>h;have es:=(hs.ext x2).ext x7;refine(Zv (Bp (ct.ext x7))∘O 1∘Zc (ji l k (by rw[hG];exact a7) X A c C cb w7 es)) ?_;rintro _ _⟨⟨A',c',rfl,dn⟩,rfl⟩;refine(O 4) ?_;have e9:=(cz k a7).1;have eb:∀x∈EA l k,x<n:=fun x hx=>cr x (List.mem_of_mem_drop (Kl hx));have e7:=a7
           have d5:ks.set k V=Pq (Ee l n many G r) l many ks0 (k+1):=by
            rw[d6,c4];exact zf X
           have em:∀i,wK (Ee l n many G r) l n many (k+1) i=if i=V then JW (wK (Ee l n many G r) l n many k i) (EA l k)else wK (Ee l n many G r) l n many k i:=fun i=>by rw[wK,<-c4]
           generalize EA l k=gl at e9 eb dn em;have fn:C<=wq.heap.size:=by have:=x2.size;have:=ao.size;omega
           refine Lo (fun((j,wj):Y×Ad)=>(j<=Ajb gl/\Lj wj wq.heap.size us many n (fun i x=>Up (50*k+j) x/\x=if i=V then JW (wK (Ee l n many G r) l n many k i) (gl.take j)else wK (Ee l n many G r) l n many k i)/\Bk wj wb 51 us/\Below wq.heap.size w7 wj,[(1,U n),(2,.pointer (J ⟨lb,0,Aa⟩)),(4,.pointer (J ⟨ob,0,Aa⟩)),(5,U ((0:Y):H)),(6,U many),(8,.pointer (J ⟨S,0,Aa⟩)),(11,.func (.func 268) #[] #[.pointer (J ⟨lb,0,Aa⟩),.pointer (J ⟨S,0,Aa⟩)]),(12,.slice (J ⟨wb,0,Aa⟩) many many),(15,U V),(78,U r),(95,U G),(96,U k),(121,.slice A' (Ajb gl) c'),(122,U ((Ajb gl:Y):H)),(123,U j)],wj,Ajb gl-j)) (0,w7) ?_ ?_
           .exact⟨BE _,ew.keep (fun _ _ _ q=>q) fun i x q=>⟨q.1,by rw[q.2];split<;>rfl⟩,bx,Below.refl _ _⟩
           .rintro⟨j,wj⟩⟨hj,cl,bs,bj⟩;refine(O 5)<|Zi (fun bl=>?_) fun bl=>?_
            .obtain⟨b,f,rfl,_,fi⟩:=(dn.below (bj.mono fn)).intAt X;have cd:=fi wj (Bf.refl _) j bl;have eh:=eb _ (BM bl);have ch:=oF (row:=wK (Ee l n many G r) l n many k V) bl;generalize gl[j]=y at cd eh ch;obtain⟨g,af,q1,q2,q3,q4,q5,q6⟩:=cl.2.1 V b5;rw[Ai Z]at q6;rw[<-q6,CG X]at ch;have hz:=q5 _ (BM (show y<Ajb af by omega));have ds:(BD .i64 af)[y]? =J (U ((af[y]:Y):H)):=by rw[Fx X,CG X]
             generalize af[y]=z at hz ds ch;refine(O 6∘Zv (Ca cd)∘O 6∘Zv (Bp bs (hi:=q1))∘O 2∘Zv (Bp q3 (hi:=ds))∘O 2∘Zt q3 (hlt:=by rw[DO];omega)) ?_;rintro w9 c0 ai;refine(O 6) ?_;replace c0:Bk w9 g 3 (BD .i64 (af.set y (z+1))):=by rw[<-Iv];exact c0
             refine Lb ((j+1),w9) ?_;exact⟨bl,cl.put b5 q1 ai c0 Bg ⟨Up.set (fun x hx=>BC (q5 x hx) X) X,Bg⟩ fun i l' hi h=>⟨fun x hx=>BC (h.1 x hx) X,Bg⟩,bs.mo ai (by simpa using bs.ne q3 Bc),Bu bj ai (BC mi.size (BC aj.size bj.size)) (by simp;omega)⟩
            .obtain rfl:j=Ajb gl:=X;have P:kb<wq.heap.size:=a3.lt;refine(O 6)<|Lb ((k+1),(ks.set k V),wj) ?_
             exact⟨e7,⟨Bg,d5⟩,fun x hx=>by
              grind,d8.low bj P,bs,cl.keep (fun _ _ _ q=>q) fun i l' h=>⟨fun x hx=>BC (h.1 x hx) X,Bg⟩,m7.low bj⟩
        .obtain rfl:G=k:=X;have fr:wq.heap.size<=wb:=B;refine(O 8)<|Lo (fun((t,a8,wz):Y×(Bm)×Ad)=>(t<=many/\Bk wz tb 51 a8/\FQ wz wr.heap.size a8 many n (fun i x=>Up 20 x/\(i<t->LOk x/\x=KK (wK (Ee l n many G r) l n many G i)))/\Mo wi wz [tb],[(1,U n),(2,.pointer (J ⟨lb,0,Aa⟩)),(4,.pointer (J ⟨ob,0,Aa⟩)),(5,U ((0:Y):H)),(6,U many),(8,.pointer (J ⟨S,0,Aa⟩)),(11,.func (.func 268) #[] #[.pointer (J ⟨lb,0,Aa⟩),.pointer (J ⟨S,0,Aa⟩)]),(12,.slice (J ⟨wb,0,Aa⟩) many many),(78,U r),(139,U many),(140,U t)],wz,many-t)) (0,vs,wi) ?_ ?_
         .exact⟨BE _,bb,cn.imp fun i x _ q=>⟨q.1.1,fun z=>by omega⟩,Mo.refl _ _⟩
         .rintro⟨t,a8,wz⟩⟨ht,dg,ck,mz⟩;have d0:=bf.mo mz (by simpa using b4);have c8:wr.heap.size<=wz.heap.size:=BC bm (BC mi.size mz.size);have Q:wb≠tb:=X;have el:=db.mo mz (by simpa using Q);refine(O 5)<|Zi (fun al=>?_) fun al=>?_
          .obtain⟨g,af,q1,q2,q3,q4,q5,q6⟩:=dv.2.1 t al;have e8:=q3.mo mz Bg;have gn:50*G<=1638350:=X;have cm:=fun W (hb:Bk W g 3 (BD .i64 af))=>xn af X X (fun x hx=>BC (q5 x hx) X) (J ⟨g,0,Aa⟩) n _ W hb.sl;rw[q4]at cm;have c5:=jN (w:=af) X X (fun x hx=>BC (q5 x hx) X);refine(O 8∘Yr 13 (fun w'=>Bk w' S 260 [.slice (J ⟨tb,0,Aa⟩) many many,.slice (J ⟨kb,0,Aa⟩) G G]/\Bk w' wb 51 us) (If d0.drew el.drew)) fun a=>(Gv [0,1,2,3,4,5]∘Yw 6 (he:=by exact fun _ fl=>Bp fl.2 (hi:=q1))∘Yc 7 (cm _ e8.drew)) ?_;rintro _ w8⟨⟨u,rfl,cp⟩,bn⟩;refine⟨⟨a.1.ext bn,a.2.ext bn⟩,fun a=>?_⟩;refine(Gv [8,9,10,11]) ?_;obtain⟨Au,cu,rfl,_,_⟩:=cp.sl;refine(Yt 12 (dg.drew.ext bn) (hlt:=by rw[ck.1];omega)) ?_;rintro w9 b1 ai;refine⟨⟨a.1.mo ai (by simpa using b4),a.2.mo ai (by simpa using Q)⟩,fun a=>?_⟩;refine(Yd∘O 5) ?_;have xd:Bf wz w8:=(Bf.drew wz).trans bn;have d1:CX w9 wr.heap.size (.slice Au (Ajb (KK af)) cu) (KK af):=Bo.more (Bo.mo cp ai fun k hk=>by have:=(cp.lt k hk).1;have:wz.heap.size<=k:=this;simp;omega) c8;refine Lb ((t+1),(a8.set t (.slice Au (Ajb (KK af)) cu)),w9) ?_;exact⟨al,b1,((ck.ext xd).mo ai b7).set al d1 (c5.2.trans q4) ⟨fun x hx=>(c5.1.pos x hx).2,fun _=>⟨c5.1,Bg⟩⟩ fun j l' hj q=>⟨q.1,fun z=>q.2 X⟩,mz.trans ((Mo.Agk xd _).trans ai)⟩
          .obtain rfl:many=t:=X;refine(O 6)<|Lb ((r+1),a8,ks,wz) ?_;exact⟨hc,dg,ck.imp fun i l' hi q=>⟨⟨q.1,by rw[Ads hi];grind⟩,fun _=>(q.2 hi).1⟩,d0,cw.mo mz (by simpa using cw.ne bb Bc),⟨bh,fun q hq=>by rw[d6,show q=r by omega];exact zd d9⟩,cv,c8,Bu xi mz xi.size Bx⟩
    .obtain rfl:r=4:=X;have e0:=d2.ext ao;refine(O 3∘Zv (BW a0)∘Zs e0) ?_;rintro w9 e3 ai;refine(O 2) ?_;have xw:=x2.trans ao;obtain⟨ls,g1,g2,g3⟩:=(bc.keep (w2:=w9) fun u l' q=>Bo.mo q ai fun k hk=>by have:=(q.lt k hk).1;simp;omega).lists;have b1:=a2.mo ai Bx;have d7:=a3.mo ai Bx;have e1:Ajb ls=many:=g1;refine(DA e3) ?_
     have b9:∀t∈ls,Ajb t=n/\LOk t:=fun t ht=>by
      obtain⟨i,hi,rfl⟩:=Hq.1 ht;grind
     have e5:ls=Ee l n many G 4:=MX (by rw[e1,nG]) fun i h1 h2=>by
      grind
     rw[<-e5,<-e6 3 Z];refine⟨⟨_,Z,⟨Bg,Bg,fun t ht=>(b9 t ht).1,⟨n1,n2⟩,fun t ht=>(b9 t ht).2,fun k hk=>by grind⟩,bh,fun W hW=>⟨_,many,_,G,vs,Bg,(b1.of_block (hW tb X b1.lt)).sl,(g2.keep fun u l' q=>Bo.Agx q fun k hk=>hW k (by have:=(q.lt k hk).1;omega) (q.lt k hk).2).rows,(d7.of_block (hW kb X d7.lt)).sl⟩⟩,Bu xw ai xw.size Bx⟩
def QZ(p:Pl){n:Y}(a:p.Ok n)(l:Bj)(f:grpN (Ajb l)<=Ajb p.picks)(hl:∀x∈l,x<n):∀i,i<=Ajb l->Ajb (Ev p (l.take i))<=20*i
 |0,_=>Bv _
 |i+1,h=>by
  have ih:=QZ p a l f hl i X;have hid:i/50<Ajb p.picks:=by unfold grpN at f;omega
  have e:=a.lt _ (BM hid);have j:=hl _ (BM (show i<Ajb l by omega));rw[lQ p l X,BA,CG hid];generalize p.picks[i/50]=k at e;generalize l[i]=x at j;have d:=BM e;rw[show p.tabs.getD k _=p.tabs[k]from by grind];have m:=a.len _ d;have g:=(a.ok _ d).pos;generalize p.tabs[k]=t at m g;unfold Lp;rw[nb_length,CG X];have:=(g _ (BM (show x<Ajb t by omega))).2;omega
def Vn(p:Pl){n:Y}(a:p.Ok n):Ajb (planBits p)<=1000000:=by
 have h:=VE _ (BF (Ajb p.tabs)) Bi Bi a.lt;have f:=Oz a.tabs.2 a.picks.2;have k:=a.low;have i:=XK _ fun t d=>⟨by rw[a.len t d];omega,fun e=>by have:=a.len t d;grind,fun x g=>((a.ok t d).pos x g).2⟩;have j:=a.tabs;unfold planBits;simp only[BA,nb_length];omega
def Ack(p:Pl)(n:Y)(q:p.Ok n)(l:Bj)(G:Ajb l<=1638350)(k:grpN (Ajb l)<=Ajb p.picks)(m:∀x∈l,x<n)(B:Y)(V:Bm)(A:Aw AC)(c:Y)(w:Ad)(h:PlanAt w B V p)(hs:Sl w B A (BD .i64 l))(T:B<=w.heap.size):
 Bn prog 232 [.agg V.toArray,.slice A (Ajb l) c] w fun v w'=>v=.tuple #[U ((Dj p l:Y):H),U ((0:Y):H)]/\Bf w w':=by
 have j:=h;have k1:=Vn p q;have W:=QZ p q l k m (Ajb l) X;rw[DV]at W;obtain⟨A1,c1,A2,c2,vs,rfl,s1,s2,s3⟩:=h;refine Bw Bi Z ntmps232 (by rfl) Z ?_;refine(O 2) ?_;refine Dz Z Z Z ?_;rintro pb w1 S o d;refine(O 5) ?_;have e:=d.mono T;have af:=d.size;refine(Zv (BW o)∘O 1∘Zc (jh p n q l G k m B _ A c _ (j.below e) (hs.below e) X)) ?_;rintro _ w2⟨rfl,C⟩;refine(O 3∘Zn) ?_;rintro bb w3 Q L i;refine(Zs L) ?_;rintro w4 K E;refine(O 8) ?_;have t:Bf _ _:=Bu i E i.size Bx;have a:=C.trans t;have N:=d.trans a;refine(Cb 17∘O 4∘Zv (BW (o.ext a))∘Zc (jm p n q B _ _ (j.below (e.trans (a.mono X))) (BC T N.size))) ?_;rintro _ w5⟨rfl,y⟩;refine(O 3∘Zn) ?_;rintro ab w6 P I g;refine(Zs I) ?_;rintro w7 ai D;refine(O 5) ?_;have r:Bf _ _:=Bu g D g.size Bx;have f:=y.trans r;refine(O 2∘Zv (Bp (K.ext f))∘O 4∘BG) ?_;exact⟨Z,N.trans f⟩
end
end Go.Proofs.YtkmlafmjaeeanaaGreatDoor
