/- TopSalvage, part C: functions of sorting and rotation, symbols, lengths of codes, groups. -/
import Derived.Test.YtkmlafmjaeeanaaGreatDoorMrsB
set_option linter.all false
set_option maxHeartbeats 2000000
set_option maxRecDepth 20000
open Go Go.RowKit Go.Proofs.Tryz
open _root_ renaming rfl→Z,Nat→Y,Int→H,List→Ae,if_neg→Ag,if_pos→Aj,Array→Ap,Bool→Ar,Option→Av,trivial→Ay,congrArg→AF,absurd→AH,UInt8→AI,String→AJ,decide_eq_true→AM,decide_eq_false→AN,of_decide_eq_true→AO,dif_pos→AQ,of_decide_eq_false→AR
open _root_.And renaming intro→Il
open _root_.Array renaming replicate→Jv
open _root_.Bool renaming true→Af,false→Ai
open _root_.Go renaming World→Ad,Value→Ah,TypeId→Aw,Addr→AB,Program→AC,Operand→AD,Act→AE,Oper→AG,IntKind→AK,Code→AL,Exit→AP
open _root_.List renaming range→BE,replicate→BH,length→DQ,range'→Hh,Pairwise→HK,toArray→LZ,Perm→Oe,length→Alz
open _root_.Nat renaming blt→BK,log2→Ed,beq→JE,cast→Om,reducePow→Xe
open _root_.Option renaming some→Qf,some→J,none→Aa
open _root_.UInt8 renaming ofNat→BV
open Go.Proofs.Tryz renaming prog→eD
open _root_.Go.Value renaming ownBlock→Pi
namespace Go.Proofs.YtkmlafmjaeeanaaGreatDoor
attribute [local irreducible] OW KW QW GW NV
section
attribute [local irreducible] EX
open Bz
def IA{k:AK}(l:Bj)(i x:Y):(BD k l).set i (.int k (x:H))=BD k (l.set i x):=by
 unfold BD;rw[List.map_set]
def KF(k:AK)(n x:Y):BD k (BH n x)=BH n (.int k (x:H)):=by
 unfold BD;rw[List.map_replicate]
def CG{l:Bj}{i:Y}(h:i<Alz l):l.getD i 0=l[i]:=by
 rw[Cd,BQ h];rfl
def jY{N:Y}(A:Av AB)(c a:Y)(rank:Bj)(i:Y)(g:Alz rank=N)(hi:i<N)(d:N<=1000000000)(e:a<=1000000000)(C:Y)(w:Ad)(h:Sl w C A (BD .i64 rank)):
 Bm eD 263 [.agg (NE A N c a).toArray,Bb (i:H)] w fun v w'=>v=.tuple #[Bb ((rank.getD i 0:Y):H),Bb ((rank.getD ((i+a)%Alz rank) 0:Y):H)]/\Be w w':=by
 subst g;exact Zx A c _ _ i hi d e C w h
def rT{s:Bg}{K b:Y}{rank:Bj}(hk:Key s K rank b)(a0:Alz rank=Alz s)(h0:0<Alz s)(hn:Alz s<=1000000000)(hb:b<=1000000000)(o:Bj)(ho:Sd s K o)(rb g nb T:Y)(w:Ad)(ba:Bk w rb 3 (BD .i64 rank))(hg:Bk w g 3 (BD .i64 o))(a3:Bk w nb 3 [Bb (Alz s:H)])(a1:Bk w T 51 [.slice (J ⟨g,0,Aa⟩) (Alz s) (Alz s)]):
 Bm eD 262 [.agg (NE (J ⟨rb,0,Aa⟩) (Alz s) (Alz s) b).toArray,.pointer (J ⟨nb,0,Aa⟩),.pointer (J ⟨T,0,Aa⟩)] w fun v w'=>∃vb next,v=.slice (J ⟨vb,0,Aa⟩) (Alz s) (Alz s)/\w.heap.size<=vb/\Bk w' vb 3 (BD .i64 next)/\Alz next=Alz s/\(∀k,k<Alz o->next.getD (o.getD k 0) 0=FJ s K o k)/\Be w w':=by
 have b0:=ho.lng;have m:∀k,k<Alz s->o.getD k 0<Alz s:=fun k hk=>by rw[CG X];exact ho.lt _ Bh
 have bf:∀i j,i<Alz s->j<Alz s->o.getD i 0=o.getD j 0->i=j:=fun i j Q hj e=>by
  rw[CG X,CG X]at e;exact(MZ (ho.perm.nodup_iff.2 RR)).1 e
 refine Bw Bh Z ntmps262 Bi Z ?_;refine(O 2) ?_;refine Dq Z Z Z ?_;rintro xb w1 bx a7 E;refine(O 4∘Zv (Bo (a3.a E))∘Gc) ?_;rintro vb w2 bs bn aj;refine(O 8) ?_;have x2:=E.trans aj;have a8:xb≠vb:=by have:=a7.lt;omega
 have a9:w.heap.size<=vb:=by have:=E.size;omega
 refine Lo (fun((k,r,wr))=>(1<=k/\k<=Alz s/\Alz r=Alz s/\(∀j,j<k->r.getD (o.getD j 0) 0=FJ s K o j)/\Bk wr vb 3 (BD .i64 r)/\Mo w2 wr [vb],[(1,.pointer (J ⟨nb,0,Aa⟩)),(2,.pointer (J ⟨T,0,Aa⟩)),(3,.pointer (J ⟨xb,0,Aa⟩)),(5,.slice (J ⟨vb,0,Aa⟩) (Alz s) (Alz s)),(6,Bb k)],wr,Alz s-k)) (1,(BH (Alz s) 0),w2) ?_ ?_
 .refine⟨X,h0,Cn,fun j hj=>?_,by rw[KF];exact bn,Mo.refl _ _⟩;obtain rfl:j=0:=X;rw[CG (Cn▸m 0 h0),List.getElem_replicate];rfl
 .rintro⟨k,r,wr⟩⟨b4,b3,L,I,hv,N⟩;have V:Be w _:=Bp x2 N x2.size Bv;have ab:=(a7.a aj).j N (by simpa using a8);have b2:=a3.a V;have G:=a1.a V;have S:=hg.a V;have ao:=ba.a V;refine(O 7)<|Zi (fun hc=>?_) fun hc=>?_
  .have i1:=m (k-1) X;have i2:=m k hc;refine(O 4∘Yr 12 _ (Be.drew wr)) fun y=>(Yw 0 (he:=by exact fun _ l=>BX (ab.a l))∘Yw 1 (he:=by exact fun _ l=>Bo (G.a l))∘Gv [2,3,4]∘Yw 5 (he:=by exact fun _ l=>Bo (S.a l) (hi:=FB X))∘Yc 6 (jY (J ⟨rb,0,Aa⟩) (Alz s) b rank (o.getD (k-1) 0) a0 i1 hn hb _ wr.drew (ao.a (Be.drew wr)).sl)) ?_;rintro _ w5⟨rfl,ai⟩;refine⟨y.trans ai,fun y=>?_⟩;refine(Gv [7,8,9,10,11]∘Yd∘O 1) ?_;have W:=(Be.drew wr).trans ai;refine(Yr 11 (fun w'=>Be w5 w') (Be.drew w5)) fun y=>(Yw 0 (he:=by exact fun _ l=>BX ((ab.a W).a l))∘Yw 1 (he:=by exact fun _ l=>Bo ((G.a W).a l))∘Gv [2,3]∘Yw 4 (he:=by exact fun _ l=>Bo ((S.a W).a l) (hi:=FB X))∘Yc 5 (jY (J ⟨rb,0,Aa⟩) (Alz s) b rank (o.getD k 0) a0 i2 hn hb _ w5.drew ((ao.a W).a (Be.drew w5)).sl)) ?_;rintro _ w6⟨rfl,af⟩;refine⟨y.trans af,fun y=>?_⟩;refine(Gv [6,7,8,9,10]∘Yd∘O 1) ?_;have x6:=W.trans ((Be.drew w5).trans af);have al:=(hv.a x6).drew;have a2:=(G.a x6).drew;have a4:=(S.a x6).drew;have bc:T≠vb:=by have:=a1.lt;omega
   have bi:g≠vb:=by have:=hg.lt;omega
   have h:=hk.same _ _ i1 i2;generalize ha:rank.getD (o.getD (k-1) 0) 0=a at h;generalize b6:rank.getD (o.getD k 0) 0=c at h;generalize b7:rank.getD ((o.getD (k-1) 0+b)%Alz rank) 0=bb at h;generalize b5:rank.getD ((o.getD k 0+b)%Alz rank) 0=d at h;have p:r.getD (o.getD (k-1) 0) 0=FJ s K o (k-1):=I (k-1) X;have bl:=XK s K o (k-1);generalize bm:FJ s K o (k-1)=cg at p bl;refine(Yr 15 (fun w'=>Bk w' T 51 [.slice (J ⟨g,0,Aa⟩) (Alz s) (Alz s)]/\Bk w' g 3 (BD .i64 o)) (Il a2 a4)) fun y=>(Gv [0,1,2,3]∘Yw 4 (he:=by exact fun _ l=>Bo l.2 (hi:=FB X))∘Gv [5,6,7,8,9]∘Yw 10 (he:=by exact fun _ l=>Bo l.2 (hi:=FB X))∘Gv [11]∘Yo 12 (he:=by exact Bo al (hi:=FB X))) fun y=>(Gv [13]∘Yt 14 al (hlt:=by rw[DO];omega)) ?_;rintro w7 C P;refine⟨⟨a2.j P (by simpa using bc),a4.j P (by simpa using bi)⟩,fun y=>?_⟩;refine(Yd∘O 1) ?_;rw[p,IA]at C;have bj:=y.2;have b1:=y.1;have m7:Mo w2 w7 [vb]:=(N.trans (Mo.Akj (x6.trans (Be.drew w6)) _)).trans P
   have B:FJ s K o k=cg+if pre s K (o.getD (k-1) 0)≠pre s K (o.getD k 0)then 1 else 0:=by
    obtain⟨j,rfl⟩:∃j,k=j+1:=⟨k-1,X⟩;rw[<-bm];rfl
   have D:∀x,x=FJ s K o k->∀j,j<k+1->(r.set (o.getD k 0) x).getD (o.getD j 0) 0=FJ s K o j:=fun x hx j hj=>by
    rw[CG (by rw[Hg];have:=m j X;omega),TS];by_cases e:o.getD k 0=o.getD j 0
    .rw[Aj e,hx,bf k j hc X e]
    .rw[Ag e,<-CG,I j];rcases CM j k with q|q
     .exact q
     .exact AH (by rw[show j=k by omega]) e
   refine Lc (fun(d8:Ar)=>((d8=Af↔pre s K (o.getD (k-1) 0)≠pre s K (o.getD k 0)),[(1,.pointer (J ⟨nb,0,Aa⟩)),(2,.pointer (J ⟨T,0,Aa⟩)),(3,.pointer (J ⟨xb,0,Aa⟩)),(5,.slice (J ⟨vb,0,Aa⟩) (Alz s) (Alz s)),(6,Bb k),(58,.bool d8)],w7)) ?_ ?_
   .refine(O 5)<|Zd 54 (fun c1=>?_) fun c1=>?_
    .refine(O 5∘Lm Af) ?_;exact⟨fun _=>h.1 (.inl c1),fun _=>rfl⟩
    .refine(O 5∘Lm (decide (bb≠d))) ?_;rw[decide_eq_true_eq];exact⟨fun q=>h.1 (.inr q),fun q=>(h.2 q).resolve_left c1⟩
   .rintro d8 a5;refine Ga Z (fun A=>?_) (fun A=>?_)
    .have bd:=a5.1 A;rw[Aj bd]at B
     have bq:(BD .i64 (r.set (o.getD k 0) cg))[o.getD k 0]? =J (Bb (cg:H)):=by
      rw[FB (by rw[Hg];omega),CG (by rw[Hg];omega),List.getElem_set_self]
     refine(O 5∘Zv (Bo bj (hi:=FB X))∘O 1∘Zv (Bo C (hi:=bq))∘O 2∘Zt C (hlt:=by rw[DO,Hg];omega)) ?_;rintro w8 a6 bh;refine(O 7) ?_;rw[IA,List.set_set]at a6;refine Lb ((k+1),(r.set (o.getD k 0) (cg+1)),w8) ?_;exact⟨X,hc,by rw[Hg];exact L,D _ B.symm,a6,m7.trans bh⟩
    .have t:¬(pre s K (o.getD (k-1) 0)≠pre s K (o.getD k 0)):=fun q=>by rw[a5.2 q]at A;cases A
     rw[Ag t]at B;refine(O 7)<|Lb ((k+1),(r.set (o.getD k 0) cg),w7) ?_;exact⟨X,hc,by rw[Hg];exact L,D _ B.symm,C,m7⟩
  .refine(O 6∘Bu) ?_;refine⟨vb,r,Z,a9,hv,L,fun j hj=>I j X,V⟩
def sZ{s:Bg}{K:Y}{o next:Bj}(a:Sd s K o)(hl:Alz next=Alz s)(h:∀k,k<Alz o->next.getD (o.getD k 0) 0=FJ s K o k)(p:Alz s<=1000000000):∀x∈next,x<=1000000000:=fun x g=>by
 obtain⟨i,l,rfl⟩:=Hw.1 g;have j:i∈o:=a.perm.mem_iff.2 Bf;obtain⟨k,d,e⟩:=Hw.1 j;have m:=h k d;rw[CG d,e,CG l]at m;have:=XK s K o k;have:=a.lng;omega
def fill{α:Type}(f:Y->α)(z:α)(n i:Y):Ae α:=(BE i).map f++BH (n-i) z
section
variable{α:Type}{f:Y->α}{z:α}{n i:Y}
def QD(h:i<=n):Alz (fill f z n i)=n:=by simp[fill];omega
def gW:fill f z n 0=BH n z:=by simp[fill]
def QC:fill f z n n=(BE n).map f:=by simp[fill]
def QE(h:i<n):(fill f z n i).set i (f i)=fill f z n (i+1):=by
 unfold fill;rw[LX _ _ Bh,Dl,Hf,EY,show n-i=n-(i+1)+1 by omega,JC,IW,FT,DW,Cq];rfl
end
def jS(n:Y):(BE n).map (fun(j:Y)=>Value.int .i64 (j:H))=BD .i64 (BE n):=rfl
def yg(s:Bg):(BE (Alz s)).map (fun(j:Y)=>Value.int .i64 (((s.getD j 0).toNat:Y):H))=BD .i64 (s.map fun b=>b.toNat):=by
 unfold BD;apply MX Bh;intro i a d;simp at a;simp[BQ a]
def Aag(s:Bg)(hs:Alz s<=1000000)(w:Ad):
 Bm eD 226 [str s] w fun v w'=>Be w w'/\∃g o,v=.slice (J ⟨g,0,Aa⟩) (Alz s) (Alz s)/\w.heap.size<=g/\Bk w' g 3 (BD .i64 o)/\IsOrd s o:=by
 refine Bw Bh Z ntmps226 Bi Z ?_;refine(O 8∘Mf) ?_;rintro nb w1 A cs l;refine(Zt cs) ?_;rintro w2 a3 cj;refine(O 2) ?_;have x2:Be w _:=Bp l cj l.size Bv;have c0:=a3.lt;refine Lc (fun((wr,g,y,G))=>(Be w2 wr/\w2.heap.size<=g/\w2.heap.size<=y/\w2.heap.size<=G/\g≠y/\Bk wr g 3 (BH (Alz s) (Bb 0))/\Bk wr y 3 (BH (Alz s) (Bb 0))/\Bk wr G 51 [.slice (J ⟨g,0,Aa⟩) (Alz s) (Alz s)],[(0,str (s)),(3,.pointer (J ⟨nb,0,Aa⟩)),(4,.pointer (J ⟨G,0,Aa⟩)),(5,.slice (J ⟨y,0,Aa⟩) (Alz s) (Alz s))],wr)) ?_ ?_
 .skip
  refine(Yr 7 (fun w'=>Be _ w'/\Bk w' _ 3 [.int _ _]) ⟨Be.drew _,a3.drew⟩) fun a=>(Gv [0,2]) ?_;refine WE 1 3 4 Bi ?_ ?_ ?_
  .refine DK 1 Z Z Z hU BZ Z Z Z X X ?_;rintro g w1 A h l;have E:=BA a.1.size A
   try have m:g≠y:=(by have:=k.lt;omega)
   refine⟨⟨a.1.trans l,a.2.a l⟩,fun a=>?_⟩;refine Ye 3 4 ?_ ?_
   .refine DK 3 Z Z Z hU BZ Z Z Z X X ?_;rintro y V p k e;have B:=BA a.1.size p
    try have m:g≠y:=(by have:=h.lt;omega)
    refine⟨⟨a.1.trans e,a.2.a e⟩,fun a=>?_⟩;have h:=h.a e;refine(Ym 4) ?_;rintro G w4 C t r;have D:=BA a.1.size C;refine⟨⟨a.1.trans r,a.2.a r⟩,fun a=>?_⟩;have h:=h.a r;have k:=k.a r;refine(Yt 5 t) ?_;rintro I q d;have h:=h.j d (by first|simpa using h.ne t Bc|(simp;omega));have k:=k.j d (by first|simpa using k.ne t Bc|(simp;omega));refine⟨⟨Bp a.1 d a.1.size Bv,a.2.j d Bv⟩,fun a=>?_⟩;refine(Gv [6]∘Yd∘Lm (I,g,y,G)) ?_;exact⟨a.1,E,B,D,m,h,k,q⟩
   .refine(Jm 4) ?_;rintro G w4 C t r;have D:=BA a.1.size C;refine⟨⟨a.1.trans r,a.2.a r⟩,fun a=>?_⟩;have h:=h.a r;refine Ye 3 5 ?_ ?_
    .refine DK 3 Z Z Z hU BZ Z Z Z X X ?_;rintro y V p k e;have B:=BA a.1.size p
     try have m:g≠y:=(by have:=h.lt;omega)
     refine⟨⟨a.1.trans e,a.2.a e⟩,fun a=>?_⟩;have h:=h.a e;have t:=t.a e;refine(Yt 5 t) ?_;rintro I q d;have h:=h.j d (by first|simpa using h.ne t Bc|(simp;omega));have k:=k.j d (by first|simpa using k.ne t Bc|(simp;omega));refine⟨⟨Bp a.1 d a.1.size Bv,a.2.j d Bv⟩,fun a=>?_⟩;refine(Gv [6]∘Yd∘Lm (I,g,y,G)) ?_;exact⟨a.1,E,B,D,m,h,k,q⟩
    .refine dt 5 Z Z GY Z Z (by first|rfl|assumption) (t) Bh ?_;rintro I q d;have h:=h.j d (by first|simpa using h.ne t Bc|(simp;omega));refine⟨⟨Bp a.1 d a.1.size Bv,a.2.j d Bv⟩,fun a=>?_⟩;refine GW.one 3 Bi<|DK 3 Z Z Z hU BZ Z Z Z X X ?_;rintro y V p k e;have B:=BA a.1.size p
     try have m:g≠y:=(by have:=h.lt;omega)
     refine⟨⟨a.1.trans e,a.2.a e⟩,fun a=>?_⟩;have h:=h.a e;have q:=q.a e;refine(Gv [6]∘Yd∘Lm (V,g,y,G)) ?_;exact⟨a.1,E,B,D,m,h,k,q⟩
  .refine DK 3 Z Z Z hU BZ Z Z Z X X ?_;rintro y V p k e;have B:=BA a.1.size p
   try have m:g≠y:=(by have:=h.lt;omega)
   refine⟨⟨a.1.trans e,a.2.a e⟩,fun a=>?_⟩;refine Ye 1 4 ?_ ?_
   .refine DK 1 Z Z Z hU BZ Z Z Z X X ?_;rintro g w1 A h l;have E:=BA a.1.size A
    try have m:g≠y:=(by have:=k.lt;omega)
    refine⟨⟨a.1.trans l,a.2.a l⟩,fun a=>?_⟩;have k:=k.a l;refine(Ym 4) ?_;rintro G w4 C t r;have D:=BA a.1.size C;refine⟨⟨a.1.trans r,a.2.a r⟩,fun a=>?_⟩;have k:=k.a r;have h:=h.a r;refine(Yt 5 t) ?_;rintro I q d;have k:=k.j d (by first|simpa using k.ne t Bc|(simp;omega));have h:=h.j d (by first|simpa using h.ne t Bc|(simp;omega));refine⟨⟨Bp a.1 d a.1.size Bv,a.2.j d Bv⟩,fun a=>?_⟩;refine(Gv [6]∘Yd∘Lm (I,g,y,G)) ?_;exact⟨a.1,E,B,D,m,h,k,q⟩
   .refine(Jm 4) ?_;rintro G w4 C t r;have D:=BA a.1.size C;refine⟨⟨a.1.trans r,a.2.a r⟩,fun a=>?_⟩;have k:=k.a r;refine GW.one 1 Bi<|DK 1 Z Z Z hU BZ Z Z Z X X ?_;rintro g w1 A h l;have E:=BA a.1.size A
    try have m:g≠y:=(by have:=k.lt;omega)
    refine⟨⟨a.1.trans l,a.2.a l⟩,fun a=>?_⟩;have k:=k.a l;have t:=t.a l;refine(Yt 5 t) ?_;rintro I q d;have k:=k.j d (by first|simpa using k.ne t Bc|(simp;omega));have h:=h.j d (by first|simpa using h.ne t Bc|(simp;omega));refine⟨⟨Bp a.1 d a.1.size Bv,a.2.j d Bv⟩,fun a=>?_⟩;refine(Gv [6]∘Yd∘Lm (I,g,y,G)) ?_;exact⟨a.1,E,B,D,m,h,k,q⟩
  .refine(Jm 4) ?_;rintro G w4 C t r;have D:=BA a.1.size C;refine⟨⟨a.1.trans r,a.2.a r⟩,fun a=>?_⟩;refine Ye 1 3 ?_ ?_
   .refine DK 1 Z Z Z hU BZ Z Z Z X X ?_;rintro g w1 A h l;have E:=BA a.1.size A
    try have m:g≠y:=(by have:=k.lt;omega)
    refine⟨⟨a.1.trans l,a.2.a l⟩,fun a=>?_⟩;have t:=t.a l;refine Ye 3 5 ?_ ?_
    .refine DK 3 Z Z Z hU BZ Z Z Z X X ?_;rintro y V p k e;have B:=BA a.1.size p
     try have m:g≠y:=(by have:=h.lt;omega)
     refine⟨⟨a.1.trans e,a.2.a e⟩,fun a=>?_⟩;have t:=t.a e;have h:=h.a e;refine(Yt 5 t) ?_;rintro I q d;have h:=h.j d (by first|simpa using h.ne t Bc|(simp;omega));have k:=k.j d (by first|simpa using k.ne t Bc|(simp;omega));refine⟨⟨Bp a.1 d a.1.size Bv,a.2.j d Bv⟩,fun a=>?_⟩;refine(Gv [6]∘Yd∘Lm (I,g,y,G)) ?_;exact⟨a.1,E,B,D,m,h,k,q⟩
    .refine dt 5 Z Z GY Z Z (by first|rfl|assumption) (t) Bh ?_;rintro I q d;have h:=h.j d (by first|simpa using h.ne t Bc|(simp;omega));refine⟨⟨Bp a.1 d a.1.size Bv,a.2.j d Bv⟩,fun a=>?_⟩;refine GW.one 3 Bi<|DK 3 Z Z Z hU BZ Z Z Z X X ?_;rintro y V p k e;have B:=BA a.1.size p
     try have m:g≠y:=(by have:=h.lt;omega)
     refine⟨⟨a.1.trans e,a.2.a e⟩,fun a=>?_⟩;have h:=h.a e;have q:=q.a e;refine(Gv [6]∘Yd∘Lm (V,g,y,G)) ?_;exact⟨a.1,E,B,D,m,h,k,q⟩
   .refine DK 3 Z Z Z hU BZ Z Z Z X X ?_;rintro y V p k e;have B:=BA a.1.size p
    try have m:g≠y:=(by have:=h.lt;omega)
    refine⟨⟨a.1.trans e,a.2.a e⟩,fun a=>?_⟩;have t:=t.a e;refine GW.one 1 Bi<|DK 1 Z Z Z hU BZ Z Z Z X X ?_;rintro g w1 A h l;have E:=BA a.1.size A
    try have m:g≠y:=(by have:=k.lt;omega)
    refine⟨⟨a.1.trans l,a.2.a l⟩,fun a=>?_⟩;have t:=t.a l;have k:=k.a l;refine(Yt 5 t) ?_;rintro I q d;have k:=k.j d (by first|simpa using k.ne t Bc|(simp;omega));have h:=h.j d (by first|simpa using h.ne t Bc|(simp;omega));refine⟨⟨Bp a.1 d a.1.size Bv,a.2.j d Bv⟩,fun a=>?_⟩;refine(Gv [6]∘Yd∘Lm (I,g,y,G)) ?_;exact⟨a.1,E,B,D,m,h,k,q⟩
 .rintro⟨wr,g,y,G⟩⟨xr,E,B,D,m,hg,hf,a0⟩;have ce:=a3.a xr;have cw:=x2.size;have W:=(hg.ne a0 Bc).symm;have bf:=(hf.ne a0 Bc).symm;refine(O 7)<|Lo (fun((i,wi):Y×Ad)=>(i<=Alz s/\Bk wi g 3 (fill (fun(j:Y)=>Value.int .i64 (j:H)) (Bb 0) (Alz s) i)/\Bk wi y 3 (fill (fun(j:Y)=>Value.int .i64 (((s.getD j 0).toNat:Y):H)) (Bb 0) (Alz s) i)/\Mo wr wi [g,y],[(0,str (s)),(3,.pointer (J ⟨nb,0,Aa⟩)),(4,.pointer (J ⟨G,0,Aa⟩)),(5,.slice (J ⟨y,0,Aa⟩) (Alz s) (Alz s)),(16,Bb ((Alz s:Y):H)),(17,Bb i)],wi,Alz s-i)) (0,wr) ?_ ?_
  .exact⟨BC _,by rw[gW];exact hg,by rw[gW];exact hf,Mo.refl _ _⟩
  .rintro⟨i,wi⟩⟨hi,S,ai,af⟩;have bd:=a0.j af (by simp;exact⟨W,bf⟩);have bn:=ce.j af Bv;refine(O 5)<|Zi (fun hc=>?_) fun hc=>?_
   .have cm:s.getD i 0=s[i]:=by rw[Cd,BQ hc];rfl
    have c1:=(s[i]).toNat_lt;have bh:=bd.drew;have b1:=S.drew;have co:=ai.drew;refine(O 2) ?_;refine KW.block<|(O 2) ?_;refine OW.val Z Z (EX.move Z)<|(O 2∘Yr 13 (fun w'=>Bk w' G 51 [.slice (J ⟨g,0,Aa⟩) (Alz s) (Alz s)]/\Mo wr w' [g,y]) (Il bh (af.trans (Mo.Akj (Be.drew wi) [g,y])))) fun a=>(Gv [0,1,2,3,4,5,6]) ?_;refine GW.val 7 Z Bi Bi Bi Z Z a (fun w' c3=>FQ eT Z Z (BQ X))<|(Gv [8,9]∘Yt 10 b1 (hlt:=by rw[QD hi];omega)) ?_;rintro I q d;refine⟨⟨bh.j d (by simpa using W),a.2.trans (d.mono Bh)⟩,fun a=>?_⟩;refine(Gv [11]) ?_;have cp:=co.j d (by simpa using m.symm);refine(Yt 12 cp (hlt:=by rw[QD hi];omega)) ?_;rintro w6 b6 a1;refine⟨⟨a.1.j a1 (by simpa using bf),a.2.trans (a1.mono Bh)⟩,fun a=>?_⟩;refine(Yd∘O 5) ?_;have b3:=q.j a1 (by simpa using m);rw[QE (f:=fun(j:Y)=>Value.int .i64 (j:H)) hc]at b3;rw[<-cm,QE (f:=fun(j:Y)=>Value.int .i64 (((s.getD j 0).toNat:Y):H)) hc]at b6;refine Lb ((i+1),w6) ?_;exact⟨X,b3,b6,a.2⟩
   .obtain rfl:i=Alz s:=X;rw[QC,jS]at S;rw[QC,yg]at ai;have xi:Be w wi:=Bp (x2.trans xr) af (x2.trans xr).size Bv;refine(O 7)<|Zi (fun hz=>?_) fun hz=>?_
    .refine(O 5∘Bu) ?_;refine⟨xi,g,BE (Alz s),Z,X,S,?_⟩;obtain rfl:s=[]:=Im hz;exact⟨Oe.refl _,HK.nil⟩
    .have h0:0<Alz s:=X;refine(O 3∘Zv (by exact FZ Z Z)∘O 6∘Zn) ?_;rintro xb V p cr e;refine(Zs cr) ?_;rintro w4 b7 ch;refine(O 6) ?_;have x4:Be wi w4:=Bp e ch e.size Bv;have ct:=xi.size;have b0:=S.a x4;have b4:=ai.a x4;have aj:=bd.a x4;have bm:=bn.a x4;have b8:=(aj.ne b7 Bc).symm;have b9:xb≠nb:=by have:=bn.lt;omega
     have a6:xb≠g:=by have:=S.lt;omega
     refine Lo (fun((K,b,rank,rb,o,T):Y×Y×(Bj)×Y×(Bj)×Ad)=>(1<=K/\K<=2*Alz s/\b<=K/\Key s K rank b/\Alz rank=Alz s/\(∀x∈rank,x<=1000000000)/\o.Perm (BE (Alz s))/\rb≠g/\rb≠xb/\Bk T nb 3 [Bb (Alz s:H)]/\Bk T G 51 [.slice (J ⟨g,0,Aa⟩) (Alz s) (Alz s)]/\Bk T g 3 (BD .i64 o)/\Bk T xb 351 (NE (J ⟨rb,0,Aa⟩) (Alz s) (Alz s) b)/\Bk T rb 3 (BD .i64 rank)/\Be w T,[(3,.pointer (J ⟨nb,0,Aa⟩)),(4,.pointer (J ⟨G,0,Aa⟩)),(7,.func (.func 262) #[] #[.pointer (J ⟨nb,0,Aa⟩),.pointer (J ⟨G,0,Aa⟩)]),(8,.pointer (J ⟨xb,0,Aa⟩)),(9,Bb K)],T,2*Alz s-K)) (1,0,(s.map (fun b=>b.toNat)),y,(BE (Alz s)),w4) ?_ ?_
     .refine⟨Bq _,X,X,(Adb s).key0,Bh,fun x hx=>?_,Oe.refl _,m.symm,?_,bm,aj,b0,b7,b4,xi.trans x4⟩
      .obtain⟨c,_,rfl⟩:=Cr.1 hx;have:=c.toNat_lt;omega
      .have:=ai.lt;omega
     .rintro⟨K,b,rank,rb,o,T⟩⟨c5,c4,c2,al,a9,ca,cc,bb,cx,cf,cd,ck,a5,ba,xk⟩;refine(O 5∘Zv (BX a5)∘Zv (by exact FZ Z Z)∘Zc (mS al a9 h0 X X ca g rb bb o cc T ck ba)) ?_;rintro _ I⟨rfl,o',P,a2,d⟩;refine(O 4) ?_;have ao:=a5.j d (by simpa using a6);have cb:=ba.j d (by simpa using bb);have bq:=cf.j d Bv;have bj:=cd.j d (by simpa using W);have x5:Be w I:=Bp xk d xk.size Bv;refine(Zv (BX ao)∘Ea (rT al a9 h0 X X o' P rb g nb G I cb a2 bq bj)) ?_;rintro _ w6⟨vb,next,rfl,cv,cq,ab,bl,N⟩;refine(O 2∘Zs (ao.a N) (hlt:=by simp[NE])) ?_;rintro w7 b5 Q;refine(O 4) ?_;have cu:=x5.size;have a4:vb≠xb:=by have:=ao.lt;omega
      have bx:vb≠g:=by have:=a2.lt;omega
      have cg:=(bq.a N).j Q (by simpa using b9.symm);have bi:=(bj.a N).j Q (by simpa using b8.symm);have b2:=(a2.a N).j Q (by simpa using a6.symm);have a7:=cq.j Q (by simpa using a4);have x7:Be w w7:=Bp (x5.trans N) Q (x5.trans N).size Bv;have L:=(Ada P ab bl).key2;have bc:=sZ P ab bl X;refine(O 3)<|Zi (fun cl=>?_) fun cl=>?_
      .refine(O 3∘Zv (BX b5)∘Zv (by exact FZ Z Z)∘Zc (mS L ab h0 X X bc g vb bx o' P.perm w7 b2 a7)) ?_;rintro _ w8⟨rfl,o2,a8,cn,bs⟩;refine(O 3) ?_;have cz:=bi.j bs (by simpa using W);have x8:Be w w8:=Bp x7 bs x7.size Bv;refine(O 3∘Bu) ?_;exact⟨x8,g,o2,Z,X,cn,yn a8 X⟩
      .refine(O 7)<|Lb ((K*2),K,next,vb,o',w7) ?_;rw[<-Nat.mul_two]at L;exact⟨X,X,X,L,ab,bc,P.perm,bx,a4,cg,bi,b2,b5,a7,x7⟩
end
section
def Jt:Y->Y->Y->Y
 |0,_,out=>out
 |n+1,v,out=>Jt n (v/2) ((out*2)%4294967296|||v%2)
def Qs(r:Y):Y:=if r &&& 2147483648≠0 then(r*2%4294967296) ^^^ 79764919 else r*2%4294967296
def Sk:Y->Y->Y
 |0,r=>r
 |k+1,r=>Qs (Sk k r)
def fw(k r:Y):Sk (k+1) r=Qs (Sk k r):=rfl
def Sq(i:Y):Y:=Sk 8 (i*16777216)
def OD(r b:Y):Y:=(r*256%4294967296) ^^^ Sq ((r/16777216) ^^^ b)
def Nk(r:Y)(s:Bg):Y:=s.foldl (fun r c=>OD r c.toNat) r
def Fe(s:Bg):Y:=4294967295-Nk 4294967295 s
def Sj(s:Bg):Y:=s.foldl (fun r c=>OD r (Jt 8 c.toNat 0)) 4294967295
def Ff(s:Bg):Y:=Jt 32 (4294967295-Sj s) 0
def OE(c x:Y):Y:=((c*2%4294967296)|||c/2147483648) ^^^ x
def GL(l:Bj):Y:=l.foldl OE 0
def bG{α:Type}(l:Ae α)(k:Y)(h:k<Alz l):l.take (k+1)=l.take k++[l[k]]:=by
 simp
def tX(r:Y):Qs r<4294967296:=by
 unfold Qs;split
 .exact Ou (n:=32) X X
 .omega
def XU(i:Y):Sq i<4294967296:=tX _
def XQ(r b:Y):OD r b<4294967296:=Ou (n:=32) X (XU _)
def tE(r:Y)(s:Bg)(h:r<4294967296):Nk r s<4294967296:=by
 unfold Nk
 induction s generalizing r with
 |nil=>grind
 |cons c s ih=>exact ih _ (XQ _ _)
def tG(r:Y)(s:Bg)(c:AI):Nk r (s++[c])=OD (Nk r s) c.toNat:=by simp[Nk]
def bS:∀n v o,o<4294967296->Jt n v o<4294967296
 |0,_,_,h=>h
 |n+1,v,o,h=>by
  exact bS n _ _ (Ma (n:=32) X X)
def pf:∀n v o j,o<2 ^ j->j+n<=32->Jt n v o<2 ^ (j+n)
 |0,_,_,_,h,_=>h
 |n+1,v,o,j,h,hj=>by
  unfold Jt
  have hm:o*2%4294967296<2 ^ (j+1):=by
   omega
  have:=pf n (v/2) (o*2%4294967296|||v%2) _ (Ma hm X) X;grind
def Aio(v:Y):Jt 8 v 0<256:=pf 8 v 0 0 Bc Bc
def tn(s:Bg)(c:AI):Sj (s++[c])=OD (Sj s) (Jt 8 c.toNat 0):=by simp[Sj]
def UG(c x:Y)(hx:x<4294967296)(hc:c<4294967296):OE c x<4294967296:=
 Ou (n:=32) (Ma (n:=32) X X) hx
def tY(l:Bj)(x:Y):GL (l++[x])=OE (GL l) x:=by simp[GL]
def UH(l:Bj)(h:∀x∈l,x<4294967296):GL l<4294967296:=by
 unfold GL
 have:∀(l:Ae _) (c:Y),c<4294967296->(∀x∈l,x<4294967296)->l.foldl OE c<4294967296:=by
  intro l
  induction l with
  |nil=>simp
  |cons x l ih=>intro c a h;exact ih _ (UG c x (h x Bh) a) Bf
 grind
end
namespace Bz
def CU(u:By)(i:Y):Bs:=(BE 16).map fun k=>decide (BV (16*i+k)∈u)
def DL(u:By)(i:Y):Ar:=(CU u i).any id
def Kb(u:By):Bs:=(BE 16).map (DL u)++(BE 16).flatMap fun i=>if DL u i then CU u i else[]
def NG(l:Bs)(i:Y):By:=((BE 16).filter fun k=>l.getD k Ai).map fun k=>BV (16*i+k)
def II(s:By)(all:Bs):Bj->Y->By->Av (By×Y)
 |[],p,acc=>J (acc,p)
 |i::is,p,acc=>
  if all.getD i Ai=Ai then II s all is p acc
  else if 8*Alz s<p+16 then Aa
  else II s all is (p+16) (acc++NG (BT s p 16) i)
def KO(s:By)(p:Y):Av (By×Y):=
 if 8*Alz s<p+16 then Aa
 else match II s (BT s p 16) (BE 16) (p+16) []with
  |none=>Aa
  |some (u,q)=>if u=[]then Aa else J (u,q)
def JY(u:By)(i:Y):Alz (CU u i)=16:=by rfl
def aR(u:By)(i k:Y)(h:k<16):(CU u i).getD k Ai=decide (BV (16*i+k)∈u):=by
 unfold CU;grind
def bF{s:By}{u:By}{all:Bs}:∀(is:Bj) (p:Y) (acc:By),(∀i∈is,all.getD i Ai=DL u i)->DF s p (is.flatMap fun i=>if DL u i then CU u i else[])->II s all is p acc=J (acc++is.flatMap (fun i=>NG (CU u i) i),p+Alz (is.flatMap fun i=>if DL u i then CU u i else[]))
 |[],p,acc,_,_=>by simp[II]
 |i::is,p,acc,ha,hs=>by
  have h1:=ha i Bh;rw[Gk]at hs;rw[II,h1,Gk,Gk];by_cases hb:DL u i=Af
  .rw[hb]at hs ⊢;rw[Aj Z]at hs;have hl:=hs.left;have hr:=hs.right;rw[JY]at hr;have h2:=hl.1;rw[JY]at h2;have h3:=hl.bits;rw[JY]at h3;rw[Ag Bc,Ag X,h3,bF _ _ _ Bf hr,Aj Z,Bx,JY,Cq,Lk]
  .have hb':=by simpa using hb
   rw[hb']at hs ⊢
   have e:NG (CU u i) i=[]:=by
    unfold NG;rw[List.map_eq_nil_iff,List.filter_eq_nil_iff];intro k d;have a:=DX.1 d;unfold DL at hb';rw[List.any_eq_false]at hb'
    have:=hb' ((CU u i).getD k Ai) (by
     rw[Cd,BQ (by rwa[JY])];exact BL _)
    simpa using this
   rw[Aj Z,bF _ p _ Bf hs,e];simp
def Abx:BE 256=(BE 16).flatMap fun i=>(BE 16).map fun k=>16*i+k:=by decide+kernel
def Ahx{s:By}{p:Y}{t:By}(h:t≠[])(d:DF s p (Kb (used t))):KO s p=J (used t,p+Alz (Kb (used t))):=by
 unfold Kb at d ⊢;have j:=d.left;have g:=d.right;have a:Alz ((BE 16).map (DL (used t)))=16:=Bh;rw[a]at g;have o:=j.1;have l:=j.bits;rw[a]at l;have n:∀i∈BE 16,((BE 16).map (DL (used t))).getD i Ai=DL (used t) i:=Bf
 have e:(BE 16).flatMap (fun i=>NG (CU (used t) i) i)=used t:=by
  conv=>rhs;unfold used
  rw[Abx,List.filter_flatMap,List.map_flatMap];congr 1;funext i;unfold NG;rw[List.filter_map,EV];congr 1;apply List.filter_congr;intro k m;have f:=DX.1 m;rw[aR _ _ _ f];exact decide_eq_decide.2 (mem_used t _)
 unfold KO;rw[Ag X,l,bF _ _ _ n g];simp only[EW];rw[e,Ag (used_may h).1,Bx,a,Lk]
open Classical in
noncomputable def GR(s:By):Bj:=if h:∃o,IsOrd s o then h.choose else[]
def lO{s:By}{o:Bj}(h:IsOrd s o):GR s=o:=by
 have a:∃o,IsOrd s o:=⟨o,h⟩;unfold GR;rw[AQ a];exact a.choose_spec.one h
def IsOrd.ex(s:By):∃o,IsOrd s o:=by
 let le:=fun i j=>i=j∨(Ej (CH s i) (CH s j)/\(CH s i=CH s j->i<j))
 have d:∀a b c,le a b->le b c->le a c:=fun a b c g f=>by
  rcases g with rfl|⟨g,n⟩
  .exact f
  .rcases f with rfl|⟨f,m⟩
   .grind
   .refine .inr ⟨ZB g f,fun e=>?_⟩;have p:=OU g Bf;grind
 have h:∀a b,le a b∨le b a:=fun a b=>by
  rcases Ui a b with q|q|q
  .rcases Ve (CH s a) (CH s b)with z|z
   .grind
   .grind
  .omega
  .rcases Ve (CH s b) (CH s a)with z|z
   .grind
   .grind
 classical
 refine⟨(BE _).mergeSort fun i j=>decide (le i j),TW _ _,?_⟩;have k:=dJ (le:=fun i j=>decide (le i j)) Bf Bf (BE (Alz s));have l:((BE (Alz s)).mergeSort fun i j=>decide (le i j)).Nodup:=(TW _ _).nodup_iff.2 Bf;refine HK.imp₂ ?_ k l;grind
def ak(s:By):IsOrd s (GR s):=by
 obtain⟨o,h⟩:=IsOrd.ex s;rw[lO h];omega
noncomputable def NA(t:By):Bj:=(front (used t) (Ge t (GR t))).getD []
noncomputable def listOf(t:By):Bj:=Fu (Alz (used t)) 0 (NA t)
noncomputable def blkB(s:By)(pl:Pl):Bs:=nb 48 54156738319193++(nb 32 (Fe s)++(Ai::(nb 24 (JZ (GR (enc s)))++(Kb (used (enc s))++(planBits pl++Es pl (listOf (enc s)))))))
def Qg(s:By)(pl:Pl):Prop:=s≠[]->pl.q (Alz (used (enc s))+2)/\Alz pl.C=grpN (Alz (listOf (enc s)))
def IK(u:By)(l:Bj)(row most:Y):Av By:=
 match Ft (Alz u) most [] 0 1 l with
 |none=>Aa
 |some ps=>match GI u ps with
  |none=>Aa
  |some c=>if row<Alz c then(if(dec 0 [] (back c row)).2=0 then J (dec 0 [] (back c row)).1 else Aa)else Aa
noncomputable def MM(s:By)(p most:Y):Av (By×Y×Y):=
 if 8*Alz s<p+48 then Aa
 else if num (BT s p 48)≠54156738319193 then Aa
 else if 8*Alz s<p+80 then Aa
 else if 8*Alz s<p+81 then Aa
 else if Cj s (p+80)=Af then Aa
 else if 8*Alz s<p+105 then Aa
 else match KO s (p+105)with
  |none=>Aa
  |some (u,q)=>match MN s q (Alz u+2)with
   |none=>Aa
   |some (pl,q2)=>match HB pl.v s (Alz u+1) pl.C q2 []with
    |none=>Aa
    |some (l,q3)=>match IK u l (num (BT s (p+81) 24)) most with
     |none=>Aa
     |some t=>if Fe t=num (BT s (p+48) 32)then J (t,Fe t,q3)else Aa
def Qp(s:By):Fe s<4294967296:=by unfold Fe;omega
def Wg{t:By}(h:t≠[]):1<=Alz (used t):=Oh.2 (used_may h).1
structure Parts(t:By):Prop where
 front:front (used t) (Ge t (GR t))=J (NA t)
 len:Alz (NA t)=Alz t
 back:GI (used t) (NA t)=J (Ge t (GR t))
 lt:∀p∈NA t,p<Alz (used t)
def av(t:By)(h0:t≠[]):Parts t:=by
 have d:=ak t
 have a:∀b∈Ge t (GR t),b∈used t:=fun b j=>by
  obtain⟨i,g,rfl⟩:=Cr.1 j;rw[mem_used];have f:=DX.1 (d.perm.subset g);grind
 obtain⟨e,k,o,n,m⟩:=jp (Ge t (GR t)) (used t) a;have l:NA t=e:=by unfold NA;rw[k];rfl
 have h:Alz (Ge t (GR t))=Alz t:=by unfold Ge;rw[Dl,d.lng]
 exact⟨Bf,Bf,Bf,Bf⟩
def listOf_len(t:By)(h0:t≠[]):1<=Alz (listOf t)/\Alz (listOf t)<=Alz t+1/\(∀x∈listOf t,x<Alz (used t)+2)/\∃r,listOf t=r++[Alz (used t)+1]/\∀x∈r,x≠Alz (used t)+1:=by
 have a:=av t h0;obtain⟨k,f,g,d⟩:=Wn (Alz (used t)) (Wg h0) (NA t) 0 a.lt;have e:listOf t=k++[Alz (used t)+1]:=f;rw[a.len]at d;grind
def Ahn{s text:By}{pl:Pl}{p most:Y}(h0:s≠[])(f:Qg s pl)(hl:Alz s<=8192)(hm:20000<=most/\most<=262144)(e:DF text p (blkB s pl)):MM text p most=J (s,Fe s,p+Alz (blkB s pl)):=by
 have a:=enc_ne h0;have v:=enc_len _ s X;have d:=Ade s X;obtain⟨j,K⟩:=f h0;unfold blkB at e ⊢;generalize k:enc s=t at*;have g:=av t a;obtain⟨I,G,r,q⟩:=listOf_len t a;obtain⟨E,D,o⟩:=eK (ak t) a;obtain⟨V,T⟩:=Pv e.left X;have i:=e.right;rw[nb_length]at i;obtain⟨S,Q⟩:=Pv i.left (show Fe s<2 ^ 32 from Qp s);have n:=i.right;rw[nb_length]at n;obtain⟨P,N,m⟩:=NK n;obtain⟨L,C⟩:=Pv m.left X;have h:=m.right;rw[nb_length]at h;have B:=Ahx a h.left;have l:=h.right;have A:=Ahu j l.left;have w:=l.right;have y:=xx j r q X w
 have x:IK (used t) (listOf t) (JZ (GR t)) most=J s:=by
  unfold IK;have z:=Akb (most:=most) (Wg a) g.lt (by rw[g.len];omega);rw[show Ft _ _ _ 0 1 (listOf t)=J _ from z];simp;rw[g.back];simp only;rw[Aj X,o,d];rfl
 unfold MM;rw[Ag X,Ag X,Ag X,Ag X,Ag Bf,Ag X,B];simp only;rw[A];simp only;rw[y];simp only;rw[show p+81=p+48+32+1 by omega,C,x];simp only;simp only[Bx,nb_length,CF];grind
def UG{c x:Y}(e:c<4294967296)(hx:x<4294967296):OE c x<4294967296:=by
 have d:c*2%4294967296<2 ^ 32:=X
 have a:c/2147483648<2 ^ 32:=by
  omega
 exact Ou (Ma d a) hx
def UH(l:Bj)(h:∀x∈l,x<4294967296):GL l<4294967296:=by
 have:∀(l:Ae _) (c:Y),(∀x∈l,x<4294967296)->c<4294967296->l.foldl OE c<4294967296:=fun l=>by
  induction l with
  |nil=>simp
  |cons x l ih=>
   intro c h a;rw[Lf];exact ih _ Bf (UG a (h x Bh))
 exact this l 0 h Bh
def magicT:By:=[66,90,104,49]
noncomputable def blocksB(s:By)(pl:Pl):Bs:=if s=[]then[]else blkB s pl
def If(s:By):Bj:=if s=[]then[]else[Fe s]
noncomputable def MJ(s:By)(pl:Pl):Bs:=bitsOf magicT++(blocksB s pl++(nb 48 25779555029136++nb 32 (GL (If s))))
noncomputable def packS(s:By)(pl:Pl):By:=pack (MJ s pl)
noncomputable def IH(s:By)(room:Y):Y->Y->By->Bj->Av (By×Y)
 |0,_,_,_=>Aa
 |f+1,bit,out,sums=>
  if 8*Alz s<bit+48 then Aa
  else if num (BT s bit 48)=25779555029136 then
   (if 8*Alz s<bit+80 then Aa else if num (BT s (bit+48) 32)=GL sums then J (out,(bit+87)/8)else Aa)
  else if num (BT s bit 48)=54156738319193 then
   match MM s bit room with
   |none=>Aa
   |some (x,sum,q)=>if 262144<Alz out+Alz x then Aa else IH s room f q (out++x) (sums++[sum])
  else Aa
def headT(s:By)(at_:Y):Av Y:=
 if at_+4<=Alz s/\s.getD at_ 0=66/\s.getD (at_+1) 0=90/\s.getD (at_+2) 0=104/\49<=(s.getD (at_+3) 0).toNat/\(s.getD (at_+3) 0).toNat<=57 then J ((s.getD (at_+3) 0).toNat-48)else Aa
noncomputable def takeS(s:By)(at_:Y):Av (By×Y):=match headT s at_ with
 |none=>Aa
 |some level=>IH s (min (level*100000) 262144) (8*Alz s+1) (8*(at_+4)) [] []
def streamB_length(s:By)(pl:Pl):Alz (MJ s pl)=32+(Alz (blocksB s pl)+80):=by
 unfold MJ;rw[Bx,Bx,Bx,nb_length,nb_length,bitsOf_length];rfl
def ZW{s:By}{p n v:Y}(h:DF s p (nb n v))(hv:v<2 ^ n):¬8*Alz s<p+n/\num (BT s p n)=v:=by
 obtain⟨a,b⟩:=Pv h hv;omega
def Ahp{s text:By}{pl:Pl}{p room:Y}(k:Qg s pl)(hl:Alz s<=8192)(hm:20000<=room/\room<=262144)(i:DF text p (blocksB s pl++(nb 48 25779555029136++nb 32 (GL (If s)))))(f:Y):IH text room (f+2) p [] []=J (s,(p+Alz (blocksB s pl)+87)/8):=by
 have m:∀(f d:Y) (g:By) (a:Bj),(∀x∈a,x<4294967296)->DF text d (nb 48 25779555029136++nb 32 (GL a))->IH text room (f+1) d g a=J (g,(d+87)/8):=fun f d g a j h=>by
  obtain⟨o,n⟩:=ZW h.left X;have q:=h.right;rw[nb_length]at q;obtain⟨w,v⟩:=ZW q (show GL a<2 ^ 32 from UH a j);rw[IH,Ag o,Aj n,Ag X,Aj v]
 by_cases l:s=[]
 .unfold blocksB If at*;grind
 .have r:blocksB s _=blkB s pl:=Ag l;have t:If s=[Fe s]:=Ag l;rw[r,t]at i;rw[r];have e:=Ahn l k hl hm i.left
  have j:=by
   have:=i.left;exact this.left
  obtain⟨o,n⟩:=ZW j Bc;rw[IH,Ag o,Ag X,Aj n,e];simp only[EW];rw[Ag Bf,m f _ s _ (by simp;exact Qp s) i.right]
def takeS_pack{s:By}{pl:Pl}(d:Qg s pl)(hl:Alz s<=8192)(pre suf:By):takeS (pre++packS s pl++suf) (Alz pre)=J (s,Alz pre+Alz (packS s pl)):=by
 have g:=((DF.pack (MJ s pl)).behind pre).l suf;rw[JD]at g;have m:=streamB_length s pl;have p:Alz (packS s pl)=(Alz (MJ s _)+7)/8:=pack_length _;have r:DF (pre++packS s pl++suf) (8*Alz pre) (bitsOf magicT):=by exact g.left
 have a:∀j,j<4->(pre++packS s pl++suf).getD (Alz pre+j) 0=magicT.getD j 0:=fun j D=>by
  have E:Alz (bitsOf magicT)=32:=by rfl
  have t:∀k,k<8->Cj _ (8*Alz pre+(8*j+k))=Cj magicT _:=fun k C=>by
   rw[r.2 _ X,Cd,sI (by show 8*j+k<8*4;omega)];rfl
  apply Ku.1;apply Ue;intro i;rcases CM i 8 with h|h
  .have:=t (7-i) X;unfold Cj at this;rwa[show(8*Alz pre+(8*j+(7-i)))/8=Alz pre+j by omega,show(8*Alz pre+(8*j+(7-i)))%8=7-i by omega,show(8*j+(7-i))/8=j by omega,show(8*j+(7-i))%8=7-i by omega,show 7-(7-i)=i by omega]at this
  .have B:(256)<=2 ^ i:=by
    have:=Gb (n:=2) Bc h;omega
   have A:=((pre++packS s pl++suf).getD (Alz pre+j) 0).toNat_lt;have y:=(magicT.getD j 0).toNat_lt;rw[Qd X,Qd X]
 have l:=a 0 Bc;have x:=a 1 Bc;have w:=a 2 Bc;have v:=a 3 Bc;rw[JD]at l
 have q:headT (pre++packS s pl++suf) (Alz pre)=J 1:=by
  unfold headT;rw[l,x,w,v,Aj]
  .rfl
  .refine⟨?_,Z,Z,Z,Bc,Bc⟩;grind
 unfold takeS;rw[q];simp only
 have o:DF (pre++packS s pl++suf) (8*(Alz pre+4)) (blocksB s pl++(nb 48 25779555029136++nb 32 (GL (If s)))):=by
  have:=g.right;rwa[bitsOf_length,show 8*Alz pre+8*Alz magicT=8*(Alz pre+4) by rfl]at this
 have e:∃f,8*Alz (pre++packS s pl++suf)+1=f+2:=⟨8*Alz (pre++packS s pl++suf)-1,Bf⟩;obtain⟨f,e⟩:=e;rw[e,Ahp d hl Bc o f];simp;omega
end Bz
namespace Bz
def FK(L:By)(i b:Y):Y:=Alz ((BE i).filter fun j=>decide ((L.getD j 0).toNat=b))
def FD(L:By):Y->Y
 |0=>0
 |b+1=>FD L b+FK L (Alz L) b
def Jh(L:By)(i:Y):Y:=FD L (L.getD i 0).toNat+FK L i (L.getD i 0).toNat
def XR(L:By)(i b:Y):FK L (i+1) b=FK L i b+if(L.getD i 0).toNat=b then 1 else 0:=by
 unfold FK;rw[FT,Le,Bx];grind
def fJ(L:By)(b:Y):∀i,FK L i b<=i
 |0=>Bq _
 |i+1=>by
  have:=fJ L b i;rw[XR];grind
def mD{i n:Y}(h:i<n):BE n=BE i++i::(BE (n-i-1)).map (i+1+·):=by
 have e:n=i+(n-i-1+1):=X
 conv=>lhs;rw[e]
 rw[List.range_add,List.range_succ_eq_map,Cm,EV,JD];simp;omega
def vJ{p:Y->Ar}{i n:Y}(h:i<n)(a:p i=Af):((BE n).filter p)[Alz ((BE i).filter p)]? =J i:=by
 rw[mD h,Le,Io X,EY,List.filter_cons_of_pos a];rfl
def vR{α:Type}(f:Y->Ae α){b m k:Y}(h:b<m)(hk:k<Alz (f b)):((BE m).flatMap f)[Alz ((BE b).flatMap f)+k]? =(f b)[k]?:=by
 rw[mD h,IT,Io X,Ko,Gk,FR hk]
def bv(L:By):∀b,FD L b=Alz ((BE b).flatMap fun b=>(BE (Alz L)).filter fun i=>decide ((L.getD i 0).toNat=b))
 |0=>rfl
 |b+1=>by
  rw[FD,bv,FT,IT,Bx,Gk,TP,List.append_nil];rfl
def VR{L:By}{i:Y}(h:i<Alz L):(Et L)[Jh L i]? =J i:=by
 unfold Jh;rw[bv];have a:=vJ (p:=fun j=>decide ((L.getD j 0).toNat=(L.getD i 0).toNat)) h Bh;have d:=(Li.1 a).1;have:=vR (fun b=>(BE _).filter fun i=>decide ((L.getD i 0).toNat=b)) (m:=256) (L.getD i 0).toNat_lt d;exact this.trans a
def Agv(L:By):FD L 256=Alz L:=by rw[bv];exact Tl L
def om(L:By)(b:Y):∀d,FD L b<=FD L (b+d)
 |0=>Bq _
 |d+1=>by
  have:=om L b d;show _<=FD L (b+d)+_;omega
def oj(L:By){b:Y}(h:b<=256):FD L b<=Alz L:=by
 have:=om L b (256-b);rwa[show b+(256-b)=256 by omega,Agv]at this
def mc{L:By}{i:Y}(h:i<Alz L):Jh L i<Alz L:=by
 have:=(Li.1 (VR h)).1;rwa[Tl]at this
def Abl{L:By}{i j:Y}(hi:i<Alz L)(a:j<Alz L)(e:Jh L i=Jh L j):i=j:=by
 have d:=VR hi;rw[e,VR a]at d;grind
def Agw{L:By}{P:Bj}(hl:Alz P=Alz L)(h:∀i,i<Alz L->P.getD (Jh L i) 0=i):P=Et L:=by
 have f:=Tl L;have a:=(Tn L).nodup_iff.2 Bf;apply MX X;intro p l k;have g:(Et L)[p]<Alz L:=DX.1 ((Tn L).subset Bh);obtain⟨j,d⟩:=Li.1 (VR g);have e:=(MZ a).1 d;grind
end Bz
section
attribute [local irreducible] EX
open Bz
def fg(l:Bg):(BE (Alz l)).map (fun(j:Y)=>Value.int .u8 (((l.getD j 0).toNat:Y):H))=BI l:=by
 unfold BI;apply MX Bh;grind
def EN(k:AK)(n:Y)(F:Y->Y):Bl:=(BE n).map fun b=>Value.int k (F b:H)
section
variable{k:AK}{n i x:Y}{F G:Y->Y}
def Gy:Alz (EN k n F)=n:=by simp[EN]
def MK(h:i<n):(EN k n F)[i]? =J (.int k (F i:H)):=by simp[EN,h]
def Px(h:i<n)(d:∀b,b<n->G b=if b=i then x else F b):(EN k n F).set i (.int k (x:H))=EN k n G:=by
 apply MX (by simp[EN]);intro j e a;rw[Gy]at a;simp[EN,Og,List.getElem_range];grind
def Ahi:BH n (Value.int k 0)=EN k n (fun _=>0):=by
 apply MX (by simp[EN]);intro j d a;simp[EN]
def oD(h:∀b,b<n->F b=G b):EN k n F=EN k n G:=Kl Bf
end
def Adq{o:Bj}{k:Y}(hnd:o.Nodup)(hk:k<Alz o){r:Y}(a:r=if 0∈o.take k then o.idxOf 0 else 0):(if o.getD k 0=0 then k else r)=if 0∈o.take (k+1)then o.idxOf 0 else 0:=by
 have d:o.take (k+1)=o.take k++[o[k]]:=Bh;grind
def vY(s:Bg)(h0:s≠[])(hs:Alz s<=262144)(w:Ad):
 Bm eD 173 [str s] w fun v w'=>v=.tuple #[str (Ge s (GR s)),Bb ((JZ (GR s):Y):H),Bb ((0:Y):H)]/\Be w w':=by
 have hp:0<Alz s:=Bf;refine Bw Bh Z ntmps173 (by rfl) Z ?_;refine(O 10∘Zv (by exact HJ Z Z)∘O 1∘Ci 10∘O 9)<|Zi (fun hb=>?_) fun hb=>?_
 .omega
 .refine(O 5∘Gc) ?_;rintro h w1 aj C I;refine(O 7∘Zc (Aag s X _)) ?_;rintro _ w2⟨l,g,o,rfl,a0,hg,a⟩;refine(O 4) ?_;have eo:=lO a;have p:=a.lng;have ai:=C.a l;have x2:=I.trans l;have af:g≠h:=by have:=C.lt;omega
  have y:Alz (Ge s o)=Alz s:=by unfold Ge;rw[Dl,p]
  have L:=a.perm.nodup_iff.2 Bf;have q:∀k,k<Alz s->o.getD k 0<Alz s:=fun k Q=>by rw[CG X];exact DX.1 (a.perm.subset Bh)
  have t:∀k,k<Alz s->(Ge s o).getD k 0=s.getD ((if o.getD k 0=0 then Alz s else o.getD k 0)-1) 0:=fun k Q=>by
   unfold Ge;simp_all
  refine Lo (fun((k,r,wr))=>(k<=Alz s/\r<=k/\(r=if 0∈o.take k then o.idxOf 0 else 0)/\Bk wr h 5 (fill (fun j=>Value.int .u8 ((((Ge s o).getD j 0).toNat):H)) (.int .u8 0) (Alz s) k)/\Mo w2 wr [h],[(0,str (s)),(5,.slice (J ⟨h,0,Aa⟩) (Alz s) (Alz s)),(6,Bb r),(18,.slice (J ⟨g,0,Aa⟩) (Alz s) (Alz s)),(19,Bb (Alz s:H)),(20,Bb k)],wr,Alz s-k)) (0,0,w2) ?_ ?_
  .exact⟨X,X,Bh,Ck,Mo.refl _ _⟩
  .rintro⟨k,r,wr⟩⟨Q,al,hr,e,P⟩;have T:=hg.j P Bf;refine(O 5)<|Zi (fun E=>?_) fun E=>?_
   .have hl:=q k E;have m:=Adq L X hr;have A:=t k E;refine(O 7∘Zv (Bo T (hi:=FB X))∘O 5)<|Ld (fun((d,D))=>(d=(if o.getD k 0=0 then Alz s else o.getD k 0)/\D=(if o.getD k 0=0 then k else r),[(0,str (s)),(5,.slice (J ⟨h,0,Aa⟩) (Alz s) (Alz s)),(6,Bb D),(7,Bb k),(8,Bb d),(18,.slice (J ⟨g,0,Aa⟩) (Alz s) (Alz s)),(19,Bb (Alz s:H)),(20,Bb k)],wr)) ?_ ?_
    .refine(O 4)<|Zi (fun hz=>?_) fun hz=>?_
     .refine(O 10∘Lm (Alz s,k)) ?_;grind
     .refine(O 1∘Lm ((o.getD k 0),r)) ?_;grind
    .rintro⟨d,D⟩⟨W,er⟩;rw[<-W]at A;rw[<-er]at m;have ao:1<=d:=by rw[W];split<;>omega
     have S:d-1<Alz s:=by rw[W];split<;>omega
     have V:s.getD (d-1) 0=s[d-1]:=by rw[Cd,BQ];rfl
     refine(O 6∘Zv (by exact FQ Bh Z Z (BQ (S)))∘O 1∘Zt e (hlt:=by rw[QD Q];omega)) ?_;rintro w3 B N;refine(O 6) ?_;rw[<-V,<-A,QE (f:=fun(j:Y)=>Value.int .u8 ((((Ge s o).getD j 0).toNat:Y):H)) E]at B;refine Lb ((k+1),D,w3) ?_;exact⟨X,by rw[er];split<;>omega,m,B,P.trans N⟩
   .obtain rfl:k=Alz s:=X;rw[QC,<-y,fg]at e;have xr:Be w wr:=Bp x2 P x2.size Bf;have K:=e.sl
    have ab:r=JZ o:=by
     rw[hr,Aj]
     .rfl
     .rw[<-p,DY];exact a.perm.mem_iff.2 (DX.2 hp)
    refine(O 4∘Zv (DR K (hl:=y))∘O 5∘Cy) ?_;grind
def Abh(a g c:Y)(P:Bj)(p:Y)(d:p<Alz P)(e:Alz P<=1000000000)(w:Ad)(h1:Bk w a 51 [.slice (J ⟨g,0,Aa⟩) (Alz P) c])(h2:Bk w g 3 (BD .i64 P)):
 Bm eD 254 [Bb (p:H),.pointer (J ⟨a,0,Aa⟩)] w fun v w'=>v=Bb ((P.getD p 0:Y):H)/\w=w':=by
 refine Bw func254 Z ntmps254 (by rfl) Z ?_;refine(O 9∘Zv (Bo h2 (hi:=FB d))∘O 2∘Bu) ?_;simp
def Lz(P:Bj):Y->Y->Y
 |p,0=>p
 |p,i+1=>Lz P (P.getD p 0) i
def Zr(P:Bj):∀i p,Lz P p (i+1)=P.getD (Lz P p i) 0
 |0,p=>rfl
 |i+1,p=>by
  show Lz P (P.getD p 0) (i+1)=_;rw[Zr P i];rfl
def eV(P:Bj)(L:Bg):∀t i p,i<t->(bk P L t p).getD i 0=L.getD (Lz P p (i+1)) 0
 |0,i,p,h=>by omega
 |t+1,0,p,h=>by rfl
 |t+1,i+1,p,h=>by
  rw[bk,List.getD_cons_succ,eV P L t i _ X];rfl
def Rw(pb p:Y):Bl:=[.func (.func 254) #[] #[.pointer (J ⟨pb,0,Aa⟩)],Bb (p:H)]
def Ahb(wb e g c:Y)(P:Bj)(p:Y)(k:p<Alz P)(l:Alz P<=1000000000)(w:Ad)(h:Bk w wb 345 (Rw e p))(h1:Bk w e 51 [.slice (J ⟨g,0,Aa⟩) (Alz P) c])(h2:Bk w g 3 (BD .i64 P)):
 Bm eD 255 [.pointer (J ⟨wb,0,Aa⟩)] w fun v w'=>v=Bb ((P.getD p 0:Y):H)/\Bk w' wb 345 (Rw e (P.getD p 0))/\Mo w w' [wb]:=by
 refine Bw func255 Z ntmps255 Bi Z ?_;refine El (KW.region ?_);refine OW.val Z Z (HI Z) ?_;refine OW.nil ?_;refine El ?_;refine PR (N:=13) (fun w'=>∃u,Bk w' wb 345 (Rw e u)) Bi Z ?_;have d:=show ∃u,Bk w.drew wb 345 (Rw e u)from⟨p,h.drew⟩;refine GW.val 0 Z Bi Bi Bi Z Z d (fun w' a=>EX.move Z) ?_;refine GW.val 1 Z Bi Bi Bi Z Z d (fun w' a=>EX.move Z) ?_;refine GW.val 2 Z Bi Bi Bi Z Z d (fun w' a=>DU Z) ?_;refine GW.val 3 Z Bi Bi Bi Z Z d (fun w' a=>Dw (off:=0) se Z Z oT Z Z) ?_;refine GW.val 4 Z Bi Bi Bi Z Z d (fun w' a=>CV underlying196 Z Z (by obtain⟨u,j⟩:=a;exact j.I Z)) ?_;refine GW.val 5 Z Bi Bi Bi Z Z d (fun w' a=>EX.move Z) ?_;refine GW.val 6 Z Bi Bi Bi Z Z d (fun w' a=>DU Z) ?_;refine GW.val 7 Z Bi Bi Bi Z Z d (fun w' a=>Dw (off:=1) se Z Z BZ Z Z) ?_;refine GW.new 8 Z Bi Z Z (CV io Z Z (h.drew.I Z)) ⟨d,fun d=>?_⟩;refine Ha 9 Z Bi Z Z Z Z Z (Abh e g c P p k l w.drew h1.drew h2.drew) ?_;rintro _ _⟨rfl,rfl⟩;refine⟨d,fun d=>?_⟩;refine(Gv [10,11]∘Yt 12 h.drew (hlt:=by simp[Rw])) ?_;rintro m f i;refine⟨⟨_,f⟩,fun d=>?_⟩;refine(Yd∘O 8∘Bu) ?_;exact⟨Z,f,(Mo.Akj (Be.drew w) _).trans i⟩
def sr(l:Bg)(row:Y)(hl:Alz l<=262144)(hr:row<=1000000000)(w:Ad):
 Bm eD 208 [str l,Bb (row:H)] w fun v w'=>v=(if row<Alz l then .tuple #[str (back l row),Bb ((0:Y):H)]else .tuple #[str [],Bb ((50:Y):H)])/\Be w w':=by
 refine Bw func208 Z ntmps208 Bi Z ?_;refine(O 12)<|Zi (fun hb=>?_) fun hb=>?_
 .omega
 .refine(O 3)<|Lc (fun(d3:Ar)=>(d3=decide (Alz l<=row),[(0,str (l)),(1,Bb row),(26,.bool d3)],w)) ?_ ?_
  .refine(O 4)<|Zd 21 (fun c1=>?_) fun c1=>?_
   .omega
   .refine(O 6∘Lm (decide (row≥Alz l))) ?_;rfl
  .rintro d3 ca;subst ca;refine Zi (fun b9=>?_) fun b9=>?_
   .refine(O 5∘BF) ?_;rw[Ag X];exact⟨Z,Be.refl _⟩
   .have d:row<Alz l:=X;rw[Aj d];have m:∀i (h:i<Alz l),l.getD i 0=l[i]:=fun i h=>by grind
    have bm:∀i,(l.getD i 0).toNat<256:=fun i=>(l.getD i 0).toNat_lt;refine(O 3∘Zn) ?_;rintro o w1 cj bf aj;refine(O 9) ?_;rw[Ahi]at bf;refine Lo (fun((i,wr):Y×Ad)=>(i<=Alz l/\Bk wr o 343 (EN .i64 256 (FK l i))/\Mo w1 wr [o],[(0,str (l)),(1,Bb row),(6,.pointer (J ⟨o,0,Aa⟩)),(28,Bb ((Alz l:Y):H)),(29,Bb i)],wr,Alz l-i)) (0,w1) ?_ ?_
    .exact⟨BC _,bf,Mo.refl _ _⟩
    .rintro⟨i,wr⟩⟨hi,hf,hm⟩;refine(O 5)<|Zi (fun k=>?_) fun k=>?_
     .have h8:=bm i;have bh:=fJ l (l.getD i 0).toNat i;rw[m i k]at h8 bh
      have hG:∀b,b<256->FK l (i+1) b=if b=l[i].toNat then FK l i l[i].toNat+1 else FK l i b:=fun b _=>by
       rw[XR,m i k];grind
      refine(O 11∘Zv (by exact FQ eT Z Z (BQ (k)))∘O 1∘Zv (Bo hf (hi:=MK h8))∘O 2∘Zt hf (hlt:=by rw[Gy];omega)) ?_;rintro w3 bd b5;refine(O 6) ?_;rw[Px h8 hG]at bd;refine Lb ((i+1),w3) ?_;exact⟨X,bd,hm.trans b5⟩
     .obtain rfl:i=Alz l:=X;refine(O 8∘Zv (by exact Ke iS Z oW Z (hf) (by rw[Gy]))∘O 3)<|Lo (fun((b,K):Y×Ad)=>(b<=256/\Bk K o 343 (EN .i64 256 fun c=>if c<b then FD l c else FK l (Alz l) c)/\Mo w1 K [o],[(0,str (l)),(1,Bb row),(6,.pointer (J ⟨o,0,Aa⟩)),(8,Bb (((FD l b):Y):H)),(40,.agg (EN .i64 256 (FK l (Alz l))).toArray),(41,Bb b)],K,256-b)) (0,wr) ?_ ?_
      .grind
      .rintro⟨b,K⟩⟨cd,a9,a0⟩;have co:=oj l cd;refine(O 5)<|Zi (fun V=>?_) fun V=>?_
       .have cn:=oj l (show b+1<=256 by omega);have e2:FD l (b+1)=FD l b+FK l (Alz l) b:=rfl
        have hG:∀c,c<256->(if c<b+1 then FD l c else FK l (Alz l) c)=if c=b then FD l b else if c<b then FD l c else FK l (Alz l) c:=fun c _=>by
         grind
        refine(O 6∘Zv (by exact TE iS io Z BZ Z Z X (by rw[MK V]))∘O 8∘Zt a9 (hlt:=by rw[Gy];omega)) ?_;rintro w4 bc b4;refine(O 12) ?_;rw[Px V hG]at bc;refine Lb ((b+1),w4) ?_;exact⟨X,bc,a0.trans b4⟩
       .obtain rfl:b=256:=X
        have E:Bk K o 343 (EN .i64 256 fun c=>FD l c+FK l 0 c):=by
         rw[<-oD (F:=fun c=>if c<256 then FD l c else FK l (Alz l) c) (fun c k=>by rw[Aj k];rfl)];exact a9
        refine(O 5∘Gc) ?_;rintro g w5 ch a6 Q;refine(Mf) ?_;rintro N w6 cg cc ai;refine(Zt cc) ?_;rintro w7 cb a2;refine(O 9) ?_;have xb:Be w K:=Bp aj a0 aj.size Bv;have x6:=Q.trans ai;have x7:Be K w7:=Bp x6 a2 x6.size (by have:=Q.size;simp;omega);have cw:g≠N:=by have:=a6.lt;omega
        have cz:=E.lt;have a5:=(a6.a ai).j a2 Bf;rw[show BH (Alz l) (Value.int .i64 0)=BD .i64 (BH (Alz l) 0)from(KF _ _ _).symm]at a5;have cm:=Q.size;refine Lo (fun((i,P,A):Y×(Bj)×Ad)=>(i<=Alz l/\Alz P=Alz l/\(∀j,j<i->P.getD (Jh l j) 0=j)/\Bk A o 343 (EN .i64 256 fun c=>FD l c+FK l i c)/\Bk A g 3 (BD .i64 P)/\Mo w7 A [o,g],[(0,str (l)),(1,Bb row),(6,.pointer (J ⟨o,0,Aa⟩)),(11,.pointer (J ⟨N,0,Aa⟩)),(56,Bb ((Alz l:Y):H)),(57,Bb i)],A,Alz l-i)) (0,(BH (Alz l) 0),w7) ?_ ?_
        .exact⟨BC _,Bh,fun j hj=>by omega,E.a x7,a5,Mo.refl _ _⟩
        .rintro⟨i,P,A⟩⟨hi,bq,hP,a7,y,T⟩;have r:=cb.j T Bv;refine(O 5)<|Zi (fun k=>?_) fun k=>?_
         .have cq:=mc k;have h8:=bm i
          have bn:(EN .i64 256 fun c=>FD l c+FK l i c)[l[i].toNat]? =J (Bb ((Jh l i:Y):H)):=by
           rw[<-m i k,MK h8];rfl
          have bh:FD l l[i].toNat+FK l i l[i].toNat=Jh l i:=by rw[<-m i k];rfl
          rw[m i k]at h8
          have hG:∀b,b<256->FD l b+FK l (i+1) b=if b=l[i].toNat then Jh l i+1 else FD l b+FK l i b:=fun b _=>by
           rw[XR,m i k];grind
          refine(O 9) ?_;refine Kk 8 Bi Bi<|HW.val Z Z (CV hU Z Z (r.drew.I Z))<|HW.val Z Z (EX.move Z)<|HW.val Z Z (EX.move Z)<|HW.val Z Z (FQ eT Z Z (BQ (k)))<|HW.val Z Z (by first|exact LP iS BZ Z Z X|exact LQ iS BZ Z Z X)<|HW.val Z Z (CV io Z Z (a7.drew.I bn))<|HW.val Z Z (EX.move Z)<|HW.val Z Z (by first|exact KV hU BZ Z Z X|exact KX hU BZ Z Z X)<|HW.tail<|(Zt y.drew (hlt:=by rw[DO];omega)) ?_;rintro w8 a4 a1;refine(O 6) ?_;rw[IA]at a4;have a8:o≠g:=X;have bb:=a7.drew.j a1 (by simpa using a8);refine(Zv (Bo bb (hi:=bn))∘O 2∘Zt bb (hlt:=by rw[Gy];omega)) ?_;rintro w9 ba t;refine(O 6) ?_;rw[Px h8 hG]at ba;refine Lb ((i+1),(P.set (Jh l i) i),w9) ?_;refine⟨X,Bf,fun j hj=>?_,ba,a4.j t Bf,((T.trans (Mo.Akj (Be.drew A) _)).trans (a1.mono Bh)).trans (t.mono Bh)⟩;have cv:=mc (L:=l) (i:=j) X;rw[CG Bf,TS];by_cases e:Jh l i=Jh l j
          .rw[Aj e];exact Abl k X e
          .grind
         .obtain rfl:i=Alz l:=X;have eP:=Agw bq hP;subst eP;have a8:o≠g:=X;have xi:Be w A:=Bp (xb.trans x7) T (xb.trans x7).size Bf;refine(O 3∘Zv (by exact FZ Z Z)∘O 2∘Zn) ?_;rintro I w8 cf bl af;refine(Zs bl) ?_;rintro w9 bj t;refine(O 5) ?_;have x9:Be A w9:=Bp af t af.size Bv;refine(Gc) ?_;rintro ob p b8 ck n;refine(O 10) ?_;have b3:=r.a (x9.trans n);have b7:=y.a (x9.trans n);have bx:=bj.a n;have cs:I≠N:=by have:=r.lt;omega
          have cu:I≠g:=by have:=y.lt;omega
          have cr:=bj.lt;have ct:I≠ob:=X;have cp:N≠ob:=by have:=(r.a x9).lt;omega
          have cx:g≠ob:=by have:=(y.a x9).lt;omega
          have ab:Be w p:=xi.trans (x9.trans n);have ce:=xi.size;have b1:=x9.size
          have a3:∀i,Lz (Et l) row i<Alz l:=fun i=>by
           induction i with
           |zero=>exact d
           |succ i ih=>rw[Zr];exact oq ih
          have al:Bk p N 51 [.slice (J ⟨g,0,Aa⟩) (Alz (Et l)) (Alz l)]:=by rw[bq];exact b3
          refine Lo (fun((i,a):Y×Ad)=>(i<=Alz l/\Bk a I 345 (Rw N (Lz (Et l) row i))/\Bk a ob 5 (fill (fun(j:Y)=>Value.int .u8 ((((back l row).getD j 0).toNat:Y):H)) (.int .u8 0) (Alz l) i)/\Mo p a [I,ob],[(0,str (l)),(13,.pointer (J ⟨I,0,Aa⟩)),(14,.slice (J ⟨ob,0,Aa⟩) (Alz l) (Alz l)),(83,Bb ((Alz l:Y):H)),(84,Bb i)],a,Alz l-i)) (0,p) ?_ ?_
          .exact⟨BC _,bx,Ck,Mo.refl _ _⟩
          .rintro⟨i,a⟩⟨b6,b0,S,x⟩;refine(O 5)<|Zi (fun W=>?_) fun W=>?_
           .have h1:=a3 i;have h2:=a3 (i+1);have e1:=Zr (Et l) i row;have e2:(back l row).getD i 0=l.getD (Lz (Et l) row (i+1)) 0:=eV (Et l) l (Alz l) i row W;rw[e1]at h2 e2;generalize hq:(Et l).getD (Lz (Et l) row i) 0=q at h2 e1 e2;refine(O 12∘Zc (Ahb I N g (Alz l) (Et l) (Lz (Et l) row i) X X a b0 (al.j x Bv) (b7.j x Bv))) ?_;rintro _ cl⟨rfl,B,D⟩;rw[hq]at B ⊢;refine(Zv (by exact FQ eT Z Z (BQ (h2)))∘O 1) ?_;have ao:=S.j D Bv;refine(Zt ao (hlt:=by rw[QD b6];omega)) ?_;rintro bs G C;refine(O 6) ?_;rw[<-m q h2,<-e2,QE (f:=fun(j:Y)=>Value.int .u8 ((((back l row).getD j 0).toNat:Y):H)) W]at G;refine Lb ((i+1),bs) ?_;dsimp only;rw[e1];exact⟨X,B.j C Bv,G,(x.trans (D.mono Bh)).trans (C.mono Bh)⟩
           .obtain rfl:i=Alz l:=X;have bi:Alz (back l row)=Alz l:=Uy _ _ _ _;rw[QC,<-bi,fg]at S;have b2:=S.sl;have xe:Be w a:=Bp ab x ab.size Bv;refine(O 4∘Zv (DR b2 (hl:=bi))∘O 3∘BF) ?_;grind
def KG{k:AK}(l:Bj)(x:Y):BD k l++[.int k (x:H)]=BD k (l++[x]):=by rw[Vc];rfl
def yk(k:AK)(l:Bj)(n:Y):BD k l++BH n (.int k 0)=BD k (l++BH n 0):=by
 rw[Vc,KF];rfl
def CT(w:Ad)(B:Y)(v:Ah)(l:Bj):Prop:=Bn w B 3 1 v (Alz l) (BD .i64 l)
def CT.a{w w':Ad}{B:Y}{v:Ah}{l:Bj}(h:CT w B v l)(hx:Be w w'):CT w' B v l:=Bn.a h hx
def CT.sl{w:Ad}{B:Y}{v:Ah}{l:Bj}(h:CT w B v l):∃A c,v=.slice A (Alz l) c/\Alz l<=c/\Sl w w.heap.size A (BD .i64 l):=Bn.slice h
def CT.nil(w:Ad)(B:Y):CT w B (.slice Aa 0 0) []:=Bn.nil w B _ _
def Aka(k:Y)(hk:k<=1000000000)(w:Ad):
 Bm eD 229 [Bb (k:H)] w fun v w'=>CT w' w.heap.size v (Ec k)/\Be w w':=by
 refine Bw func229 Z ntmps229 (by rfl) Z ?_;refine(O 10)<|Lo (fun((j,o,e,wr):Y×(Bj)×Ah×Ad)=>(j<=k/\Alz o+j<=k/\o++Ec j=Ec k/\Bn wr w.heap.size 3 1 e (Alz o) (BD .i64 o)/\Be w wr,[(0,Bb j),(3,e)],wr,j)) (k,([]),(.slice Aa 0 0),w) ?_ ?_
 .exact⟨Bq _,Bh,Z,Bn.nil _ _ _ _,Be.refl _⟩
 .rintro⟨j,o,e,wr⟩⟨r,q,f,a,g⟩;refine(O 6)<|Zi (fun h=>?_) fun h=>?_
  .rw[UM h]at f;refine(O 12∘Zv (by exact MU (b:=1) (j:=1) (p:=2) (m:=9223372036854775807) Z Z Bc Bc Z X)∘Hk g a) ?_;rintro _ l i d n _ _;refine(O 4) ?_;refine OW.val Z Z (by first|exact IP (s:=1) (p:=2) Z Z Bc Bc|exact EX.shrZ (s:=1) (p:=2) Z Z Bc Bc)<|(O 3)<|Lb (((j-1)/2),(o++[(j-1)%2]),l,i) ?_;rw[KG]at d;grind
  .obtain rfl:j=0:=X;rw[OG,List.append_nil]at f;subst f;refine(O 6∘Bu) ?_;exact⟨a,g⟩
def pL{n:Y}{l:Bj}{j r:Y}(h:j<Alz l):Fu n r (l.drop j)=if l[j]=0 then Fu n (r+1) (l.drop (j+1))else Ec r++(l[j]+1)::Fu n 0 (l.drop (j+1)):=by
 rw[DD h];generalize l[j]=x;cases x with
 |zero=>rfl
 |succ x=>rfl
def Sl.Q{w:Ad}{B:Y}{A:Av AB}{l:Bj}(h:Sl w B A (BD .i64 l))(h0:0<Alz l):∃b o,A=J ⟨b,o,Aa⟩/\b<B/\∀W,Be w W->∀j (hj:j<Alz l),W.cell? ⟨b,o+j,Aa⟩=J (Bb (l[j]:Y)):=by
 obtain⟨b,o,rfl,d,a⟩:=h.at2 (by rw[DO];omega);exact⟨b,o,Z,d,fun W e j hj=>a W e j _ (by rw[FB hj,CG hj])⟩
def Akc(n:Y)(hn:1<=n/\n<=256)(l:Bj)(hl:Alz l<=1000000)(hp:∀p∈l,p<n)(A:Av AB)(c C:Y)(w:Ad)(hs:Sl w C A (BD .i64 l)):
 Bm eD 176 [Bb (n:H),.slice A (Alz l) c] w fun v w'=>(∃u,v=.tuple #[u,Bb ((0:Y):H)]/\CT w' w.heap.size u (Fu n 0 l))/\Be w w':=by
 obtain⟨ai,af⟩:=hn;refine Bw func176 Z ntmps176 (by rfl) Z ?_;refine(O 11)<|Zd 11 (fun c1=>?_) fun c1=>?_
 .omega
 .refine(O 4)<|Zi (fun c2=>?_) fun c2=>?_
  .omega
  .refine(O 11)<|Lo (fun((i,o,t,wr):Y×(Bj)×Ah×Ad)=>(i<=Alz l/\Alz o<=2*i/\o++Fu n 0 (l.drop i)=Fu n 0 l/\Bn wr w.heap.size 3 1 t (Alz o) (BD .i64 o)/\Be w wr,[(0,Bb n),(1,.slice A (Alz l) c),(6,t),(7,Bb i)],wr,Alz l-i)) (0,([]),(.slice Aa 0 0),w) ?_ ?_
   .exact⟨BC _,BC _,Z,Bn.nil _ _ _ _,Be.refl _⟩
   .rintro⟨i,o,t,wr⟩⟨hi,ab,he,m,N⟩;refine(O 8)<|Zi (fun hc=>?_) fun hc=>?_
    .obtain⟨b,f,rfl,_,k⟩:=hs.Q X;refine(O 10)<|Lc (fun((j,r):Y×Y)=>(i<=j/\j<=Alz l/\r+i=j/\o++Fu n r (l.drop j)=Fu n 0 l/\(j<Alz l->l.getD j 0≠0),[(0,Bb n),(1,.slice (J ⟨b,f,Aa⟩) (Alz l) c),(6,t),(7,Bb j),(8,Bb r)],wr)) ?_ ?_
     .refine(O 1)<|Lo (fun((j,r):Y×Y)=>(i<=j/\j<=Alz l/\r+i=j/\o++Fu n r (l.drop j)=Fu n 0 l,[(0,Bb n),(1,.slice (J ⟨b,f,Aa⟩) (Alz l) c),(6,t),(7,Bb j),(8,Bb r)],wr,Alz l-j)) (i,0) ?_ ?_
      .grind
      .rintro⟨j,r⟩⟨W,V,T,K⟩;refine(O 8)<|Zi (fun G=>?_) fun G=>?_
       .refine(O 8∘Zv (BR (k wr N j G))∘O 2)<|Zi (fun P=>?_) fun P=>?_
        .refine(O 1∘Lm (j,r)) ?_;grind
        .rw[pL G,Aj (Dd.1 P)]at K;refine(O 13)<|Lb ((j+1),(r+1)) ?_;grind
       .refine(O 1∘Lm (j,r)) ?_;grind
     .rintro⟨j,r⟩⟨W,V,T,K,S⟩;have al:=Yi r r (Bq _);refine(O 4∘Zc (Aka r X wr)) ?_;rintro _ w2⟨y,B⟩;obtain⟨A2,ao,rfl,_,D⟩:=y.sl;refine HM Z Z hU BZ Z Bc Z Z (N.trans B) (m.a B) (Src.Akm hU D (by rw[DO,IX]) Ly Bc) CB X ?_;rintro Q I e g _ _;refine(O 10) ?_;rw[<-Vc]at e;refine Zi (fun G=>?_) fun G=>?_
      .obtain rfl:j=Alz l:=X;rw[IS,Fu]at K;refine(O 6∘Hk g e) ?_;rintro _ x L a h _ _;refine(O 3∘BF) ?_;rw[KG]at a;refine⟨⟨x,Z,?_⟩,h⟩;unfold CT;grind
      .have d:j<Alz l:=X;have E:=S d;rw[CG d]at E;rw[pL d,Ag E]at K;have aj:=hp _ (BL d);refine(O 3)<|Lc (fun(q:Ar)=>(q=Ai,[(0,Bb n),(1,.slice (J ⟨b,f,Aa⟩) (Alz l) c),(6,Q),(7,Bb j),(52,.bool q)],I)) ?_ ?_
       .refine(O 4∘Zv (BR (k I g j d))∘O 2)<|Zd 45 (fun d1=>?_) fun d1=>?_
        .omega
        .refine(O 3∘Zv (BR (k I g j d))∘O 4∘Lm (decide (l[j]≥n))) ?_;grind
       .rintro q rfl;refine(O 8∘Zv (BR (k I g j d))∘O 1∘Hk g e) ?_;rintro _ x L a h _ _;refine(O 8)<|Lb ((j+1),((o++Ec r)++[l[j]+1]),x,L) ?_;rw[KG]at a;grind
    .obtain rfl:i=Alz l:=X;rw[IS,Fu,OG,EW]at he;refine(O 6∘Hk N m) ?_;rintro _ x L a h _ _;refine(O 3∘BF) ?_;rw[KG]at a;refine⟨⟨x,Z,?_⟩,h⟩;unfold CT;grind
def sA(n s:Y)(g:n<=256)(f:s<=1000000000)(w:Ad):Bm eD 253 [Bb (n:H),Bb (s:H)] w fun v w'=>(∃e:Y,1<=e/\e<=400/\v=Bb (e:H))/\w=w':=by
 refine Bw func253 Z ntmps253 (by rfl) Z ?_;refine(O 10)<|Zd 7 (fun d=>?_) fun d=>?_
 .omega
 .refine(O 6)<|Zi (fun a=>?_) fun a=>?_
  .refine(O 4∘Bu) ?_;exact⟨⟨60,Bc,Bc,Z⟩,Z⟩
  .refine(O 5∘Bu) ?_;exact⟨⟨70,Bc,Bc,Z⟩,Z⟩
def ER(e:Y):Prop:=1<=e/\e<=400
def Ajy(n most:Y)(hn:1<=n/\n<=256)(hm:most<=262144)(l:Bj)(hl:Alz l<=1000000000)(V:∀p∈l,p<=1000000000)(A:Av AB)(c C:Y)(w:Ad)(hs:Sl w C A (BD .i64 l)):
 Bm eD 206 [Bb (n:H),Bb (most:H),.slice A (Alz l) c] w fun v w'=>((∃u p,Ft n most [] 0 1 l=J p/\Alz p<=most/\v=.tuple #[u,Bb ((0:Y):H)]/\CT w' w.heap.size u p)∨(Ft n most [] 0 1 l=Aa/\∃e:Y,ER e/\v=.tuple #[.slice Aa 0 0,Bb (e:H)]))/\Be w w':=by
 obtain⟨ao,L⟩:=hn;refine Bw func206 Z ntmps206 (by rfl) Z ?_;refine(O 7)<|Lc (fun(S:Ar)=>(S=Ai,[(0,Bb n),(1,Bb most),(2,.slice A (Alz l) c),(26,.bool S)],w)) ?_ ?_
 .refine(O 4)<|Zd 15 (fun G=>?_) fun G=>?_
  .omega
  .refine(O 4)<|Zd 19 (fun c2=>?_) fun c2=>?_
   .omega
   .refine(O 4)<|Zd 23 (fun c3=>?_) fun c3=>?_
    .omega
    .refine(O 4∘Lm (decide (262144<most))) ?_;grind
 .rintro S rfl;refine(O 19)<|Lo (fun((i,r,wt,o,x,wr):Y×Y×Y×(Bj)×Ah×Ad)=>(i<=Alz l/\Alz o+r<=most/\1<=wt/\wt<=2*most+1/\Ft n most o r wt (l.drop i)=Ft n most [] 0 1 l/\Bn wr w.heap.size 3 1 x (Alz o) (BD .i64 o)/\Be w wr,[(0,Bb n),(1,Bb most),(2,.slice A (Alz l) c),(8,x),(9,Bb r),(10,Bb wt),(27,.slice A (Alz l) c),(28,Bb ((Alz l:Y):H)),(29,Bb i)],wr,Alz l-i)) (0,0,1,([]),(.slice Aa 0 0),w) ?_ ?_
  .exact⟨BC _,BC _,Bq _,X,Z,Bn.nil _ _ _ _,Be.refl _⟩
  .rintro⟨i,r,wt,o,x,wr⟩⟨hi,al,ai,af,a,h,B⟩;refine(O 5)<|Zi (fun I=>?_) fun I=>?_
   .obtain⟨b,f,rfl,_,E⟩:=hs.Q X;rw[DD I,Ft]at a;have K:=V _ (BL I);have j:=E wr B i I;generalize aj:l[i]=s at a K j;refine(O 7∘Zv (BR j)∘O 5)<|Lc (fun(Q:Ar)=>(Q=decide (n+1<s),[(0,Bb n),(1,Bb most),(2,.slice (J ⟨b,f,Aa⟩) (Alz l) c),(8,x),(9,Bb r),(10,Bb wt),(11,Bb i),(12,Bb s),(27,.slice (J ⟨b,f,Aa⟩) (Alz l) c),(28,Bb ((Alz l:Y):H)),(29,Bb i),(41,.bool Q)],wr)) ?_ ?_
    .refine(O 4)<|Zd 36 (fun G=>?_) fun G=>?_
     .omega
     .refine(O 6∘Lm (decide (s>n+1))) ?_;rfl
    .rintro Q rfl;refine Zi (fun P=>?_) fun P=>?_
     .rw[Aj P]at a;refine(O 5∘BF) ?_;exact⟨.inr ⟨a.symm,60,⟨Bc,Bc⟩,Z⟩,B⟩
     .rw[Ag P]at a;refine(O 7)<|Zi (fun N=>?_) fun N=>?_
      .rw[Aj N]at a;have a1:(s+1)*wt<=2*wt:=RX _ X;have a0:wt<=(s+1)*wt:=Nat.le_mul_of_pos_left _ X;refine(O 2)<|Lc (fun(t:Ar)=>(t=decide (most<wt∨most<Alz o+r+(s+1)*wt),[(0,Bb n),(1,Bb most),(2,.slice (J ⟨b,f,Aa⟩) (Alz l) c),(8,x),(9,Bb r),(10,Bb wt),(11,Bb i),(12,Bb s),(27,.slice (J ⟨b,f,Aa⟩) (Alz l) c),(28,Bb ((Alz l:Y):H)),(29,Bb i),(59,.bool t)],wr)) ?_ ?_
       .obtain⟨A0,c0,rfl,_,_⟩:=h.slice;refine(O 5)<|Zd 47 (fun G=>?_) fun G=>?_
        .refine(O 13∘Lm Af) ?_;grind
        .refine(O 13∘Lm (decide (r+(s+1)*wt>most-Alz o))) ?_;grind
       .rintro t rfl;refine Zi (fun m=>?_) fun m=>?_
        .rw[Aj m]at a;refine(O 5∘BF) ?_;exact⟨.inr ⟨a.symm,3,⟨Bc,Bc⟩,Z⟩,B⟩
        .rw[Ag m]at a;refine(O 22)<|Lb ((i+1),(r+(s+1)*wt),(wt*2),o,x,wr) ?_;grind
      .rw[Ag N]at a;refine(O 5) ?_;refine rB Z Z hU io BZ Z Z Z (B) (h) CB X ?_;rintro v2 T d g;refine(O 15) ?_;rw[yk]at d;refine Zi (fun m=>?_) fun m=>?_
       .rw[Aj m]at a;refine(O 9)<|Zi (fun k=>?_) fun k=>?_
        .rw[Ag (fun q=>by simp_all;omega)]at a;have D:=V _ (BL k);refine(O 7∘Zv (BR (E T g (i+1) k))∘Zc (sA n l[i+1] L D T)) ?_;rintro _ _⟨⟨e,e1,e2,rfl⟩,rfl⟩;refine(O 3∘BF) ?_;exact⟨.inr ⟨a.symm,e,⟨e1,e2⟩,Z⟩,g⟩
        .rw[Aj (La X)]at a;refine(O 7∘BF) ?_;refine⟨.inl ⟨v2,_,a.symm,Bf,Z,?_⟩,g⟩;unfold CT;grind
       .obtain⟨A0,c0,rfl,_,_⟩:=d.slice;rw[Ag m,Bx,Cn]at a;refine(O 9)<|Zi (fun k=>?_) fun k=>?_
        .rw[Aj k]at a;refine(O 5∘BF) ?_;exact⟨.inr ⟨a.symm,3,⟨Bc,Bc⟩,Z⟩,g⟩
        .rw[Ag k]at a;refine(O 5∘Hk g d) ?_;rintro _ v3 W y ab _ _;refine(O 7)<|Lb ((i+1),0,1,((o++BH r 0)++[s-1]),v3,W) ?_;rw[KG]at y;grind
   .obtain rfl:i=Alz l:=X;rw[IS,Ft]at a;refine(O 6∘BF) ?_;exact⟨.inr ⟨a.symm,70,⟨Bc,Bc⟩,Z⟩,B⟩
def ML(n:Y)(F:Y->Ah):Bl:=(BE n).map F
section
variable{n i:Y}{F G:Y->Ah}{x:Ah}
def Ahk:Alz (ML n F)=n:=by simp[ML]
def Ahj(h:i<n):(ML n F)[i]? =J (F i):=by simp[ML,h]
def Ahl(h:i<n)(d:∀b,b<n->G b=if b=i then x else F b):(ML n F).set i x=ML n G:=by
 apply MX (by simp[ML]);intro j e a;rw[Ahk]at a;rw[TS];simp only[ML,Og,List.getElem_range];grind
end
def PC(s:Bg)(b:Y):Bg:=((BE b).filter fun c=>decide (BV c∈s)).map BV
def pt(s:Bg)(b:Y):PC s (b+1)=if BV b∈s then PC s b++[BV b]else PC s b:=by
 unfold PC;rw[FT,Le,DW];grind
def pq(s:Bg):∀b,Alz (PC s b)<=b
 |0=>Bq _
 |b+1=>by
  have:=pq s b;rw[pt];grind
def of_s(s:Bg)(hs:Alz s<=1000000)(w:Ad):Bm eD 174 [str s] w fun v w'=>v=str (used s)/\Be w w':=by
 refine Bw func174 Z ntmps174 (by rfl) Z ?_;refine(O 6∘Zn) ?_;rintro p P S af j;refine(O 9)<|Lo (fun((i,wr):Y×Ad)=>(i<=Alz s/\Bk wr p 321 (ML 256 fun b=>.bool (decide (BV b∈s.take i)))/\Mo P wr [p],[(0,str (s)),(3,.pointer (J ⟨p,0,Aa⟩)),(8,Bb ((Alz s:Y):H)),(9,Bb i)],wr,Alz s-i)) (0,P) ?_ ?_
 .refine⟨BC _,?_,Mo.refl _ _⟩;assumption
 .rintro⟨i,wr⟩⟨hi,D,Q⟩;refine(O 5)<|Zi (fun g=>?_) fun g=>?_
  .have h8:=(s[i]).toNat_lt
   have hG:∀b,b<256->Value.bool (decide (BV b∈s.take (i+1)))=if b=s[i].toNat then .bool Af else .bool (decide (BV b∈s.take i)):=fun b T=>by
    rw[<-CX g];by_cases e:b=s[i].toNat
    .have e8:BV s[i].toNat=s[i]:=Bh;grind
    .have:BV b≠s[i]:=fun q=>e (by rw[<-q,Bz.toNat_ofNat T]);grind
   refine(O 11∘Zv (by exact FQ eT Z Z (BQ (g)))∘O 1∘Zt D (hlt:=by assumption)) ?_;rintro y k I;refine(O 6) ?_;rw[Ahl h8 hG]at k;refine Lb ((i+1),y) ?_;exact⟨X,k,Q.trans I⟩
  .obtain rfl:i=Alz s:=X;rw[DY]at D;have V:Be w wr:=Bp j Q j.size Bf;refine(O 3) ?_;refine Ks 0 Z Z im CE Z Z Z Z (by rfl) Bc ?_;rintro ob y m N C;refine(O 8)<|Lo (fun((b,o,h):Y×Ah×Ad)=>(b<=256/\Bn h wr.heap.size 5 1 o (Alz (PC s b)) (BI (PC s b))/\Be wr h,[(3,.pointer (J ⟨p,0,Aa⟩)),(5,o),(18,Bb b)],h,256-b)) (0,(.slice (J ⟨ob,0,Aa⟩) 0 0),y) ?_ ?_
   .exact⟨BC _,Bn.Akk (l:=[]) N m Z Bc,C⟩
   .rintro⟨b,o,h⟩⟨T,a,r⟩;have ab:=pq s b;refine(O 5)<|Zi (fun g=>?_) fun g=>?_
    .have t:=pt s b;have K:=Bz.toNat_ofNat g;have L:((b:Y):H)=((BV b).toNat:H):=AF Om K.symm;refine(O 12∘Zv (Bo (D.a r) (hi:=Ahj g))∘O 1)<|Zi (fun f=>?_) fun f=>?_
     .rw[Aj f]at t;refine(O 4∘Hk r a) ?_;rintro _ v3 W d B _ _;refine(O 7)<|Lb ((b+1),v3,W) ?_;rw[L,<-Qo]at d;dsimp only;rw[t,Bx];exact⟨X,d,B⟩
     .rw[Ag f]at t;refine(O 6)<|Lb ((b+1),o,h) ?_;dsimp only;rw[t];exact⟨X,a,r⟩
    .obtain rfl:b=256:=X;obtain⟨A,c,rfl,_,E⟩:=a.slice;refine(O 4∘Zv (DR E)∘O 2∘Bu) ?_;exact⟨Z,V.trans r⟩
def Acx{u:Bg}{i:Y}(h1:1<=i)(hi:i<Alz u)(h:(u.take i).Pairwise fun a b=>a.toNat<b.toNat)(hlt:u[i-1].toNat<u[i].toNat):(u.take (i+1)).Pairwise fun a b=>a.toNat<b.toNat:=by
 rw[<-CX hi,Na];refine⟨h,Bh,fun a d b f=>?_⟩;obtain⟨j,e,rfl⟩:=Hw.1 d;rcases CM j (i-1)with q|q
 .have:=Ir.1 h j _ X (by rw[BW];omega) q;grind
 .grind
def bo(u:Bg)(m:Alz u<=1000000)(w:Ad):Bm eD 227 [str u] w fun v w'=>(∃d,v=.bool d/\(d=Af↔OZ u))/\Be w w':=by
 refine Bw Bh Z ntmps227 Bi Z ?_;refine(O 10)<|Lo (fun((i,wr))=>(1<=i/\(i<=Alz u∨i=1)/\(u.take i).Pairwise (fun a b=>a.toNat<b.toNat)/\Be w wr,[(0,str (u)),(3,Bb i)],wr,Alz u-i)) (1,w) ?_ ?_
 .refine⟨X,X,?_,Be.refl _⟩;cases u with
  |nil=>simp
  |cons a r=>simp
 .rintro⟨i,wr⟩⟨k,o,j,f⟩;refine(O 8)<|Zi (fun h=>?_) fun h=>?_
  .have e:i-1<Alz u:=X;refine(O 7∘Zq (by exact fun _=>FQ Bh Z Z (BQ (h)))∘O 3∘Zq (by exact fun _=>FQ Bh Z Z (BQ (e)))∘O 1∘QW.nil) fun l=>Zi (fun g=>?_) fun g=>?_
   .refine(O 4∘Bu) ?_;refine⟨⟨_,Z,Bh,fun q=>?_⟩,f.trans (Be.drewN _ _)⟩;have:=Ir.1 q.2 _ i e h X;omega
   .refine(O 7)<|Lb ((i+1),_) ?_;exact⟨X,X,Acx k _ j X,f.trans (Be.drewN _ _)⟩
  .rw[Dh X]at j;refine(O 4∘Zv (by exact MV Z Z)∘O 2∘Bu) ?_;refine⟨⟨_,Z,?_⟩,f⟩;rw[decide_eq_true_eq];exact⟨fun q=>⟨q,j⟩,fun q=>q.1⟩
def Bk.push{w w':Ad}{b:Y}{T:Aw}{l:Bl}{v:Ah}(h:Bk w b T l)(hg:w.grownBy w' (Pi v))(hne:∀k,Pi v=J k->b≠k):Bk w' b T l:=
 h.j (Mo.grown hg (S:=v.ownBlock.toList) Bh) Bf
def sW{l:Bg}{rest:Bl}{k:Y}(h:k<Alz l):(BI l++rest)[k]? =J (.int .u8 (((l.getD k 0).toNat:Y):H)):=by
 rw[FR (by rw[EZ];omega)];unfold BI;grind
def sX{l:Bg}{k:Y}(h:k<Alz l)(rest:Bl):Value.int .u8 ((l[k].toNat:Y):H)::(BI l++rest).eraseIdx k=BI (EI l k)++rest:=by
 rw[List.eraseIdx_append_of_lt_length (by rw[EZ];omega)];unfold EI BI;rw[Cm,Cd,BQ h,WL,WL,DW,TV,List.map_drop];rfl
def kW(l:Bg)(rest:Bl)(k g cap:Y)(hk:k<Alz l)(D:Alz l<=cap)(o:Alz l+Alz rest=cap)(C:Alz l<=1000000000)(w:Ad)(h:Bk w g 5 (BI l++rest)):
 Bm eD 228 [.slice (J ⟨g,0,Aa⟩) (Alz l) cap,Bb (k:H)] w fun v w'=>v=.int .u8 ((l[k].toNat:Y):H)/\Bk w' g 5 (BI (EI l k)++rest)/\Mo w w' [g]:=by
 have f:(BI l++rest)[k]? =J (.int .u8 ((l[k].toNat:Y))):=by
  rw[FR (by rw[EZ];omega)];unfold BI;rw[DV,BQ];rfl
 have E:Alz (BI l++rest)=cap:=by rw[Bx,EZ,o]
 have t:Alz ((BI l++rest).take k)=k:=by rw[BW];omega
 have d:=kY (cap:=cap) f Z X;rw[sX]at d
 have r:∀u∈(BI l++rest).take k,u.oneCell'=Af:=fun u q=>by
  rw[Ua (by rw[EZ];omega)]at q;exact UC u (Kn q)
 refine Bw Bh Z ntmps228 Bi Z ?_;refine(O 9∘Zv (Bo h (hi:=f))∘O 3∘Yr 8 (fun w'=>True) Bh) fun y=>(Gv [0,1,2]∘Yw 3 (he:=by exact fun _ _=>cZ Bh CE Z (i:=1) Z Z X)∘Gv [4,5]∘Yw 6 (he:=by exact fun _ _=>Wx Bh CE Z Z X)) ?_;have a:=h.drew.Alg 0 k;rw[MW]at a;refine WC 7 _ Z Bi Z Z Bh im CE Z Z (a) X X Ck Bf ?_;rintro B p m;refine⟨X,fun y=>?_⟩;refine(Yd∘O 5∘Zt p (hlt:=by grind)) ?_;rintro A e j;refine(O 6∘Bu) ?_;rw[d]at e;exact⟨Z,e,((Mo.Akj (Be.drew w) _).trans m).trans j⟩
def xU{l:Bg}{b:AI}{k:Y}(hk:k<Alz l)(a:l[k]=b)(d:∀j (hj:j<k),l[j]'X≠b):l.idxOf b=k:=by
 have e:l=l.take k++b::l.drop (k+1):=by rw[<-a,List.getElem_cons_drop,Hx]
 grind
def xh{L s:Bg}{i:Y}{ps:Bj}(hi:i<Alz s)(h:front L (s.drop i)=J ps):s[i]∈L/\∃ps',ps=L.idxOf s[i]::ps'/\front (EI L (L.idxOf s[i])) (s.drop (i+1))=J ps':=by
 rw[DD hi,front]at h;split at h
 .rename_i a;obtain⟨q,d,rfl⟩:=Nc.1 h;grind
 .grind
def xl(s u:Bg)(ps:Bj)(hs:Alz s<=1000000)(hu:Alz u<=256)(Q:OZ u)(hf:front u s=J ps)(w:Ad):
 Bm eD 175 [str s,str u] w fun v w'=>(∃x,v=.tuple #[x,Bb ((0:Y):H)]/\CT w' w.heap.size x ps)/\Be w w':=by
 refine Bw func175 Z ntmps175 Bi Z ?_;refine(O 9∘Zc (bo u X w)) ?_;rintro _ p⟨⟨d,rfl,hd⟩,K⟩;obtain rfl:=hd.2 Q;refine(O 2∘Ct 12 (.bool Ai)∘O 5) ?_;refine OW.bytesOf Z Z eT im iB Z X ?_;rintro l rs w2 ao a7 a3 a4 I;refine(O 6) ?_;refine Xi (len:=0) Z Z hU BZ Z Z Z X X CB ?_;rintro v3 w3 D E;refine(O 10) ?_;have V:=I.size;refine Lo (fun((i,L,o,qs,A,wr):Y×(Bg)×(Bj)×(Bj)×Ah×Ad)=>(i<=Alz s/\Alz L=Alz u/\front L (s.drop i)=J qs/\o++qs=ps/\Alz o=i/\Bn wr p.heap.size 3 1 A (Alz o) (BD .i64 o)/\Bk wr p.heap.size 5 (BI L++rs)/\Be p wr,[(0,str (s)),(6,.slice (J ⟨p.heap.size,0,Aa⟩) (Alz u) l),(7,A),(19,Bb ((Alz s:Y):H)),(20,Bb i)],wr,Alz s-i)) (0,u,([]),ps,v3,w3) ?_ ?_
 .exact⟨BC _,Z,hf,Z,Z,D.l V,ao.a E,I.trans E⟩
 .rintro⟨i,L,o,qs,A,wr⟩⟨hi,a0,g,t,a2,f,h,hx⟩;refine(O 5)<|Zi (fun hc=>?_) fun hc=>?_
  .obtain⟨a1,ab,rfl,r⟩:=xh hc g;refine(O 13)<|Lc (fun((k,m):Y×Ad)=>(k<Alz u/\L.getD k 0=s[i]/\(∀j,j<k->L.getD j 0≠s[i])/\Be wr m,[(0,str (s)),(6,.slice (J ⟨p.heap.size,0,Aa⟩) (Alz u) l),(7,A),(8,Bb i),(9,Bb k),(19,Bb ((Alz s:Y):H)),(20,Bb i)],m)) ?_ ?_
   .refine(O 1)<|Lo (fun((k,m):Y×Ad)=>(k<=Alz u/\(∀j,j<k->L.getD j 0≠(s[i]'hc))/\Be wr m,[(0,str (s)),(6,.slice (J ⟨p.heap.size,0,Aa⟩) (Alz u) l),(7,A),(8,Bb i),(9,Bb k),(19,Bb ((Alz s:Y):H)),(20,Bb i)],m,Alz u-k)) (0,wr) ?_ ?_
    .exact⟨BC _,fun j W=>by omega,Be.refl _⟩
    .rintro⟨k,m⟩⟨hk,N,a⟩;refine(O 8)<|Nh 27 (fun c1=>?_) fun c1=>?_
     .skip
      refine(O 3∘Zq (by exact fun _=>Bo ((h.a a).drewN _) (hi:=sW X))∘O 2∘Zq (by exact fun _=>FQ eT Z Z (BQ (hc)))∘O 2∘QW.nil) fun nq=>Zi (fun h2=>?_) fun h2=>?_
      .refine(O 8) ?_;refine Lb ((k+1),_) ?_;refine⟨X,fun j W=>?_,a.trans (Be.drewN _ _)⟩;grind
      .have e:=Ku.1 (Dd.1 h2);refine(O 1∘Lm (k,_)) ?_;exact⟨c1,e,N,a.trans (Be.drewN _ _)⟩
     .exfalso;grind
   .rintro⟨k,m⟩⟨hk,a5,N,a⟩;have y:k<Alz L:=X;have a6:∀j (W:j<Alz L),L.getD j 0=L[j]:=fun j W=>by grind
    have T:L.idxOf s[i]=k:=xU y Bf (fun j W=>by grind);rw[T]at r t;have P:=kW L rs k p.heap.size l y X X X m (h.a a);rw[a0]at P;refine(O 8)<|Zi (fun hz=>?_) fun hz=>?_
    .omega
    .refine(O 5∘Zc P) ?_;rintro _ w5⟨rfl,al,S⟩;refine(O 4) ?_;have C:=(f.a a).j S (fun q hq=>by simp;exact fun z=>f.ne h Bc q hq z.symm);have x5:Be p w5:=Bp (hx.trans a) S (hx.trans a).size Bh;refine(Hk x5 C) ?_;rintro _ v6 w6 B af ai _;refine(O 7) ?_;have aj:=al.push ai (f.ne h Bc);refine Lb ((i+1),(EI L k),(o++[k]),ab,v6,w6) ?_;rw[KG]at B;exact⟨X,by rw[Pa y];omega,r,Bf,Bf,Bf,aj,af⟩
  .obtain rfl:i=Alz s:=X;rw[IS,front]at g;injection g with g;subst g;rw[List.append_nil]at t;subst t;refine(O 7∘BF) ?_;exact⟨⟨A,Z,f.l K.size⟩,K.trans hx⟩
def sn{L:Bg}{k:Y}{ps:Bj}:GI L (k::ps)=if k<Alz L then(GI (EI L k) ps).map (L.getD k 0::·)else Aa:=by rfl
def Aek(ps:Bj)(u:Bg)(a7:Alz ps<=1000000)(hp:∀p∈ps,p<=1000000000)(hu:Alz u<=256)(Q:OZ u)(A:Av AB)(c C:Y)(w:Ad)(hs:Sl w C A (BD .i64 ps)):
 Bm eD 207 [.slice A (Alz ps) c,str u] w fun v w'=>((∃x,GI u ps=J x/\v=.tuple #[str x,Bb ((0:Y):H)])∨(GI u ps=Aa/\∃e:Y,ER e/\v=.tuple #[str [],Bb (e:H)]))/\Be w w':=by
 refine Bw Bh Z ntmps207 (by rfl) Z ?_;refine(O 9∘Zc (bo u X w)) ?_;rintro _ m⟨⟨d,rfl,hd⟩,r⟩;obtain rfl:=hd.2 Q;refine(O 2∘Ct 12 (.bool Ai)∘O 5) ?_;refine OW.bytesOf Z Z Bh Bh iB Z X ?_;rintro y rs w2 af bb a9 ba K;refine(O 6) ?_;refine Xi (len:=0) Z Z Bh CE Z Z Z X X (by simp[maxLen];omega) ?_;rintro v3 w3 h I;refine(O 10) ?_;have V:=K.size;have a6:=af.lt;refine Lo (fun((i,L,o,B,wr))=>(i<=Alz ps/\Alz L=Alz u/\(GI L (ps.drop i)).map (o++·)=GI u ps/\Alz o=i/\Bn wr m.heap.size 5 1 B (Alz o) (BI o)/\(∀k,Pi B=J k->m.heap.size≠k)/\Bk wr m.heap.size 5 (BI L++rs)/\Be m wr,[(0,.slice A (Alz ps) c),(6,.slice (J ⟨m.heap.size,0,Aa⟩) (Alz u) y),(7,B),(18,.slice A (Alz ps) c),(19,Bb (Alz ps:H)),(20,Bb i)],wr,Alz ps-i)) (0,u,([]),v3,w3) ?_ ?_
 .refine⟨X,Z,?_,Z,h.l V,fun k T=>?_,af.a I,K.trans I⟩
  .simp
  .have:=(h.lt k T).1;omega
 .rintro⟨i,L,o,B,wr⟩⟨hi,ai,a,a8,j,a0,a3,N⟩;refine(O 5)<|Zi (fun hc=>?_) fun hc=>?_
  .obtain⟨b,f,rfl,_,a5⟩:=hs.Q X;have ao:=hp _ (BL hc);have l:=a5 _ (r.trans N) i hc;rw[DD hc,sn]at a;generalize ps[i]=p at ao l a;refine(O 6∘Zv (BR l)∘O 4)<|Lc (fun d8=>(d8=decide (Alz L<=p),[(0,.slice (J ⟨b,f,Aa⟩) (Alz ps) c),(6,.slice (J ⟨m.heap.size,0,Aa⟩) (Alz u) y),(7,B),(9,Bb p),(18,.slice (J ⟨b,f,Aa⟩) (Alz ps) c),(19,Bb (Alz ps:H)),(20,Bb i),(31,.bool d8)],wr)) ?_ ?_
   .refine(O 4)<|Zd 26 (fun c1=>?_) fun c1=>?_
    .omega
    .refine(O 6∘Lm (decide (p≥Alz u))) ?_;rw[ai]
   .rintro d8 rfl;refine Zi (fun h1=>?_) fun h1=>?_
    .rw[Ag X]at a;refine(O 5∘BF) ?_;exact⟨.inr ⟨a.symm,_,⟨Bc,Bc⟩,Z⟩,r.trans N⟩
    .have t:p<Alz L:=X;rw[Aj t]at a;have a1:L.getD p 0=L[p]:=by rw[Cd,BQ];rfl
     have P:=kW L _ p _ y t X X X _ a3;rw[ai]at P;refine(O 5∘Zc P) ?_;rintro _ w5⟨rfl,ab,S⟩;have E:=j.j S (fun q hq=>by grind);have x5:Be m w5:=Bp N S N.size Bh;refine(Hk x5 E) ?_;rintro _ v6 w6 D aj a2 W;refine(O 7) ?_;have a4:=ab.push a2 a0;refine Lb ((i+1),(EI L p),(o++[L[p]]),v6,w6) ?_;rw[<-Qo]at D;refine⟨X,by rw[Pa t];omega,?_,Bf,Bf,fun k T=>?_,a4,aj⟩
     .rw[<-a,a1,Option.map_map];congr 1;grind
     .rcases W with q|⟨g,q,hg⟩
      .grind
      .rw[q]at T;injection T with T;have:=ab.lt;omega
  .obtain rfl:i=Alz ps:=X;rw[IS,GI]at a;obtain⟨A0,c0,rfl,_,al⟩:=j.slice;refine(O 4∘Zv (DR al)∘O 3∘BF) ?_;refine⟨.inl ⟨o,?_,Z⟩,r.trans N⟩;grind
def ZY{l:Bs}{v:Y}(hv:v<2 ^ Alz l)(h:∀k,k<Alz l->v.testBit k=l.getD (Alz l-1-k) Ai):num l=v:=by
 apply Ue;intro k;rw[QM];by_cases a:k<Alz l
 .grind
 .rw[Cd,IV Bf,Qd (Kq hv (Gb Bh X))];rfl
def ZX{l:Bs}{k:Y}(hk:k<Alz l):(num l).testBit k=l.getD (Alz l-1-k) Ai:=by
 rw[QM,Cd,Cd,TR hk]
def sF(m k:Y):(1*2 ^ m).testBit k=decide (m=k):=by
 grind
def Adt{u:Bg}{i:Y}(hi:i<Alz u):num (CU (u.take (i+1)) (u[i].toNat/16))=num (CU (u.take i) (u[i].toNat/16))|||(1*2 ^ (15-u[i].toNat%16)):=by
 have g:=(u[i]).toNat_lt;have a:=JY;refine ZY ?_ fun k d=>?_
 .rw[a];refine Ma ?_ ?_
  .have:=Pe (CU (u.take i) (u[i].toNat/16));grind
  .rw[Nat.one_mul];exact Nat.pow_lt_pow_right Bc X
 .rw[a]at d;rw[Nat.testBit_or,ZX Bf,sF,a,a,aR _ _ _ X,aR _ _ _ X,<-CX hi];rw[Ry,Rz,decide_eq_true_eq,decide_eq_true_eq,decide_eq_true_eq,CW,Cp];refine or_congr Iff.rfl ⟨fun e=>?_,fun e=>?_⟩
  .apply Ku.1;simp;omega
  .have f:=AF UInt8.toNat e;rw[Bz.toNat_ofNat X]at f;omega
def Adu{u:Bg}{i r:Y}(hi:i<Alz u)(g:r<16)(d:r≠u[i].toNat/16):num (CU (u.take (i+1)) r)=num (CU (u.take i) r):=by
 have h:=(u[i]).toNat_lt;congr 1;unfold CU;apply Kl;intro k a;have a:=DX.1 a;rw[<-CX hi,decide_eq_decide,CW,Cp];refine⟨fun q=>q.resolve_right fun e=>?_,.inl⟩;have f:=AF UInt8.toNat e;rw[Bz.toNat_ofNat X]at f;omega
def mY(u:Bg)(r:Y):num (CU u r)<65536:=by
 have:=Pe (CU u r);rwa[JY]at this
def Td(u:Bg)(r:Y):num (CU u r)=0↔DL u r=Ai:=by
 constructor
 .intro h;unfold DL;rw[List.any_eq_false];intro b d;obtain⟨j,a,rfl⟩:=Hw.1 d;have:=ZX (l:=CU u r) (k:=15-j) (by rw[JY]at*;omega);rw[h,Nat.zero_testBit,JY]at this;rw[JY]at a;grind
 .intro h;refine ZY (Nat.two_pow_pos _) fun k e=>?_;unfold DL at h;rw[List.any_eq_false]at h;have a:Alz (CU u r)-1-k<Alz (CU u r):=X;have:=h _ (BL a);grind
def GG(u:Bg)(i:Y):Bs:=(BE 16).map fun r=>decide (r<i) && DL u r
def Xq(u:Bg)(i:Y):Alz (GG u i)=16:=by rfl
def ej(u:Bg)(i k:Y)(h:k<16):(GG u i).getD k Ai=(decide (k<i) && DL u k):=by
 unfold GG;grind
def rZ{u:Bg}{i:Y}(hi:i<16):num (GG u (i+1))=if DL u i=Af then num (GG u i)|||(1*2 ^ (15-i))else num (GG u i):=by
 have a:=Xq u
 have d:num (GG u i)<2 ^ 16:=by
  have:=Pe (GG u i);rwa[a]at this
 refine ZY ?_ fun k f=>?_
 .rw[a];split
  .refine Ma d ?_;rw[Nat.one_mul];exact Nat.pow_lt_pow_right Bc X
  .omega
 .rw[a]at f;rw[a,ej _ _ _ X]
  have e:(num (GG u i)).testBit k=(decide (16-1-k<i) && DL u (16-1-k)):=by
   rw[ZX Bf,a,ej _ _ _ X]
  grind
def rV(u:Bg):GG u 16=(BE 16).map (DL u):=by
 rfl
def eu(u:Bg)(i:Y):num (GG u i)<65536:=by
 have:=Pe (GG u i);rwa[Xq]at this
def mg{m:Y}(h:m<=15):(2:Y) ^ m<=32768:=Gb Bh h
def zi(u:Bg)(r:Y):nb 16 (num (CU u r))=CU u r:=by
 have:=kZ (CU u r);assumption
def Ado(r:Y):num (CU [] r)=0:=(Td [] r).2 (by rfl)
def Agu(u:Bg)(hu:Alz u<=256)(af:OZ u)(w:Ad):
 Bm eD 178 [str u] w fun v w'=>v=.tuple #[.agg (Ee (Kb u)).toArray,Bb ((0:Y):H)]/\Be w w':=by
 refine Bw func178 Z ntmps178 Bi Z ?_;refine(O 2∘Zn) ?_;rintro ob w0 a8 a3 L;refine(O 6∘Zc (bo u X w0)) ?_;rintro _ w1⟨⟨d,rfl,hd⟩,K⟩;obtain rfl:=hd.2 af;refine(O 2∘Ct 14 (.bool Ai)∘O 4∘Zn) ?_;rintro G w2 a7 ao I;refine(O 9) ?_
 have W:Bk w2 G 324 (EN .u64 16 fun r=>num (CU (u.take 0) r)):=by
  rw[Oj,<-oD (F:=fun _=>0) (fun r _=>(Ado r).symm)];exact ao
 refine Lo (fun((i,wr):Y×Ad)=>(i<=Alz u/\Bk wr G 324 (EN .u64 16 fun r=>num (CU (u.take i) r))/\Mo w2 wr [G],[(0,str (u)),(2,.pointer (J ⟨ob,0,Aa⟩)),(4,.pointer (J ⟨G,0,Aa⟩)),(17,Bb ((Alz u:Y):H)),(18,Bb i)],wr,Alz u-i)) (0,w2) ?_ ?_
 .exact⟨BC _,W,Mo.refl _ _⟩
 .rintro⟨i,wr⟩⟨hi,D,hm⟩;refine(O 5)<|Zi (fun hc=>?_) fun hc=>?_
  .have h8:=(u[i]).toNat_lt;have y:u[i].toNat/16<16:=X;have S:=mY (u.take i) (u[i].toNat/16);have ab:=mg (show 15-u[i].toNat%16<=15 by omega)
   have hG:∀r,r<16->num (CU (u.take (i+1)) r)=if r=u[i].toNat/16 then num (CU (u.take i) (u[i].toNat/16))|||(1*2 ^ (15-u[i].toNat%16))else num (CU (u.take i) r):=fun r D=>by
    by_cases e:r=u[i].toNat/16
    .rw[Aj e,e,Adt hc]
    .rw[Ag e,Adu hc D e]
   refine(O 8) ?_;refine Kk 14 Bi Bi<|HW.val Z Z (EX.move Z)<|HW.val Z Z (EX.move Z)<|HW.val Z Z (FQ eT Z Z (BQ (hc)))<|HW.val Z Z (IP (s:=4) (p:=16) Z Z Bc Bc)<|HW.val Z Z (by first|exact LP iG Py Z Z X|exact LQ iG Py Z Z X)<|HW.val Z Z (CV iw Z Z (D.drew.I (MK y)))<|HW.val Z Z (EX.move Z)<|HW.val Z Z (EX.move Z)<|HW.val Z Z (FQ eT Z Z (BQ (hc)))<|HW.val Z Z (MU (b:=15) (j:=4) (p:=16) (m:=255) Z Z Bc Bc Z X)<|HW.val Z Z (Kg (a:=15) (m:=255) Z Z Z X)<|HW.val Z Z (NZ (a:=1) (m:=18446744073709551615) Z Z (by show _<=64;omega) Z X)<|HW.val Z Z (NY (m:=18446744073709551615) Z Z Z X)<|HW.val Z Z (by first|exact LP iG Py Z Z X|exact LQ iG Py Z Z X)<|HW.tail<|(Zt D.drew (hlt:=by assumption)) ?_;rintro w3 V a6;refine(O 6) ?_;rw[Px y hG]at V;refine Lb ((i+1),w3) ?_;exact⟨X,V,(hm.trans (Mo.Akj (Be.drew wr) _)).trans a6⟩
  .obtain rfl:i=Alz u:=X;rw[DY]at D;have x1:=L.trans K;have E:Be w1 wr:=Bp I hm I.size Bv;have a0:=(a3.a K).a E;refine(O 3∘Zc (Pd wr)) ?_;rintro _ w4⟨A,rfl,Q,l⟩;refine(O 6) ?_;have T:=D.a l;have a2:=a0.a l;refine(Zv (by exact Ke iG Z bP Z (T) (by rw[Gy]))∘O 3)<|Lo (fun(i:Y)=>(i<=16,[(2,.pointer (J ⟨ob,0,Aa⟩)),(4,.pointer (J ⟨G,0,Aa⟩)),(6,.pointer (J ⟨A,0,Aa⟩)),(7,.int .u64 (((num (GG u i)):Y):H)),(37,.agg (EN .u64 16 fun r=>num (CU u r)).toArray),(38,Bb i)],w4,16-i)) 0 ?_ ?_
   .simp
   .rintro i hi;refine(O 5)<|Zi (fun h=>?_) fun h=>?_
    .have aj:=eu u i;have ab:=mg (show 15-i<=15 by omega);have g:=rZ (u:=u) h;refine(O 6∘Zv (by exact TE iG iw Z Py Z Z X (MK h))∘O 8)<|Zi (fun f=>?_) fun f=>?_
     .have C:DL u i=Af:=by
       rcases hb:DL u i with _|_
       .exact AH ((Td u i).2 hb) f
       .rfl
      rw[Aj C]at g;refine(O 5∘Zv (by exact NZ (a:=1) (m:=18446744073709551615) Z Z (by show _<=64;omega) Z X)∘Zv (by exact NY (m:=18446744073709551615) Z Z Z X)∘O 7∘Ct 7 (.int .u64 (((num (GG u (i+1))):Y):H)) (e:=by rw[g]))<|Lb (i+1) ?_;exact h
     .have C:¬DL u i=Af:=fun q=>by
       have:=(Td u i).1 (Dd.1 f);grind
      rw[Ag C]at g;refine(O 6∘Ct 7 (.int .u64 (((num (GG u (i+1))):Y):H)) (e:=by rw[g]))<|Lb (i+1) ?_;exact h
    .obtain rfl:i=16:=X;have aj:=eu u 16
     have a4:nb 16 (num (GG u 16))=(BE 16).map (DL u):=by
      have:=kZ (GG u 16);rwa[Xq,rV]at this
     refine(O 5∘Zc (GU wr.heap.size A [] (num (GG u 16)) 16 X Bc aj Bc w4 Q)) ?_;rintro _ w5⟨rfl,P,t5⟩;refine(O 4) ?_;rw[EW,a4]at P;have x5:Be w1 w5:=t5.below (E.trans l) (E.trans l).size E.size;have al:=t5.bk T Z;have ba:=t5.bk a2 Z;refine(Zv (by exact Ke iG Z bP Z (al) (by rw[Gy]))∘O 3)<|Lo (fun((i,k):Y×Ad)=>(i<=16/\FH k wr.heap.size A ((BE 16).map (DL u)++(BE i).flatMap fun r=>if DL u r then CU u r else[])/\Bk k ob 226 [str [],Bb 0]/\Be w1 k,[(2,.pointer (J ⟨ob,0,Aa⟩)),(6,.pointer (J ⟨A,0,Aa⟩)),(54,.agg (EN .u64 16 fun r=>num (CU u r)).toArray),(55,Bb i)],k,16-i)) (0,w5) ?_ ?_
     .grind
     .rintro⟨i,k⟩⟨hi,n,B,N⟩
      have ai:∀i,Alz ((BE i).flatMap fun r=>if DL u r then CU u r else[])<=16*i:=fun i=>by
       induction i with
       |zero=>simp
       |succ i ih=>
        rw[FT,IT,Bx,Gk,TP,List.append_nil];split
        .rw[JY];omega
        .grind
      have bb:=ai i;have bc:Alz ((BE 16).map (DL u))=16:=Bh;refine(O 5)<|Zi (fun t=>?_) fun t=>?_
      .have S:=mY u i
       have o:(BE (i+1)).flatMap (fun r=>if DL u r then CU u r else[])=(BE i).flatMap (fun r=>if DL u r then CU u r else[])++if DL u i then CU u i else[]:=by
        rw[FT,IT,Gk,TP,List.append_nil]
       refine(O 5∘Zv (by exact TE iG iw Z Py Z Z X (MK t))∘O 7)<|Zi (fun f=>?_) fun f=>?_
       .have C:DL u i=Af:=by
         rcases hb:DL u i with _|_
         .exact AH ((Td u i).2 hb) f
         .rfl
        rw[Aj C]at o;refine(O 3∘Zc (GU wr.heap.size A _ (num (CU u i)) 16 X Bc S Bf k n)) ?_;rintro _ w6⟨rfl,x,t6⟩;refine(O 6)<|Lb ((i+1),w6) ?_;rw[zi,Cq,<-o]at x;have:=E.size;exact⟨t,x,t6.bk B Z,t6.below N N.size X⟩
       .have C:¬DL u i=Af:=fun q=>by
         have:=(Td u i).1 (Dd.1 f);grind
        rw[Ag C,List.append_nil]at o;refine(O 6)<|Lb ((i+1),k) ?_;dsimp only;rw[o];exact⟨t,n,B,N⟩
      .obtain rfl:i=16:=X;refine(O 4∘Zc (NS wr.heap.size A _ k n)) ?_;rintro _ _⟨rfl,rfl⟩;refine(O 1∘Zc (MS wr.heap.size A _ k n)) ?_;rintro _ _⟨rfl,rfl⟩;refine(O 1∘Zs B) ?_;rintro w7 a1 a5;refine(O 2) ?_;have hz:=L.size;have a9:=x1.size;have x7:Be w w7:=Bp (x1.trans N) a5 (x1.trans N).size Bv;refine(Dx a1) ?_;exact⟨Z,x7⟩
end
namespace Bz
abbrev VH(l:By):Prop:=l.Pairwise fun a b=>a.toNat<b.toNat
def Adr(l:Bs){i:Y}(hi:i<16):VH (NG l i)/\∀b∈NG l i,16*i<=b.toNat/\b.toNat<16*(i+1):=by
 refine⟨?_,fun b a=>?_⟩
 .refine LW.2 (HK.imp_of_mem ?_ (HK.filter _ WU));simp;omega
 .obtain⟨k,d,rfl⟩:=Cr.1 a;simp_all;omega
def bE{s:By}{all:Bs}:∀(n a p:Y) (acc u:By) (q:Y),p<=8*Alz s->VH acc->(∀b∈acc,b.toNat<16*a)->a+n<=16->II s all (Hh a n) p acc=J (u,q)->VH u/\q<=8*Alz s
 |0,a,p,acc,u,q,hp,hr,hl,ha,h=>by
  simp[List.range'_zero,II,Qf.injEq,Prod.mk.injEq]at h;grind
 |n+1,a,p,acc,u,q,hp,hr,hl,ha,h=>by
  rw[WV,II]at h;split at h
  .exact bE n _ p _ u q hp hr Bf X h
  .split at h
   .grind
   .obtain⟨r1,r2⟩:=Adr (BT s p 16) (show a<16 by omega);refine bE n _ _ _ u q X ?_ (fun b hb=>?_) X h
    .grind
    .grind
def mP:∀(l:By) (k:Y),VH l->(∀b∈l,k<=b.toNat)->k<=256->Alz l+k<=256
 |[],k,_,_,h=>by grind
 |a::l,k,hr,hk,h=>by
  have h2:=a.toNat_lt;obtain⟨r1,r2⟩:=Iq.1 hr;have:=mP l (a.toNat+1) r2 (fun b hb=>r1 b hb) X;grind
def Ahw{s u:By}{p q:Y}(h:KO s p=J (u,q)):OZ u/\Alz u<=256/\q<=8*Alz s:=by
 unfold KO at h;split at h
 .cases h
 .rename_i j;split at h
  .cases h
  .rename_i e g i;split at h
   .cases h
   .rename_i a;injection h with h;injection h with e1 e2;subst e1 e2;obtain⟨d,f⟩:=bE 16 0 (p+16) [] e g X Bh Bh X i;have:=mP _ 0 d X Bh;exact⟨⟨a,d⟩,X,f⟩
def lz{l:Bs}{i:Y}(h:i<Alz l):num l/2 ^ (Alz l-1-i)%2=(l.getD i Ai).toNat:=by
 have a:(num l).testBit (Alz l-1-i)=l.getD i Ai:=by
  rw[QM,Cd,Cd,TR X,show Alz l-1-(Alz l-1-i)=i by omega]
 grind
def LH(l:Bs)(i n:Y):By:=((BE n).filter fun k=>l.getD k Ai).map fun k=>BV (16*i+k)
def mX(l:Bs)(i n:Y):LH l i (n+1)=if l.getD n Ai=Af then LH l i n++[BV (16*i+n)]else LH l i n:=by
 unfold LH;rw[FT,Le,DW];grind
def mV(l:Bs)(i:Y):∀n,Alz (LH l i n)<=n
 |0=>Bq _
 |n+1=>by
  have:=mV l i n;rw[mX];grind
end Bz
section
attribute [local irreducible] EX
open Bz
def LG(s:Bg)(p n:Y):∃v e q,HZ s p n=(v,e,q)/\((8*Alz s<p+n/\v=0/\e=10/\q=p)∨(p+n<=8*Alz s/\v=num (BT s p n)/\e=0/\q=p+n)):=by
 rcases CM (8*Alz s) (p+n)with h|h
 .exact⟨0,10,p,Aj h,.inl ⟨h,Z,Z,Z⟩⟩
 .exact⟨_,0,p+n,Ag X,.inr ⟨h,Z,Z,Z⟩⟩
def Ky(s:Bg)(p n:Y):num (BT s p n)<2 ^ n:=by
 have:=Pe (BT s p n);rwa[Sg]at this
def Agy(s:Bg)(p:Y)(hp:p<=8*Alz s)(hs:Alz s<=1000000000)(w:Ad):
 Bm eD 160 [str s,Bb (p:H)] w fun v w'=>((∃u q,KO s p=J (u,q)/\v=.tuple #[str u,Bb (q:H),Bb ((0:Y):H)])∨(KO s p=Aa/\∃e:Y,ER e/\v=.tuple #[str [],Bb ((0:Y):H),Bb (e:H)]))/\Be w w':=by
 obtain⟨v0,e0,q0,a4,ao⟩:=LG s p 16;refine Bw func160 Z ntmps160 Bi Z ?_;refine(O 10∘Zc (Pc s p hp X w)) ?_;rintro _ w1⟨C,rfl,n,V⟩;refine(O 13) ?_;have c1:=LJ w.heap.size C s p 16 Bc hp X w1 n;rw[a4]at c1;refine(Zc c1) ?_;rintro _ w2⟨rfl,ai,t2⟩;refine(O 12) ?_;have x2:Be w w2:=t2.below V V.size (Bq _);refine Zi (fun he=>?_) fun he=>?_
 .rcases ao with⟨h,rfl,rfl,rfl⟩|⟨h,rfl,rfl,rfl⟩
  .refine(O 7∘Cy) ?_;refine⟨.inr ⟨Aj h,10,⟨Bc,Bc⟩,Z⟩,x2⟩
  .exact AH Z he
 .rcases ao with⟨h,rfl,rfl,rfl⟩|⟨h,rfl,rfl,rfl⟩
  .exact AH (show(10:Y)≠0 by decide) he
  .have E:KO s p=match II s (BT s p 16) (BE 16) (p+16) []with
    |none=>Aa
    |some (u,q)=>if u=[]then Aa else J (u,q):=Ag X
   have bb:=Ky s p 16;have A:=Sg s p 16;generalize BT s p 16=all at E bb A;generalize W:II s all (BE 16) (p+16) []=T at E;rw[RS]at W;refine(O 3) ?_;refine Ks 0 Z Z im CE Z Z Z Z (by rfl) Bc ?_;rintro ob w3 bd ba S;refine(O 8) ?_;have bi:=x2.size;refine Lo (fun((i,q,a,N,wr):Y×Y×(Bg)×Ah×Ad)=>(i<=16/\q<=8*Alz s/\Alz a<=16*i/\II s all (Hh i (16-i)) q a=T/\Bn wr w.heap.size 5 1 N (Alz a) (BI a)/\RdAt wr w.heap.size C s q/\Be w wr,[(0,str (s)),(7,.pointer (J ⟨C,0,Aa⟩)),(8,.int .u64 (((num all):Y):H)),(10,N),(29,Bb i)],wr,16-i)) (0,(p+16),([]),(.slice (J ⟨ob,0,Aa⟩) 0 0),w3) ?_ ?_
   .exact⟨BC _,h,BC _,W,Bn.Akk (l:=[]) ba X Z Bc,ai.a S,x2.trans S⟩
   .rintro⟨i,q,a,N,wr⟩⟨hi,hq,bf,o,y,n,hx⟩;refine(O 5)<|Zi (fun hc=>?_) fun hc=>?_
    .rw[show 16-i=(16-(i+1))+1 by omega,WV,II]at o;have I:=lz (l:=all) (i:=i) X;rw[A,show 16-1-i=15-i by omega]at I;have bl:=On (num all) (2 ^ (15-i));refine(O 15∘Zv (by exact PO Z Z (by show _<=64;omega))∘Zv (by exact MU (b:=1) (j:=1) (p:=2) (m:=18446744073709551615) Z Z Bc Bc Z X)∘O 2)<|Zi (fun x=>?_) fun x=>?_
     .rw[I]at x
      have K:all.getD i Ai=Ai:=by
       cases hb:all.getD i Ai
       .rfl
       .grind
      rw[Aj K]at o;refine(O 5)<|Lb ((i+1),q,a,N,wr) ?_;grind
     .rw[I]at x;have K:¬all.getD i Ai=Ai:=fun q=>x (by rw[q];rfl);rw[Ag K]at o;obtain⟨v1,e1,q1,a3,al⟩:=LG s q 16;have c1:=LJ w.heap.size C s q 16 Bc hq X wr n;rw[a3]at c1;refine(O 4∘Zc c1) ?_;rintro _ w4⟨rfl,af,t4⟩;refine(O 12) ?_;have x4:Be w w4:=t4.below hx hx.size (Bq _);have Q:=t4.y y Z;refine Zi (fun L=>?_) fun L=>?_
      .rcases al with⟨h1,rfl,rfl,rfl⟩|⟨h1,rfl,rfl,rfl⟩
       .rw[Aj h1]at o;refine(O 7∘Cy) ?_;refine⟨.inr ⟨Bf,10,⟨Bc,Bc⟩,Z⟩,x4⟩
       .exact AH Z L
      .rcases al with⟨h1,rfl,rfl,rfl⟩|⟨h1,rfl,rfl,rfl⟩
       .exact AH (show(10:Y)≠0 by decide) L
       .rw[Ag X]at o;have a2:=Ky s q 16;have ab:=Sg s q 16;generalize BT s q 16=row at o a2 ab;refine(O 6)<|Lo (fun((k,P,B):Y×Ah×Ad)=>(k<=16/\Bn B w.heap.size 5 1 P (Alz (a++LH row i k)) (BI (a++LH row i k))/\RdAt B w.heap.size C s (q+16)/\Be w B,[(0,str (s)),(7,.pointer (J ⟨C,0,Aa⟩)),(8,.int .u64 (((num all):Y):H)),(10,P),(11,Bb i),(12,.int .u64 (((num row):Y):H)),(29,Bb i),(47,Bb k)],B,16-k)) (0,N,w4) ?_ ?_
        .exact⟨BC _,by simpa[LH]using Q,af,x4⟩
        .rintro⟨k,P,B⟩⟨hk,d,f,D⟩;have bh:=mV row i k;refine(O 5)<|Zi (fun a7=>?_) fun a7=>?_
         .have g:=mX row i k;have G:=lz (l:=row) (i:=k) X;rw[ab,show 16-1-k=15-k by omega]at G;have bj:=On (num row) (2 ^ (15-k));have a8:=Bz.toNat_ofNat (show 16*i+k<256 by omega);have a9:((16*i+k:Y):H)=((BV (16*i+k)).toNat:H):=AF Om a8.symm;refine(O 14∘Zv (by exact PO Z Z (by show _<=64;omega))∘Zv (by exact MU (b:=1) (j:=1) (p:=2) (m:=18446744073709551615) Z Z Bc Bc Z X)∘O 2)<|Zi (fun r=>?_) fun r=>?_
          .rw[G]at r
           have K:row.getD k Ai=Af:=by
            cases hb:row.getD k Ai
            .grind
            .rfl
           rw[Aj K]at g;have a5:Alz (a++LH row i k)<=256:=by rw[Bx];omega
           refine(O 7∘Hk D d) ?_;rintro _ v5 w5 t a0 a6 _;refine(O 7)<|Lb ((k+1),v5,w5) ?_;rw[a9,<-Qo]at t;dsimp only;rw[g,<-Cq,Bx (bs:=[BV (16*i+k)])];exact⟨X,t,f.tm (Tm.grown d a6) Z Z,a0⟩
          .rw[G]at r;have K:¬row.getD k Ai=Af:=fun q=>r (by rw[q];rfl);rw[Ag K]at g;refine(O 6)<|Lb ((k+1),P,B) ?_;dsimp only;rw[g];exact⟨X,d,f,D⟩
         .obtain rfl:k=16:=X;refine(O 6)<|Lb ((i+1),(q+16),(a++LH row i 16),P,B) ?_;exact⟨X,h1,by rw[Bx];omega,o,d,f,D⟩
    .obtain rfl:i=16:=X;rw[EY,List.range'_zero,II]at o;rw[<-o]at E;obtain⟨A0,c0,rfl,_,a1⟩:=y.slice;refine(O 8)<|Zi (fun x=>?_) fun x=>?_
     .have aj:a=[]:=Im x;refine(O 6∘Cy) ?_;exact⟨.inr ⟨Bf,60,⟨Bc,Bc⟩,Z⟩,hx⟩
     .have aj:a≠[]:=fun q=>x (by rw[q];rfl);refine(O 2∘Yr 7 (fun w'=>Be wr w') (Be.drew wr)) fun hS=>(Gv [0]∘Yw 1 (he:=by exact fun _ bc=>DR (a1.a bc))∘Gv [2]∘Yc 3 (SU w.heap.size C s q wr.drew (n.a (Be.drew wr)))) ?_;rintro _ _⟨rfl,rfl⟩;refine⟨hS,fun hS=>?_⟩;refine(Gv [4,5,6]∘Yd∘Cy) ?_;exact⟨.inl ⟨a,q,Bf,Z⟩,hx.trans (Be.drew wr)⟩
def kI(l:Bj)(h0:0<Alz l)(n:Alz l<=1000000000)(A:Av AB)(c C:Y)(w:Ad)(j:Sl w C A (BD .i64 l)):
 Bm eD 286 [.slice A (Alz l) c] w fun v w'=>(∃m:Y,m∈l/\(∀x∈l,x<=m)/\v=Bb (m:H))/\w=w':=by
 obtain⟨b,f,rfl,_,d⟩:=j.Q h0;refine Bw func286 Z ntmps286 (by rfl) Z ?_;refine(O 11)<|Zi (fun h=>?_) fun h=>?_
 .omega
 .refine(O 5∘Zv (BR (d w (Be.refl _) 0 h0))∘O 8)<|Lo (fun((i,m):Y×Y)=>((1<=i/\i<=Alz l/\m∈l/\∀x∈l.take i,x<=m),[(0,.slice (J ⟨b,f,Aa⟩) (Alz l) c),(3,Bb m),(4,Bb i)],w,Alz l-i)) (1,(l[0])) ?_ ?_
  .refine⟨Bq _,h0,BL _,fun x g=>?_⟩;cases l with
   |nil=>grind
   |cons a r=>
    grind
  .rintro⟨i,m⟩⟨q,p,o,k⟩;refine(O 8)<|Zi (fun e=>?_) fun e=>?_
   .refine(O 8∘Zv (BR (d w (Be.refl _) i e))∘O 9)<|Lb ((i+1),(max m l[i])) ?_;refine⟨X,e,?_,fun x g=>?_⟩
    .grind
    .rw[<-CX e,CW,Cp]at g;grind
   .obtain rfl:i=Alz l:=X;rw[DY]at k;refine(O 6∘Bu) ?_;grind
def min_s(l:Bj)(h0:0<Alz l)(h:Alz l<=1000000000)(A:Av AB)(c C:Y)(w:Ad)(g:Sl w C A (BD .i64 l)):
 Bm eD 302 [.slice A (Alz l) c] w fun v w'=>(∃m:Y,v=Bb (m:H))/\w=w':=by
 obtain⟨b,f,rfl,_,a⟩:=g.Q h0;refine Bw func302 Z ntmps302 (by rfl) Z ?_;refine(O 11)<|Zi (fun e=>?_) fun e=>?_
 .omega
 .refine(O 5∘Zv (BR (a w (Be.refl _) 0 h0))∘O 8)<|Lo (fun((i,m):Y×Y)=>(1<=i/\i<=Alz l,[(0,.slice (J ⟨b,f,Aa⟩) (Alz l) c),(3,Bb m),(4,Bb i)],w,Alz l-i)) (1,(l[0])) ?_ ?_
  .omega
  .rintro⟨i,m⟩⟨k,j⟩;refine(O 8)<|Zi (fun d=>?_) fun d=>?_
   .refine(O 8∘Zv (BR (a w (Be.refl _) i d))∘O 9)<|Lb ((i+1),(min m l[i])) ?_;omega
   .refine(O 6∘Bu) ?_;grind
def kq(l:Bj)(h2:2<=Alz l/\Alz l<=258)(a:∀x∈l,x<=1073741824)(A:Av AB)(c C:Y)(w:Ad)(d:Sl w C A (BD .i64 l)):
 Bm eD 283 [.slice A (Alz l) c] w fun v w'=>v=.bool Af/\w=w':=by
 obtain⟨h2,i⟩:=h2;refine Bw func283 Z ntmps283 (by rfl) Z ?_;refine(O 10)<|Zd 6 (fun h=>?_) fun h=>?_
 .refine(O 5)<|Zd 11 (fun g=>?_) fun g=>?_
  .refine(O 1∘Zc (min_s l X X A c C w d)) ?_;rintro _ _⟨⟨m,rfl⟩,rfl⟩;refine(O 3)<|Zd 16 (fun f=>?_) fun f=>?_
   .refine(O 1∘Zc (kI l X X A c C w d)) ?_;rintro _ _⟨⟨M,e,_,rfl⟩,rfl⟩;have e:=a M e;refine(O 4∘Bu) ?_;grind
   .omega
  .omega
 .omega
def Ji(l:Bj):Y:=CS (l.map fun x=>2 ^ (20-x))
def Adg(l:Bj)(x:Y):Ji (l++[x])=Ji l+2 ^ (20-x):=by
 unfold Ji;rw[DW,To,Cm,Em,Gh];rfl
def mQ(l:Bj):Ji l<=Alz l*1048576:=by
 unfold Ji
 have:=VS (l:=l.map fun x=>2 ^ (20-x)) (m:=1048576) (fun x a=>by
  obtain⟨y,_,rfl⟩:=Cr.1 a;exact Gb (n:=2) Bh (show 20-y<=20 by omega))
 grind
open Classical in
noncomputable def HF(l:Bj):Y:=if 2<=Alz l/\Alz l<=258/\∀x∈l,1<=x/\x<=20 then Ji l else 0
def yD(l:Bj)(N:Alz l<=1000000000)(q:∀x∈l,x<=1000000000)(A:Av AB)(c C:Y)(w:Ad)(E:Sl w C A (BD .i64 l)):
 Bm eD 250 [.slice A (Alz l) c] w fun v w'=>v=Bb ((HF l:Y):H)/\w=w':=by
 refine Bw func250 Z ntmps250 (by rfl) Z ?_;refine(O 6)<|Lc (fun(y:Ar)=>(y=decide (Alz l<2∨258<Alz l),[(0,.slice A (Alz l) c),(13,.bool y)],w)) ?_ ?_
 .refine(O 5)<|Zd 9 (fun k=>?_) fun k=>?_
  .refine(O 5∘Lm Af) ?_;exact(AM (.inl k)).symm
  .refine(O 5∘Lm (decide (Alz l>258))) ?_;grind
 .rintro y rfl;refine Zi (fun L=>?_) fun L=>?_
  .have e:HF l=0:=Ag X;refine(O 4∘Bu) ?_;grind
  .refine(O 13)<|Lo (fun(i:Y)=>((i<=Alz l/\∀x∈l.take i,1<=x/\x<=20),[(0,.slice A (Alz l) c),(3,Bb (((Ji (l.take i)):Y):H)),(14,.slice A (Alz l) c),(15,Bb ((Alz l:Y):H)),(16,Bb i)],w,Alz l-i)) 0 ?_ ?_
   .simp
   .rintro i⟨P,g⟩;refine(O 5)<|Zi (fun j=>?_) fun j=>?_
    .obtain⟨b,f,rfl,_,r⟩:=E.Q X;have o:=q _ (BL j);have d:=r w (Be.refl _) i j;have p:l.take (i+1)=l.take i++[l[i]]:=(CX j).symm;have h:l[i]∈l:=BL j;generalize l[i]=x at o d p h;refine(O 6∘Zv (BR d)∘O 4)<|Lc (fun(t:Ar)=>(t=decide (x<1∨20<x),[(0,.slice (J ⟨b,f,Aa⟩) (Alz l) c),(3,Bb (((Ji (l.take i)):Y):H)),(5,Bb x),(14,.slice (J ⟨b,f,Aa⟩) (Alz l) c),(15,Bb ((Alz l:Y):H)),(16,Bb i),(25,.bool t)],w)) ?_ ?_
     .refine(O 4)<|Zd 22 (fun k=>?_) fun k=>?_
      .refine(O 4∘Lm Af) ?_;exact(AM (.inl k)).symm
      .refine(O 4∘Lm (decide (x>20))) ?_;grind
     .rintro t rfl;refine Zi (fun K=>?_) fun K=>?_
      .have e:HF l=0:=Ag Bf;refine(O 4∘Bu) ?_;grind
      .have I:=mQ (l.take i);have D:Alz (l.take i)<=258:=by rw[BW];omega
       have G:=Adg (l.take i) x;have B:(2:Y) ^ (20-x)<=1048576:=Gb (n:=2) Bc (show 20-x<=20 by omega);refine(O 5∘Zv (by exact NZ (a:=1) (m:=9223372036854775807) Z Z (by show _<=64;omega) Z X)∘O 8∘Ct 3 (Bb (((Ji (l.take (i+1))):Y):H)) (e:=by grind))<|Lb (i+1) ?_;grind
    .obtain rfl:i=Alz l:=X;rw[DY]at g;have e:HF l=Ji l:=Aj ⟨X,X,g⟩;refine(O 6∘Bu) ?_;grind
def Ahe{l:Bj}(h2:2<=Alz l)(e:Alz l<=258):(HF l=0∨1048576<HF l)↔¬LOk l:=by
 unfold HF;constructor
 .intro h q;rw[Aj ⟨h2,e,q.pos⟩]at h;have f:Ji l<=1048576:=q.kraft;rcases h with h|h
  .cases l with
   |nil=>grind
   |cons a r=>
    have:Ji (a::r)=2 ^ (20-a)+Ji r:=rfl;grind
  .omega
 .intro h;by_cases d:∀x∈l,1<=x/\x<=20
  .rw[Aj ⟨h2,e,d⟩];right;exact Nat.lt_of_not_le fun q=>h ⟨d,q⟩
  .grind
def Ahd{l:Bj}(h:¬(2<=Alz l/\Alz l<=258)):HF l=0:=Ag fun q=>h ⟨q.1,q.2.1⟩
open Classical in
noncomputable def GJ(l:Bj):Y:=if 2<=Alz l/\Alz l<=258/\LOk l then 0 else 80
def ZA(l:Bj)(i:Alz l<=1000000000)(a:∀x∈l,x<=1000000000)(A:Av AB)(c C:Y)(w:Ad)(g:Sl w C A (BD .i64 l)):
 Bm eD 203 [.slice A (Alz l) c] w fun v w'=>v=Bb ((GJ l:Y):H)/\w=w':=by
 have f:(HF l=0∨1048576<HF l)↔¬(2<=Alz l/\Alz l<=258/\LOk l):=by
  by_cases h:2<=Alz l/\Alz l<=258
  .rw[Ahe h.1 h.2];grind
  .exact⟨fun _ z=>h ⟨z.1,z.2.1⟩,fun _=>.inl (Ahd h)⟩
 have j:HF l<=1000000000:=by
  unfold HF;split
  .rename_i h;have:=mQ l;omega
  .omega
 refine Bw func203 Z ntmps203 (by rfl) Z ?_;refine(O 8∘Zc (yD l i a A c C w g)) ?_;rintro _ _⟨rfl,rfl⟩;refine(O 3)<|Lc (fun(d:Ar)=>(d=decide (HF l=0∨1048576<HF l),[(3,Bb (((HF l):Y):H)),(11,.bool d)],w)) ?_ ?_
 .refine(O 4)<|Zd 8 (fun k=>?_) fun k=>?_
  .refine(O 4∘Lm Af) ?_;grind
  .refine(O 4∘Lm (decide (HF l>1048576))) ?_;grind
 .rintro d rfl;refine Zi (fun h=>?_) fun h=>?_
  .have e:GJ l=80:=Ag (f.1 h);refine(O 4∘Bu) ?_;rw[e];exact⟨Z,Z⟩
  .have e:GJ l=0:=Aj (Dd.1 fun q=>h (f.2 q));refine(O 5∘Bu) ?_;rw[e];exact⟨Z,Z⟩
def tA(l:Bj)(h0:0<Alz l)(hl:Alz l<=1000000000)(A:Av AB)(c C:Y)(w:Ad)(h:Sl w C A (BD .i64 l)):
 Bm eD 284 [.slice A (Alz l) c] w fun v w'=>CT w' w.heap.size v l/\Be w w':=by
 obtain⟨b,f,rfl,_,j⟩:=h.Q h0;refine Bw func284 Z ntmps284 (by rfl) Z ?_;refine(O 14) ?_;refine Ks 0 Z Z hU BZ Z Z Z Z (by rfl) Bc ?_;rintro n k e i g;refine(O 1) ?_;refine HM Z Z hU BZ Z Bc Z Z (g) (Bn.Akk (l:=[]) i e Z Bc) (Src.Akm hU (h.a g) (by rw[DO,IX]) Ly Bc) CB X ?_;rintro m w' a d _ _;refine(O 2∘Bu) ?_;rw[EE]at a;exact⟨a,d⟩
end
section
open Go.Shelf
def Gr(w w':Ad):Prop:=Be w w'/\w.drawn<=w'.drawn
def Gr.refl(w:Ad):Gr w w:=⟨Be.refl w,X⟩
def Gr.trans{a b c:Ad}(h:Gr a b)(k:Gr b c):Gr a c:=⟨h.1.trans k.1,BA h.2 k.2⟩
def Gr.drewN(w:Ad)(m:Y):Gr w (w.drewN m):=⟨Be.drewN w m,by show w.drawn<=w.drawn+m;omega⟩
def Gr.alloc(w:Ad)(o:Obj):Gr w (w.alloc o):=⟨Be.alloc w o,Bq _⟩
def Gr.grow{w w':Ad}(h:Gr w w'):∃q os,w'=Go.Sort.grow (w.drewN q) os:=by
 obtain⟨⟨A,y,x,v,t⟩,r⟩:=h;obtain⟨d,l,g,os,n⟩:=w;obtain⟨a,j,f,o,m⟩:=w';refine⟨f-g,a.extract d.size a.size,?_⟩
 have e:d++a.extract d.size a.size=a:=by
  apply Array.ext_getElem?;intro i;by_cases p:i<d.size
  .grind
  .grind
 unfold Go.Sort.grow World.drewN;simp_all
def KE{α:Type}{cells:α->Bl}{k:Y}(hk:∀x,Alz (cells x)=k):∀l:Ae α,Alz (l.flatMap cells)=Alz l*k
 |[]=>by simp
 |x::l=>by
  have ih:=KE hk l;grind
section
variable{α:Type}[Inhabited α]{cells:α->Bl}{k:Y}
def je(hk:∀x,Alz (cells x)=k)(a:0<k)(l:Ae α):(Go.Sort.flatK cells k l.toArray).toList=l.flatMap cells:=by
 have e:=KE hk l;apply He;intro t;by_cases d:t<Alz l*k
 .have f:t/k<Alz l:=by rwa[Nat.div_lt_iff_lt_mul a]
  have m:t%k<k:=Qa _ a;have j:t/k*k+t%k=t:=by rw[Qb];exact Nat.div_add_mod t k
  have i:=SD hk l (t/k) (t%k) f _ (BQ (by rwa[hk]));have g:t<(Go.Sort.flatK cells k l.toArray).size:=by simpa using d
  have h:=Go.Sort.get_flatK cells k l.toArray t (by simpa using d);grind
 .simp_all
def Abv(F:Ap Ah)(xs rest:Bl)(h:Alz xs=F.size):Go.Sort.putCells id 0 F (xs++rest).toArray=(F.toList++rest).toArray:=by
 apply Array.ext_getElem?;intro i;simp only[Go.Sort.putCells,Array.getElem?_mapIdx];grind
def nY(w:Ad)(g n:Y)(d:Ap α)(os:Ap Obj):Mo w (sortWorldK cells k w g 0 n d os) [g]:=by
 refine⟨Z,Z,Z,?_,fun j e a=>?_⟩
 .simp[sortWorldK,Go.Sort.putRowK,Go.Sort.mapBlock]
 .simp[sortWorldK,Go.Sort.grow,Go.Sort.putRowK,Go.Sort.putRow,Go.Sort.mapBlock,Go.Sort.ahead];grind
def Agk{w:Ad}{g n:Y}{T:Aw}{l:Ae α}{d:Ap α}{os:Ap Obj}{rest:Bl}(hk:∀x,Alz (cells x)=k)(a:0<k)(f:Bk w g T (l.flatMap cells++rest))(e:d.size=Alz l):
 Bk (sortWorldK cells k w g 0 n d os) g T (d.toList.flatMap cells++rest):=by
 obtain⟨j,i,m⟩:=f
 have h:=by
  have:=je hk a d.toList;simpa using this
 refine⟨j,?_,?_⟩
 .simp[sortWorldK,Go.Sort.grow,Go.Sort.putRowK,Go.Sort.putRow,Go.Sort.mapBlock,Go.Sort.ahead];rw[Array.getElem?_append_left Bf,Wo,Aj Z,i];simp only[FU,Go.Sort.onCells];rw[Abv _ _ _ (by rw[KE hk,Go.Sort.size_flatK,e]),h]
 .have p:=KE hk l;have o:=KE hk d.toList;grind
def VQ {P:AC} {ρ:Ren} (L:SlLaysF0.n6 P ρ) {f:Y} (a1:ρ.f 6=f) {fn:Func} (hf:P.funcs[f]? =J fn) (hn:(!(fn.name== "runtime.NumGoroutine") && fn.body.isSome)=Af) {e:Aw} (he:ρ.t 24=e) {bs:Y} {z:Ah} {d:TypeDesc} (hu:P.underlying e=J d) (a0:flat d=Ai) (hi:TI P e z k bs) (K:0<k)
 (hk:∀x,Alz (cells x)=k) (h1:∀x,∀v∈cells x,v.oneCell'=Af) (T:α->α->H) (hO:Go.Sort.SWO (fun a b=>decide (T a b<0)))
 {g:Y} {gf:Func} (hg:P.funcs[g]? =J gf) (ao:(!(gf.name== "runtime.NumGoroutine") && gf.body.isSome)=Af) (B:Y) (l:Ae α) (hl:Alz l<=1000000000) (v:Ah) (w:Ad) (C:Bn w B e k v (Alz l) (l.flatMap cells))
 (hc:∀W x y,Mo w W v.ownBlock.toList->Bm P g [.agg (cells x).toArray,.agg (cells y).toArray] W fun r W'=>r=.int .i64 (T x y)/\Gr W W'):
 Bm P f [v,.func (.func g) #[] #[]] w fun r w'=>r=.tuple #[]/\∃l':Ae α,l'.Perm l/\(∀i j (hi:i<Alz l') (hj:j<Alz l'),i<j->¬T l'[j] l'[i]<0)/\Bn w' B e k v (Alz l) (l'.flatMap cells)/\Mo w w' v.ownBlock.toList:=by
 subst a1 he;by_cases ai:l=[]
 .subst ai
  obtain⟨p,o,hv⟩:∃p o,v=.slice p 0 o:=by
   rcases C.2 with⟨rfl,_⟩|⟨q,o,_,rfl,_⟩
   .simp
   .simp
  have h:=AnyF.slices_SortFunc_none X p o (.func (.func g) #[] #[]) w
  have hR:Bm P (ρ.f 6) [v,.func (.func g) #[] #[]] w fun r w'=>r=.tuple #[]/\w'=w:=by
   subst hv;exact Hj hf hn X
  refine hR.mono ?_;rintro r w'⟨rfl,rfl⟩;exact⟨Z,_,Bh,Bh,C,Mo.refl _ _⟩
 .have a7:0<Alz l:=Bf;have D:=KE hk l;obtain⟨b,o,rest,rfl,hB,V,hr,ab,a2⟩:=C.blk (by simp_all);have af:=V.lt
  have hH:Go.Sort.HoldsK cells k w b 0 l.toArray:=by
   intro j hj;rw[Go.Sort.size_flatK]at hj;have N:=by simpa using hj
   have hF:=je hk K l;have hs:j<(Go.Sort.flatK cells k l.toArray).size:=by rwa[Go.Sort.size_flatK]
   have Q:(Go.Sort.flatK cells k l.toArray)[j]! =(l.flatMap _)[j]'(D▸N):=by
    rw[getElem!_pos];have:(Go.Sort.flatK _ k _).toList[j]'X=(l.flatMap _)[j]'(D▸N):=by simp[hF]
    simpa using this
   rw[Q,EE];refine⟨V.I ?_,V.free j Bf⟩;rw[FR X,BQ];rfl
  have a3:CmpLays P g #[] cells k T b 0 l.toArray.size w:=fun m E dk a8 x y=>by
   have h2:=(hc _ x y (by simpa[Pi]using nY (cells:=cells) (k:=k) w b m dk E)).2;refine h2.mono fun e w' q=>?_;obtain⟨v,rfl,rfl,al⟩:=q;obtain⟨q,a6,e2⟩:=al.grow;grind
  have h:=AnyQ.slices_SortFunc L k (fun w=>by rw[Jl hu,a0];rfl) (fun w=>Fc hi) _ hk h1 _ hO g _ b 0 o _ w (fun a5 w=>Pt hg ao _) a3 hH af Bf;have I:l.toArray.size=Alz l:=Bh
  have hR:Bm P (ρ.f 6) [.slice (J ⟨b,0,Aa⟩) (Alz l) o,.func (.func g) #[] #[]] w fun r w'=>r=.tuple #[]/\∃A n E,Go.Sort.PermIn 0 (Alz l) l.toArray A/\Go.Sort.SortedIn (ltOf T) 0 (Alz l) A/\w'=sortWorldK cells k w b 0 n A E:=
   Hj hf hn (h.mono fun _ _ q=>q)
  refine hR.mono ?_;rintro r w'⟨rfl,A,n,E,hp,hs,rfl⟩;have hd:A.size=Alz l:=by rw[hp.1,I]
  have G:A.toList.Perm l:=by
   have S:=hp.2.2;have e1:A.extract 0 (Alz l)=A:=by rw[<-hd];exact Array.extract_size
   have e2:l.toArray.extract 0 (Alz l)=l.toArray:=by rw[<-I];exact Array.extract_size
   rw[e1,e2]at S;simpa using S
  have a4:=Agk (n:=n) (os:=E) hk K V hd;refine⟨Z,A.toList,G,fun i j hi hj aj=>?_,⟨Bf,.inr ⟨b,o,rest,Z,hB,a4,?_,ab,a2⟩⟩,by simpa[Pi]using nY (cells:=cells) (k:=k) w b n A E⟩
  .have S:=hs i j (BC _) aj Bf;rw[getElem!_pos A j (by simpa using hj),getElem!_pos A i X]at S;simpa[ltOf]using S
  .grind
end
end
section
attribute [local irreducible] EX
open Bz
abbrev Me:=H×H
def FF(t:Me):Bl:=[Bb t.1,Bb t.2]
def Ja(a b:Me):H:=if a.1≠b.1 then a.1-b.1 else a.2-b.2
def pc(a b:Me):([decide (a.1=b.1),decide (a.2=b.2)].all id)=decide (a=b):=by
 grind
def Ln(t:Me):Prop:=-4000000000000<=t.1/\t.1<=4000000000000/\0<=t.2/\t.2<=4000000000000
def ei(x y:Me)(hx:Ln x)(q:Ln y)(W:Ad):Bm eD 288 [.agg (FF x).toArray,.agg (FF y).toArray] W fun r W'=>r=Bb (Ja x y)/\Gr W W':=by
 obtain⟨A,w,v,t⟩:=hx;obtain⟨p,o,n,m⟩:=q;refine Bw func288 Z ntmps288 Bi Z ?_;refine(O 2∘Zv (by exact EX.box (l:=FF x) Z Z)) ?_;have f:=Bk.new W 378 (FF x);have k:=Gr.alloc W (.cells (FF x).toArray 378);generalize C:W.alloc (.cells (FF x).toArray 378)=w1 at f k;refine(Zv (by exact EX.box (l:=FF y) Z Z)∘O 5) ?_;have d:=Bk.new w1 378 (FF y);have h:=Gr.alloc w1 (.cells (FF y).toArray 378);have a:=f.a h.1;generalize B:w1.alloc (.cells (FF y).toArray 378)=w2 at d h a;have j:=k.trans h;refine(Zv (BX a)∘Zv (BX d)∘Zv (by exact TD iH Bi Bi Z Z (.cons Bc io Z Z Z (KC io) (.cons Bc io Z Z Z (KC io) .nil)) Z)∘O 1∘Ct 7 (.bool (decide (x=y))) (e:=by exact AF Value.bool (pc x y)))<|Zi (fun i=>?_) fun i=>?_
 .subst i;have e:Ja x x=0:=by unfold Ja;rw[Ag Bh];omega
  refine(O 4∘Bu) ?_;grind
 .refine(O 10)<|Zi (fun g=>?_) fun g=>?_
  .have e:Ja x y=x.1-y.1:=Aj g;refine(O 9∘Bu) ?_;rw[e];exact⟨Z,j⟩
  .have e:Ja x y=x.2-y.2:=Ag g;refine(O 10∘Bu) ?_;rw[e];exact⟨Z,j⟩
def Ij(t:Tr):Me:=((t.1:H),(t.2:H))
def DT(t:Tr):Bl:=FF (Ij t)
def Ev(l:Ae Tr):Bl:=l.flatMap DT
def Aim{a b:Tr}(h:Ij a=Ij b):a=b:=by
 unfold Ij at h;grind
def PB(l:Ae Tr):Alz (Ev l)=Alz l*2:=KE (k:=2) (fun _=>rfl) l
def tK(a b:Tr):Ja (Ij a) (Ij b)<0↔Gz a b=Af:=by
 unfold Ja Gz Ij;grind
def bR{l:Ae Tr}{i:Y}(h:i<Alz l){j:Y}{u:Ah}(hu:(DT l[i])[j]? =J u):(Ev l)[i*2+j]? =J u:=SD (cells:=DT) (c:=2) (fun _=>rfl) l i j h u hu
def Sf(l:Ae Tr):Prop:=∀t∈l,t.1<=4000000000000/\t.2<=1000000
def pa{l:Ae Tr}(h:Sf l){t:Tr}(ht:t∈l):Ln (Ij t):=by
 have:=h t ht;unfold Ln Ij;omega
def yW{l:Ae Tr}{i:Y}(h0:0<i)(hi:i<Alz l):Fb (l.take (i+1))=if Gz l[i] (Fb (l.take i))then l[i]else Fb (l.take i):=by
 rw[<-CX hi];cases hq:l.take i with
 |nil=>
  have:=AF DQ hq;grind
 |cons a r=>
  simp only[Gi,Fb,PT,Lf,List.foldl_nil];rfl
def yX(l:Ae Tr)(h0:0<Alz l)(hn:Alz l<=1000000)(I:Sf l)(g c:Y)(rest:Bl)(w:Ad)(h:Bk w g 378 (Ev l++rest)):
 Bm eD 304 [.slice (J ⟨g,0,Aa⟩) (Alz l) c,.func (.func 288) #[] #[]] w fun v w'=>v=.agg (DT (Fb l)).toArray/\Be w w':=by
 have A:∀W,Be w W->∀i (hi:i<Alz l),∀j u,(DT l[i])[j]? =J u->W.cell? ⟨g,0+i*2+j,Aa⟩=J u:=fun W hW i hi j u hu=>by
  refine(h.a hW).I ?_;have:=bR hi hu;grind
 refine Bw func304 Z ntmps304 Bi Z ?_;refine(O 2∘Zn) ?_;rintro T w0 aj G o;refine(O 8)<|Zi (fun hz=>?_) fun hz=>?_
 .omega
 .refine(O 5∘Zv (Dj (DT l[0]) (A w0 o 0 h0))∘Zn) ?_;rintro B w1 ai af C;refine(Zs af (hlt:=Bq _)) ?_;rintro w2 N n;refine(O 7) ?_;replace N:Bk w2 B 378 (DT l[0]):=N;have x1:=o.trans C;have al:=o.size;have x2:Be w w2:=Bp x1 n x1.size Bv;have D:T≠B:=by have:=G.lt;omega
  have ab:=(G.a C).j n (by simpa using D);refine Lo (fun((i,wr):Y×Ad)=>(1<=i/\i<=Alz l/\Bk wr B 378 (DT (Fb (l.take i)))/\Bk wr T 378 [Bb 0,Bb 0]/\Be w wr,[(0,.slice (J ⟨g,0,Aa⟩) (Alz l) c),(1,.func (.func 288) #[] #[]),(4,.pointer (J ⟨T,0,Aa⟩)),(5,.pointer (J ⟨B,0,Aa⟩)),(6,Bb i)],wr,Alz l-i)) (1,w2) ?_ ?_
  .refine⟨Bq _,h0,?_,ab,x2⟩
   have e:Fb (l.take 1)=l[0]:=by
    cases l with
    |nil=>grind
    |cons a r=>rfl
   grind
  .rintro⟨i,wr⟩⟨h1,h2,Q,hr,V⟩;refine(O 8)<|Zi (fun y=>?_) fun y=>?_
   .have f:=yW h1 y
    have P:Fb (l.take i)∈l:=by
     refine Kn (ZK (l.take i) (fun e=>?_)).1;have:=AF DQ e;rw[BW,ET]at this;omega
    have o1:=pa I (BL y);have o2:=pa I P;have d:=tK l[i] (Fb (l.take i));generalize Fb (l.take i)=m at Q f o2 d;refine(O 4) ?_;refine Kk 6 Bi Bi<|HW.val Z Z (EX.move Z)<|HW.val Z Z (EX.move Z)<|HW.val Z Z (EX.move Z)<|HW.val Z Z (MT iA Js Z Z X)<|HW.val Z Z (KY (l:=DT l[i]) iH Z Js Z Z (A wr.drew (V.trans (Be.drew wr)) i y))<|HW.val Z Z (Ke iH Z Js Z (Q.drew) (Z))<|HW.tail<|(Ea (ei (Ij l[i]) (Ij m) o1 o2 wr.drew)) ?_;rintro _ w3⟨rfl,x⟩;refine(O 2) ?_;have S:=(V.trans (Be.drew wr)).trans x.1;have L:=Q.drew.a x.1;have E:=hr.drew.a x.1;refine Zi (fun hl=>?_) fun hl=>?_
    .rw[Aj (d.1 hl)]at f;refine(O 4∘Zv (Dj (DT l[i]) (A w3 S i y))∘Zs L (hlt:=Bq _)) ?_;rintro w4 t k;refine(O 7) ?_;replace t:Bk w4 B 378 (DT l[i]):=t;refine Lb ((i+1),w4) ?_;dsimp only;rw[f];exact⟨X,y,t,E.j k (by simpa using D),Bp S k S.size Bv⟩
    .rw[Ag (fun q=>hl (d.2 q))]at f;refine(O 7)<|Lb ((i+1),w3) ?_;dsimp only;rw[f];exact⟨X,y,L,E,S⟩
   .obtain rfl:i=Alz l:=X;rw[DY]at Q;refine(O 3∘Zv (BX Q)∘Zs hr (hlt:=Bq _)) ?_;rintro w5 p K;refine(O 1) ?_;replace p:Bk w5 T 378 (DT (Fb l)):=p;refine(Kv p) ?_;exact⟨Z,Bp V K V.size Bv⟩
def xY(l:Ae Tr)(t:Tr)(ht:t∈l)(E:Alz l<=1000000)(g c:Y)(rest:Bl)(w:Ad)(h:Bk w g 378 (Ev l++rest)):
 Bm eD 305 [.slice (J ⟨g,0,Aa⟩) (Alz l) c,.agg (DT t).toArray] w fun v w'=>v=Bb ((l.idxOf t:Y):H)/\Be w w':=by
 have n:∀W,Be w W->∀i (m:i<Alz l),∀j u,(DT l[i])[j]? =J u->W.cell? ⟨g,0+i*2+j,Aa⟩=J u:=fun W C i m j u B=>by
  refine(h.a C).I ?_;have:=bR m B;grind
 refine Bw func305 Z ntmps305 Bi Z ?_;refine(O 2) ?_;refine Dq Z Z Z ?_;rintro o x q A y;refine(O 10)<|Lo (fun((i,wr):Y×Ad)=>(i<=Alz l/\t∉l.take i/\Bk wr o 378 (DT t)/\Be w wr,[(0,.slice (J ⟨g,0,Aa⟩) (Alz l) c),(3,.pointer (J ⟨o,0,Aa⟩)),(6,.slice (J ⟨g,0,Aa⟩) (Alz l) c),(7,Bb ((Alz l:Y):H)),(8,Bb i)],wr,Alz l-i)) (0,x) ?_ ?_
 .grind
 .rintro⟨i,wr⟩⟨m,a,p,k⟩;refine(O 5)<|Zi (fun f=>?_) fun f=>?_
  .refine KW.skip (El (KW.block (El (KW.region ?_))));refine OW.val Z Z (EX.move Z) ?_;refine OW.val Z Z (HI Z) ?_;refine OW.nil ?_;refine El ?_;refine WI Bi Bi ?_;refine QW.val Z Z (fun _=>Ke iH Z Js Z (p.drewN _) (Z)) ?_;refine QW.val Z Z (fun _=>EX.move Z) ?_;refine QW.val Z Z (fun _=>EX.move Z) ?_;refine QW.val Z Z (fun _=>MT iA Js Z Z X) ?_;refine QW.val Z Z (fun _=>KY (l:=DT l[i]) iH Z Js Z Z (n _ (k.trans (Be.drewN wr _)) i f)) ?_;refine QW.val Z Z (fun _=>TD iH Bi Bi Z Z (.cons Bc io Z Z Z (KC io) (.cons Bc io Z Z Z (KC io) .nil)) Z) ?_;refine QW.nil (fun D=>?_);refine KW.as 16 (.bool (decide (Ij t=Ij l[i]))) Z (AF Value.bool (pc (Ij t) (Ij l[i]))) ?_;refine TK Z (fun r=>?_) (fun r=>?_)
   .have e:=Aim r
    have d:l.idxOf t=i:=by
     rw[show l=l.take i++l.drop i by simp,List.idxOf_append,Ag a,DD f,<-e,List.idxOf_cons_self,BW];omega
    refine(O 5∘Bu) ?_;rw[d];exact⟨Z,k.trans (Be.drewN _ _)⟩
   .refine(O 6)<|Lb ((i+1),_) ?_;refine⟨f,?_,p.drewN _,k.trans (Be.drewN _ _)⟩;rw[<-CX f,CW,Cp];grind
  .exfalso;grind
def Tu(a b:Ae Tr):Ev (a++b)=Ev a++Ev b:=IT ..
def Ain{l:Ae Tr}{k:Y}(t:Tr)(h:k<Alz l)(rest:Bl):(Ev l++rest).take (k*2)++DT t++(Ev l++rest).drop (k*2+Alz (DT t))=Ev (l.set k t)++rest:=by
 have a:l=l.take k++l[k]::l.drop (k+1):=by rw[List.getElem_cons_drop,Hx]
 have i:l.set k t=l.take k++t::l.drop (k+1):=by
  conv=>lhs;rw[a]
  rw[LX _ _ Bf,BW,Hi X,EY,IW]
 have e:Alz (Ev (l.take k))=k*2:=by rw[PB,BW,Hi X]
 have g:Ev l=Ev (l.take k)++(DT l[k]++Ev (l.drop (k+1))):=by
  conv=>lhs;rw[a,Tu]
  rfl
 have f:Ev (l.set k t)=Ev (l.take k)++(DT t++Ev (l.drop (k+1))):=by
  rw[i,Tu];rfl
 have d:Alz (DT t)=Alz (DT l[k]):=rfl;rw[g,f,d];generalize Ev (l.take k)=P at e;grind
def vG{l:Ae Tr}{k:Y}(h:k<Alz l):Ev (l.set k (l.getLastD default))=Ev (Bz.fillL l k)++DT ((l.set k (l.getLastD default)).getLastD default):=by
 unfold Bz.fillL
 have a:l.set k (l.getLastD default)≠[]:=fun e=>by
  simp_all
 generalize l.set k (l.getLastD default)=m at a ⊢
 conv=>lhs;rw[<-List.dropLast_concat_getLast a]
 rw[Tu];congr 1;rw[List.getLastD_eq_getLast?,List.getLast?_eq_some_getLast a];rfl
def jb(l:Ae Tr)(h0:0<Alz l)(hn:Alz l<=100000)(a6:Sf l)(A B:Y)(v:Ah)(w:Ad)(ht:Bk w A 376 [v])(T:Bn w B 378 2 v (Alz l) (Ev l)):
 Bm eD 303 [.pointer (J ⟨A,0,Aa⟩)] w fun r w'=>r=.agg (DT (Do l).1).toArray/\∃v',Bk w' A 376 [v']/\Bn w' B 378 2 v' (Alz (Do l).2) (Ev (Do l).2)/\Pi v'=Pi v/\Mo w w' (A::v.ownBlock.toList):=by
 obtain⟨g,a,rest,rfl,bf,hg,V,b1,bc⟩:=T.blk (by rw[PB];omega);have bb:A≠g:=ht.ne hg Bh;have E:=ZK l (fun e=>by grind);have hk:=PU E.1;have C:Do l=(Fb l,Bz.fillL l (l.idxOf (Fb l))):=rfl;have y:=Bz.fillL_length l (l.idxOf (Fb l));rw[PB]at V;refine Bw func303 Z ntmps303 Bi Z ?_;refine(O 2∘Zn) ?_;rintro N w0 bm Q p;refine(O 3∘Zv (Bo (ht.a p))∘Zc (yX l h0 X a6 g a rest w0 (hg.a p))) ?_;rintro _ w1⟨rfl,G⟩;refine(Zn) ?_;rintro mb w2 bl ba P;refine(Zs ba (hlt:=Bq _)) ?_;rintro w3 x D;refine(O 3) ?_;replace x:Bk w3 mb 378 (DT (Fb l)):=x;have x1:=p.trans G;have x2:=x1.trans P;have bn:=x1.size;have x3:Be w w3:=Bp x2 D x2.size Bf;have bs:N≠mb:=by have:=(Q.a G).lt;omega
 have a5:=((Q.a G).a P).j D Bf;have a0:=ht.a x3;have af:=hg.a x3;refine(O 1∘Zv (BX x)∘Zc (xY l (Fb l) E.1 X g a rest w3 af)) ?_;rintro _ w4⟨rfl,h⟩;refine(O 3) ?_;have K:l[l.idxOf (Fb l)]=Fb l:=List.getElem_idxOf hk;generalize b0:l.idxOf (Fb l)=k at hk C y K;have t:=a0.a h;have ab:=af.a h;have a9:=x.a h;have a4:=a5.a h;have x4:=x3.trans h;have n:Alz l-1<Alz l:=X
 have bd:l.getLastD default=l[Alz l-1]:=by
  rw[List.getLastD_eq_getLast?,dI,BQ n];rfl
 have bj:∀j u,(DT l[Alz l-1])[j]? =J u->w4.drew.cell? ⟨g,0+(Alz l-1)*2+j,Aa⟩=J u:=fun j u hu=>by
  refine ab.drew.I ?_;have:=bR n hu;grind
 have o:Alz (Ev l++rest)=a*2:=by rw[Bx,PB];exact V
 refine Kk 9 Bi Bi<|HW.val Z Z (CV iA Z Z (t.drew.I Z))<|HW.val Z Z (EX.move Z)<|HW.val Z Z (CV iA Z Z (t.drew.I Z))<|HW.val Z Z (CV iA Z Z (t.drew.I Z))<|HW.val Z Z (PN iA Z)<|HW.val Z Z (by first|exact Kg (b:=1) (m:=9223372036854775807) Z Z Z X|exact RH (m:=9223372036854775807) Z Z Z Z X)<|HW.val Z Z (MT iA Js Z Z X)<|HW.val Z Z (KY (l:=DT l[Alz l-1]) iH Z Js Z Z bj)<|HW.val Z Z (MT iA Js Z Z X)<|HW.tail<|(Zs ab.drew (hlt:=by rw[o];show 0+k*2+2<=a*2;omega)) ?_;rintro w5 W f;refine(O 3) ?_;rw[EE,Ain _ hk,<-bd,vG hk,Cq]at W;have ao:=t.drew.j f (by simpa using bb);have bx:mb≠g:=by have:=(hg.a x1).lt;omega
 have a1:N≠g:=by have:=hg.lt;omega
 have a8:=a9.drew.j f Bf;have a3:=a4.drew.j f (by simpa using a1);refine(O 4∘Zv (by exact Wx iA Js Z Z ⟨X,X⟩)∘Zt ao) ?_;rintro w6 al d;refine(O 3) ?_;have bq:mb≠A:=by have:=(ht.a x1).lt;omega
 have ai:N≠A:=by have:=ht.lt;omega
 have a7:=a8.j d Bf;have a2:=a3.j d (by simpa using ai);have bi:=W.j d Bf;refine(Zv (BX a7)∘Zs a2 (hlt:=Bq _)) ?_;rintro w7 I i;refine(O 1) ?_;replace I:Bk w7 N 378 (DT (Fb l)):=I;have bh:=bi.j i Bf;have aj:=al.j i Bf;refine(Kv I) ?_;rw[C];refine⟨Z,.slice (J ⟨g,0,Aa⟩) (Alz l-1) a,aj,?_,Z,?_⟩
 .rw[y];refine⟨by rw[PB,y],.inr ⟨g,a,_,Z,bf,bh,?_,X,bc⟩⟩;have:Alz (Ev l++rest)=a*2:=o;rw[Bx,PB]at this;rw[Bx,PB,y];show(Alz l-1)*2+(2+Alz rest)=a*2;omega
 .have m1:Mo w w4.drew []:=Mo.Akj (x4.trans (Be.drew w4)) [];have hz:=p.size;refine Mo.fresh (S:=[A,g,N]) (((((m1.mono Bh).trans (f.mono Bh)).trans (d.mono Bh)).trans (i.mono Bh))) (fun q hq L=>?_);simp only[List.mem_cons,List.not_mem_nil,or_false]at hq;rcases hq with rfl|rfl|rfl
  .simp
  .simp[Pi]
  .omega
def Akh{l:Bj}{i:Y}(h:i<Alz l):l.zipIdx.take (i+1)=l.zipIdx.take i++[(l[i],i)]:=by
 rw[<-CX (by simp_all),List.getElem_zipIdx,EE]
def vH{α:Type}{f:Y->α}{z:α}{n i:Y}(h:i<n):(fill f z n i).set i z=fill f z n i:=by
 unfold fill;simp
def Aip{n next M W:Y}{a:Ae Tr}{over:Bj}{ht:Y->Y}(h:Gw n a over next ht M W)(g:n<=258)(hW:W<=4000000000000):Sf a:=fun t d=>by
 have e:=ow (List.mem_map_of_mem (f:=(·.1)) d);rw[h.tot]at e;have j:=h.lt t d;have i:=h.sum;omega
def Bk.Alc{w w':Ad}{b tb:Y}{T:Aw}{l:Bl}{v:Ah}(h:Bk w b T l)(hm:Mo w w' (tb::v.ownBlock.toList))(h1:b≠tb)(h2:∀k,Pi v=J k->b≠k):Bk w' b T l:=
 h.j hm (fun q=>by
  grind)
def Be.Alc{w0 w w':Ad}{tb s n:Y}{T:Aw}{v:Ah}{xs:Bl}(hx:Be w0 w)(hm:Mo w w' (tb::v.ownBlock.toList))(h1:w0.heap.size<=tb)(h2:Bn w w0.heap.size T s v n xs):Be w0 w':=
 Bp hx hm hx.size (fun k q=>by
  rcases List.mem_cons.1 q with q|q
  .omega
  .exact(h2.lt k (FG.1 q)).1)
def xE{f:Y}{a:Ae Tr}{over:Bj}{next:Y}(h:Alz a<=1):grow f a over next=over:=by
 cases f with
 |zero=>rfl
 |succ f=>rw[grow,Aj h]
def ma(l:Ae Tr):Alz (Do l).2=Alz l-1:=Bz.fillL_length _ _
def xF(l:Bj)(h2:2<=Alz l)(h3:Alz l<=258)(bm:∀x∈l,1<=x/\x<=1073741824)(A:Av AB)(c C:Y)(w:Ad)(hs:Sl w C A (BD .i64 l)):
 Bm eD 285 [.slice A (Alz l) c] w fun v w'=>CT w' w.heap.size v (Bz.grown l)/\Be w w':=by
 obtain⟨b,f,rfl,_,dg⟩:=hs.Q X
 have hW:CS l<=4000000000000:=by
  have:=VS (l:=l) (m:=1073741824) (fun x p=>(bm x p).2);have:=RX 1073741824 h3;omega
 refine Bw func285 Z ntmps285 Bi Z ?_;refine(O 6∘Mf) ?_;rintro W w1 a8 c5 c1;refine(O 9)<|Lo (fun((i,v,wr):Y×Ah×Ad)=>(i<=Alz l/\Bk wr W 376 [v]/\Bn wr w.heap.size 378 2 v i (Ev (l.zipIdx.take i))/\Be w wr,[(0,.slice (J ⟨b,f,Aa⟩) (Alz l) c),(3,.pointer (J ⟨W,0,Aa⟩)),(14,.slice (J ⟨b,f,Aa⟩) (Alz l) c),(15,.int .i64 ((Alz l:Y):H)),(16,.int .i64 i)],wr,Alz l-i)) (0,(.slice Aa 0 0),w1) ?_ ?_
 .exact⟨BC _,c5,Bn.nil _ _ _ _,c1⟩
 .rintro⟨i,v,wr⟩⟨hi,Q,h,p⟩;refine(O 5)<|Zi (fun hc=>?_) fun hc=>?_
  .have b3:=Akh hc;have cz:=bm _ (BL hc);have ba:=dg wr p i hc;generalize l[i]=x at b3 cz ba;refine(O 7∘Zv (BR ba)∘O 8∘Kx p h) ?_;rintro _ v2 w2 b2 o da;have b9:=Q.push da (h.ne Q Bc);refine(Zt b9) ?_;rintro w3 T B;refine(O 6)<|Lb ((i+1),v2,w3) ?_
   have G:Bn w2 w.heap.size 378 2 v2 (i+1) (Ev (l.zipIdx.take (i+1))):=by
    rw[b3,Tu];exact b2
   exact⟨hc,T,G.j B (fun q hq=>by simp;exact fun z=>G.ne b9 Bc q hq z.symm),Bp o B o.size Bv⟩
  .obtain rfl:i=Alz l:=X;have cx:l.zipIdx.take (Alz l)=l.zipIdx:=Dh Bh;rw[cx]at h;have cw:Alz l.zipIdx=Alz l:=TU;refine(O 6∘Gc) ?_;rintro S w2 d4 cg o;refine(O 10∘Zv (by exact FZ Z Z)∘O 4) ?_;rw[show BH (2*Alz l) (.int .i64 0)=BD .i64 (BH (2*Alz l) 0)from(KF _ _ _).symm]at cg;have ec:=p.size;have bs:(BE (Alz l)).map (Fz (grow (Alz l) l.zipIdx (BH (2*Alz l) 0) (Alz l)) (2*Alz l))=Bz.grown l:=rfl;have cn:=ot (fun x p=>(bm x p).1) (show 1<=Alz l by omega);obtain⟨g1,g2,g3,g4⟩:=jC (Alz l) (Alz l) _ _ _ _ _ _ cn (by rw[TU];omega) (by rw[TU];omega);generalize dn:grow (Alz l) l.zipIdx (BH (2*Alz l) 0) (Alz l)=k8 at bs g1 g2 g3;refine Lo (fun((g,over,next,v,wr):(Ae Tr)×(Bj)×Y×Ah×Ad)=>((∃f Q M,Gw (Alz l) g over next Q M (CS l)/\Alz g<=f+1/\1<=Alz g/\grow f g over next=k8)/\Bk wr W 376 [v]/\Bn wr w.heap.size 378 2 v (Alz g) (Ev g)/\Bk wr S 3 (BD .i64 over)/\Be w wr,[(0,.slice (J ⟨b,f,Aa⟩) (Alz l) c),(3,.pointer (J ⟨W,0,Aa⟩)),(6,.slice (J ⟨S,0,Aa⟩) (2*Alz l) (2*Alz l)),(7,.int .i64 next),(8,.func (.func 303) #[] #[.pointer (J ⟨W,0,Aa⟩)])],wr,Alz g)) (l.zipIdx,(BH (2*Alz l) 0),Alz l,v,w2) ?_ ?_
   .exact⟨⟨_,_,_,cn,X,X,dn⟩,Q.a o,by rw[cw];exact h.a o,cg,p.trans o⟩
   .rintro⟨g,over,next,v,wr⟩⟨⟨fu,eb,M,hG,ek,eh,D⟩,Q,h,ho,p⟩;have V:=Aip hG h3 hW;have dp:=hG.sum;have dv:=hG.G;have ds:=hG.len;obtain⟨A0,c0,b7,_,_⟩:=h.slice;have d0:Alz g<=1000:=X;have c3:Bk wr W 376 [.slice A0 (Alz g) c0]:=by rw[<-b7];exact Q
    refine(O 7)<|Zi (fun dc=>?_) fun dc=>?_
    .obtain⟨f',rfl⟩:∃f',fu=f'+1:=⟨fu-1,X⟩;have cb:=hG.step X (a:=(Do g).1) (b:=(Do (Do g).2).1) (l1:=(Do g).2) (l2:=(Do (Do g).2).2) Z Z;rw[grow,Ag X]at D;have ef:=ma g;have c9:=ma (Do g).2;have cd:=cb.1
     have ce:Sf (Do g).2:=fun t Q=>by
      have c8:g≠[]:=fun e=>by grind
      exact V t ((aB c8).1.symm.subset (Gl _ Q))
     have a5:=V (Do g).1 (cd.symm.subset Bh);have a0:=V (Do (Do g).2).1 (cd.symm.subset Bh);have c2:Pi v=(Value.slice A0 (Alz g) c0).ownBlock:=by rw[b7]
     refine(O 5∘Ea (jb g X X V W w.heap.size _ wr c3 Bf)) ?_;rintro _ w3⟨rfl,v3,T,E,df,B⟩;refine(O 1) ?_;rw[<-c2]at df B;have r:=ho.Alc B (ho.ne Q Bc) (h.ne ho Bc);have x3:=p.Alc B a8 h;refine(Ea (jb (Do g).2 X X ce W w.heap.size v3 w3 T E)) ?_;rintro _ w4⟨rfl,v4,c4,ai,em,cm⟩;have bj:=r.Alc cm (r.ne T Bc) (E.ne r Bc);have x4:=x3.Alc cm a8 E;obtain⟨_,s2,s3,s4,s5,s6⟩:=cb;generalize(Do g).1=a at s2 s3 s4 s6 D a5;generalize(Do (Do g).2).1=bb at s2 s3 s4 s6 D a0;generalize(Do (Do g).2).2=l2 at s6 D c9 ai;refine(Zn) ?_;rintro ab w5 d2 cr b5;refine(Zn) ?_;rintro bk w6 d1 co b4;have en:ab≠bk:=by have:=cr.lt;omega
     refine(Zs (cr.a b4) (hlt:=Bq _)) ?_;rintro w7 bq ck;replace bq:Bk w7 ab 378 (DT a):=bq;refine(Zs (co.j ck Bf) (hlt:=Bq _)) ?_;rintro w8 n cj;refine(O 2) ?_;replace n:Bk w8 bk 378 (DT bb):=n;have cq:=bq.j cj Bf;have y6:=b5.trans b4;have d8:=b5.size;have y7:Be w4 w7:=Bp y6 ck y6.size Bv;have y8:Be w4 w8:=Bp y7 cj y7.size Bv;have bi:=bj.a y8;have b8:=c4.a y8;have af:=ai.a y8;have x8:=x4.trans y8;have K:S≠ab:=by have:=bj.lt;omega
     have a6:S≠bk:=by have:=bj.lt;omega
     refine(Yr 12 (fun w'=>Bk w' ab 378 (DT a)/\Bk w' bk 378 (DT bb)) (Il cq.drew n.drew)) fun hS=>(Gv [0,1,2,3,4,5,6,7,8]∘Yt 9 bi.drew (hlt:=by rw[DO];omega)) ?_;rintro w9 cf bl;refine⟨⟨cq.drew.j bl (by simpa using K.symm),n.drew.j bl (by simpa using a6.symm)⟩,fun hS=>?_⟩;refine(Gv [10]) ?_;rw[IA]at cf;refine(Yt 11 cf (hlt:=by rw[DO,Hg];omega)) ?_;rintro b0 L P;refine⟨⟨hS.1.j P (by simpa using K.symm),hS.2.j P (by simpa using a6.symm)⟩,fun hS=>?_⟩;refine(Yd∘O 2) ?_;rw[IA]at L;have bd:Mo w8 b0 [S]:=((Mo.Akj (Be.drew w8) [S]).trans bl).trans P;have ao:=b8.j bd (by simpa using(bi.ne b8 Bc).symm);have k:=af.j bd (fun q hq=>by simp;exact fun z=>af.ne bi Bc q hq z.symm);have d7:=p.size;have ct:Be w b0:=Bp x8 bd x8.size Bv;have d6:=hS.1;have d5:=hS.2;have ka:=a5.1;have kb:=a0.1;refine(O 8∘Kx ct k) ?_;rintro _ b1 cv bc aj a9;have I:=ao.push a9 (k.ne ao Bc);have a7:=L.push a9 (k.ne L Bc);refine(Zt I) ?_;rintro cu ca N;refine(O 7) ?_
     have al:Bn cv w.heap.size 378 2 b1 (Alz (l2++[(a.1+bb.1,next)])) (Ev (l2++[(a.1+bb.1,next)])):=by
      rw[Tu,Bx,CL];exact bc
     refine Lb ((l2++[(a.1+bb.1,next)]),((over.set a.2 next).set bb.2 next),(next+1),b1,cu) ?_ (hm:=by dsimp only;rw[Bx,CL];omega);refine⟨⟨f',_,_,s6,by rw[Bx,CL];omega,by rw[Bx,CL];omega,D⟩,ca,al.j N (fun q hq=>by simp;exact fun z=>al.ne I Bc q hq z.symm),a7.j N (by simpa using a7.ne I Bc),Bp aj N aj.size Bv⟩
    .have dk:k8=over:=by rw[<-D];exact xE X
     subst dk;refine(O 5∘Gc) ?_;rintro rb w3 d3 ed b6;refine(O 10) ?_;have r:=ho.a b6;have x3:=p.trans b6;have bh:S≠rb:=by have:=ho.lt;omega
     have ea:=p.size;refine Lo (fun((i,wi):Y×Ad)=>(i<=Alz l/\Bk wi rb 3 (fill (fun(j:Y)=>Value.int .i64 ((Fz k8 (2*Alz l) j:Y):H)) (.int .i64 0) (Alz l) i)/\Mo w3 wi [rb],[(6,.slice (J ⟨S,0,Aa⟩) (2*Alz l) (2*Alz l)),(11,.slice (J ⟨rb,0,Aa⟩) (Alz l) (Alz l)),(68,.int .i64 ((Alz l:Y):H)),(69,.int .i64 i)],wi,Alz l-i)) (0,w3) ?_ ?_
     .exact⟨BC _,Ck,Mo.refl _ _⟩
     .rintro⟨i,wi⟩⟨hi,hr,hm⟩;have ee:=r.j hm (by simpa using bh);refine(O 5)<|Zi (fun bn=>?_) fun bn=>?_
      .refine(O 14)<|Lo (fun((a,d,f,wa):Y×Y×Y×Ad)=>(a<2*Alz l/\d<=a/\d+Fz k8 f a=Fz k8 (2*Alz l) i/\2*Alz l<=f+a/\Bk wa rb 3 ((fill (fun(j:Y)=>Value.int .i64 ((Fz k8 (2*Alz l) j:Y):H)) (.int .i64 0) (Alz l) i).set i (.int .i64 (d:H)))/\Mo w3 wa [rb],[(6,.slice (J ⟨S,0,Aa⟩) (2*Alz l) (2*Alz l)),(11,.slice (J ⟨rb,0,Aa⟩) (Alz l) (Alz l)),(12,.int .i64 i),(13,.int .i64 a),(68,.int .i64 ((Alz l:Y):H)),(69,.int .i64 i)],wa,2*Alz l-a)) (i,0,(2*Alz l),wi) ?_ ?_
       .exact⟨X,BC _,EE _,X,by rw[show Value.int .i64 ((0:Y):H)=.int .i64 0 from Z,vH bn];omega,hm⟩
       .rintro⟨a,d,f,wa⟩⟨a1,a2,a3,a4,bf,ch⟩;have K:=r.j ch (by simpa using bh);have bx:(BD .i64 k8)[a]? =J (.int .i64 ((k8.getD a 0:Y):H)):=FB X;have cs:=g3 a;have db:=Qv k8;generalize c6:k8.getD a 0=y at bx cs;refine(O 6∘Zv (Bo K (hi:=bx))∘O 2)<|Zi (fun hy=>?_) fun hy=>?_
        .obtain⟨q1,q2⟩:=cs hy;obtain⟨f',rfl⟩:∃f',f=f'+1:=⟨f-1,X⟩;rw[db,c6,Ag hy]at a3;have eg:Alz (fill (fun(j:Y)=>Value.int .i64 ((Fz k8 (2*Alz l) j:Y):H)) (.int .i64 0) (Alz l) i)=Alz l:=QD hi
         have cp:((fill (fun(j:Y)=>Value.int .i64 ((Fz k8 (2*Alz l) j:Y):H)) (.int .i64 0) (Alz l) i).set i (.int .i64 (d:H)))[i]? =J (.int .i64 (d:H)):=by
          rw[List.getElem?_set_self X]
         refine(O 7∘Zv (Bo bf (hi:=cp))∘O 2∘Zt bf (hlt:=by grind)) ?_;rintro w5 cc cl;refine(O 6) ?_;rw[List.set_set]at cc;have c7:=K.j cl (by simpa using bh);refine(Zv (Bo c7 (hi:=bx))∘O 2)<|Lb (y,(d+1),f',w5) ?_;exact⟨X,X,X,X,cc,ch.trans cl⟩
        .have d9:y=0:=Dd.1 hy
         have HU:Fz k8 f a=0:=by
          cases f with
          |zero=>rfl
          |succ f=>grind
         rw[HU,JD]at a3;subst a3;rw[QE (f:=fun(j:Y)=>Value.int .i64 ((Fz k8 (2*Alz l) j:Y):H)) bn]at bf;refine(O 6)<|Lb ((i+1),wa) ?_;grind
      .obtain rfl:i=Alz l:=X;rw[QC]at hr;have xi:Be w wi:=Bp x3 hm x3.size Bv;refine(O 6∘Bu) ?_;refine⟨?_,xi⟩
       have e:BD .i64 (Bz.grown l)=(BE (Alz l)).map fun(j:Y)=>Value.int .i64 ((Fz k8 (2*Alz l) j:Y):H):=by
        rw[<-bs];unfold BD;rw[EV];rfl
       have el:Alz (Bz.grown l)=Alz l:=by rw[<-bs];simp
       unfold CT;rw[e,el];exact Bn.Akk hr X Bh CB
def ID(F:Y->Y)(l:Bj)(i:Y):Bj:=(l.take i).map F++l.drop i
section
variable{F:Y->Y}{l:Bj}{i:Y}
def QJ:Alz (ID F l i)=Alz l:=by
 unfold ID;grind
def yI:ID F l 0=l:=by rfl
def kF:ID F l (Alz l)=l.map F:=by simp[ID]
def kE(h:i<Alz l):(ID F l i).getD i 0=l[i]:=by
 unfold ID;grind
def kG(h:i<Alz l):(ID F l i).set i (F l[i])=ID F l (i+1):=by
 unfold ID;rw[LX _ _ Bf,Dl,BW,Hi X,EY,DD h,IW,<-CX h,DW,Cq];rfl
end
def jQ{l:Bj}{rest:Bl}{i:Y}(h:i<Alz l):(BD .i64 l++rest)[i]? =J (Bb ((l.getD i 0:Y):H)):=by
 rw[FR (by rw[DO];omega),FB h]
def jR{l:Bj}{rest:Bl}{i x:Y}(h:i<Alz l):(BD .i64 l++rest).set i (Bb (x:H))=BD .i64 (l.set i x)++rest:=by
 rw[TZ _ _ (by rw[DO];omega),IA]
def kV(f:Y)(w:Bj):LB (f+1) w=if(Bz.grown w).all (fun x=>decide (x<=17))then Bz.grown w else LB f (w.map fun x=>x/2+1):=by rfl
def yH(l:Bj)(h2:2<=Alz l)(h3:Alz l<=258)(Q:∀x∈l,x<=1073741824)(A:Av AB)(c C:Y)(w:Ad)(hs:Sl w C A (BD .i64 l)):
 Bm eD 270 [.slice A (Alz l) c,Bb 17] w fun v w'=>(∃u,v=.tuple #[u,Bb ((0:Y):H)]/\CT w' w.heap.size u (KK l))/\Be w w':=by
 refine Bw func270 Z ntmps270 (by rfl) Z ?_;refine(O 7)<|Lc (fun(d1:Ar)=>(d1=Ai,[(0,.slice A (Alz l) c),(1,Bb ((17:Y):H)),(22,.bool d1)],w)) ?_ ?_
 .refine(O 2∘Zc (kq l ⟨h2,h3⟩ Q A c C w hs)) ?_;rintro _ _⟨rfl,rfl⟩;refine(O 2) ?_;refine OW.as 15 (.bool Ai) Z (Z)<|(O 4) ?_;refine OW.as 19 (.bool Ai) Z (Z)<|(O 4∘Lm (decide (20<17))) ?_;rfl
 .rintro d1 rfl;refine(O 5∘Zc (tA l X X A c C w hs)) ?_;rintro v1 w1⟨N,G⟩;obtain⟨g,h,rest,rfl,V,hg,S,a2,a3⟩:=Bn.blk N (by rw[DO];omega);refine(O 10)<|Lo (fun((i,wr):Y×Ad)=>(i<=Alz l/\Bk wr g 3 (BD .i64 (ID (fun x=>max x 1) l i)++rest)/\Mo w1 wr [g],[(1,Bb ((17:Y):H)),(6,.slice (J ⟨g,0,Aa⟩) (Alz l) h),(25,.slice (J ⟨g,0,Aa⟩) (Alz l) h),(26,Bb ((Alz l:Y):H)),(27,Bb i)],wr,Alz l-i)) (0,w1) ?_ ?_
  .exact⟨BC _,Ck,Mo.refl _ _⟩
  .rintro⟨i,wr⟩⟨hi,n,P⟩;refine(O 5)<|Zi (fun y=>?_) fun y=>?_
   .have r:=Q _ (BL y);have j:=kG (F:=fun x=>max x 1) y;have d:=jQ (rest:=rest) (show i<Alz (ID (fun x=>max x 1) l i) by rw[QJ];exact y);rw[kE y]at d;generalize l[i]=x at r j d;refine(O 7∘Zv (Bo n (hi:=d))∘O 9∘Zt n (hlt:=by rw[Bx,DO,QJ];omega)) ?_;rintro w3 L aj;refine(O 6) ?_;rw[jR (by rw[QJ];exact y),j]at L;refine Lb ((i+1),w3) ?_;exact⟨y,L,P.trans aj⟩
   .obtain rfl:i=Alz l:=X;rw[kF]at n;have ab:Alz (l.map fun x=>max x 1)=Alz l:=Dl _;have xr:Be w wr:=Bp G P G.size (by simp;exact V);refine(O 2)<|Lo (fun((a,f,o):(Bj)×Y×Ad)=>(Alz a=Alz l/\f<=31/\(∀x∈a,1<=x/\x<=2 ^ f+1/\x<=1073741824)/\LB f a=KK l/\Bk o g 3 (BD .i64 a++rest)/\Be w o,[(1,Bb ((17:Y):H)),(6,.slice (J ⟨g,0,Aa⟩) (Alz l) h)],o,f)) ((l.map fun x=>max x 1),31,wr) ?_ ?_
    .refine⟨ab,Bq _,fun x k=>?_,Z,n,xr⟩;grind
    .rintro⟨a,f,o⟩⟨k1,k2,B,k4,k5,k6⟩
     have af:Sl o o.heap.size (J ⟨g,0,Aa⟩) (BD .i64 a):=by
      have:=k5.Alg 0 (Alz a);rwa[MW,Hy (DO _ _)]at this
     have T:=xF a X X (fun x k=>⟨(B x k).1,(B x k).2.2⟩) (J ⟨g,0,Aa⟩) h o.heap.size o af;rw[k1]at T;have S:=YZ (fun x k=>(B x k).1) (show 2<=Alz a by omega);have a0:=S.1.len;refine(O 4∘Zc T) ?_;rintro u w4⟨p,E⟩;refine(O 6) ?_;obtain⟨A4,c4,rfl,_,I⟩:=p.sl;have x4:=k6.trans E;refine(Zc (kI (Bz.grown a) X X A4 c4 _ w4 I)) ?_;rintro _ _⟨⟨m,al,a1,rfl⟩,rfl⟩;refine(O 3)<|Zi (fun t=>?_) fun t=>?_
     .have W:LB f a=Bz.grown a:=by
       cases f with
       |zero=>rfl
       |succ f=>
        rw[kV,Aj];grind
      refine(O 6∘BF) ?_;exact⟨⟨_,Z,by rw[<-k4,W];exact Bn.l p k6.size⟩,x4⟩
     .obtain⟨f',rfl⟩:∃f',f=f'+1:=by
       cases f with
       |zero=>
        exfalso;have:=(ZL 0 a (fun x k=>⟨(B x k).1,(B x k).2.1⟩) X X).2 m al;omega
       |succ f=>simp
      rw[kV,Ag (fun q=>by grind)]at k4;refine(O 8)<|Lo (fun((i,D):Y×Ad)=>(i<=Alz a/\Bk D g 3 (BD .i64 (ID (fun x=>x/2+1) a i)++rest)/\Mo w4 D [g],[(1,Bb ((17:Y):H)),(6,.slice (J ⟨g,0,Aa⟩) (Alz l) h),(45,.slice (J ⟨g,0,Aa⟩) (Alz l) h),(46,Bb ((Alz l:Y):H)),(47,Bb i)],D,Alz a-i)) (0,w4) ?_ ?_
      .exact⟨BC _,by rw[yI];exact k5.a E,Mo.refl _ _⟩
      .rintro⟨i,D⟩⟨hi,n,P⟩;refine(O 5)<|Zi (fun ao=>?_) fun ao=>?_
       .have e:i<Alz a:=X;have r:=(B _ (BL e)).2.2;have j:=kG (F:=fun x=>x/2+1) e;have d:=jQ (rest:=rest) (show i<Alz (ID (fun x=>x/2+1) a i) by rw[QJ];exact e);rw[kE e]at d;generalize a[i]=x at r j d;refine(O 7∘Zv (Bo n (hi:=d))∘O 10∘Zt n (hlt:=by rw[Bx,DO,QJ];omega)) ?_;rintro w6 K ai;refine(O 6) ?_;rw[jR (by rw[QJ];exact e),j]at K;refine Lb ((i+1),w6) ?_;exact⟨e,K,P.trans ai⟩
       .obtain rfl:i=Alz a:=X;rw[kF]at n;refine(O 2)<|Lb ((a.map (fun x=>x/2+1)),f',D) ?_;refine⟨Bf,X,fun x k=>?_,k4,n,Bp x4 P x4.size (by simp;exact V)⟩;grind
end
section
open Go.Shelf
def Afu:Go.Shelf.Ren:=⟨fun|6=>287|15=>109|14=>306|28=>150|29=>151|20=>314|21=>315|22=>316|23=>317|24=>318|25=>319|26=>320|27=>321|46=>325|47=>187|48=>188|49=>326|50=>327|57=>328|n=>n,fun|22=>376|24=>378|25=>380|3=>3|39=>180|0=>0|53=>58|55=>211|4=>4|46=>242|45=>241|50=>246|5=>5|9=>9|66=>285|70=>289|76=>332|77=>333|n=>n,fun|n=>n⟩
def Aft:Go.Proofs.SlLaysF0.n6 eD Afu:=Hz
def Afv:Go.Shelf.Ren:=⟨fun|6=>79|15=>109|14=>108|28=>150|29=>151|20=>142|21=>143|22=>144|23=>145|24=>146|25=>147|26=>148|27=>149|46=>186|47=>187|48=>188|49=>189|50=>190|57=>240|n=>n,fun|22=>56|24=>60|25=>151|3=>3|39=>180|0=>0|53=>58|55=>211|4=>4|46=>242|45=>241|50=>246|5=>5|9=>9|66=>285|70=>289|76=>332|77=>333|n=>n,fun|n=>n⟩
def nL:Go.Proofs.SlLaysF0.n6 eD Afv:=Hz
def Afs:Go.Shelf.Ren:=⟨fun|6=>123|15=>109|14=>164|28=>150|29=>151|20=>210|21=>211|22=>212|23=>213|24=>214|25=>215|26=>216|27=>217|46=>256|47=>187|48=>188|49=>257|50=>258|57=>280|n=>n,fun|22=>118|24=>121|25=>218|3=>3|39=>180|0=>0|53=>58|55=>211|4=>4|46=>242|45=>241|50=>246|5=>5|9=>9|66=>285|70=>289|76=>332|77=>333|n=>n,fun|n=>n⟩
def Afr:Go.Proofs.SlLaysF0.n6 eD Afs:=Hz
end
section
open Bz
def qg{P:AC}{n:Y}{U:BG}{w:Ad}{x:AD}{t ty:Aw}{a m:Y}(hx:ev U x=J (Bb (a:H)))(hm:m=9223372036854775807)(h:a<=m):EX P n U (.unOp .neg t x) ty w (Bb (-(a:H))) w:=fun A e f d after g=>by
 have:=ci (k:=.i64) (a:=-(a:H)) (m:=9223372036854775807) Z Z X;simp only[execOp,e.ev hx];simp[Op.unary,Op.intArith,this]
def Gn(l:Bj)(j:Y):Me:=(-((max (l.getD j 0) 1:Y):H),(j:H))
abbrev Md:={t:Me//Ln t}
instance:Inhabited Md:=⟨⟨(0,0),by unfold Ln;decide⟩⟩
attribute [local irreducible] EX
def UT{l:Bj}(a:∀x∈l,x<=1073741824)(e:Alz l<=258){j:Y}(d:j∈BE (Alz l)):Ln (Gn l j):=by
 have d:=DX.1 d;have f:=a _ (BL d);unfold Ln Gn;grind
def tL:Go.Sort.SWO (fun a b:Md=>decide (Ja a.1 b.1<0)):=by
 have d:∀a b:Me,Ja a b<0↔a.1<b.1∨(a.1=b.1/\a.2<b.2):=fun a b=>by
  unfold Ja;omega
 refine⟨fun x=>?_,fun x y z f e=>?_,fun x y z f e=>?_⟩
 .grind
 .grind
 .grind
def vj{l:Bj}{a b:Y}(h:¬Ja (Gn l b) (Gn l a)<0)(d:a≠b):FI l a b:=by
 unfold Ja Gn at h;unfold FI;omega
def PD(n p:Y):Y:=if p<2 ^ (Ed n+1)-n then Ed n else Ed n+1
def vP{l o out:Bj}(e:IsOw l o)(hl:Alz out=Alz l)(h:∀p,p<Alz o->out.getD (o.getD p 0) 0=PD (Alz l) p):out=Gp l:=by
 have g:Alz o=Alz l:=by rw[e.perm.length_eq,Hf]
 have k:Alz (Gp l)=Alz l:=YM l;apply MX X;intro i n m;have j:i∈o:=e.perm.mem_iff.2 (DX.2 X);obtain⟨p,d,rfl⟩:=Hw.1 j;have f:=h p d;rw[CG d,CG n]at f
 have a:(Gp l)[o[p]]? =J (PD (Alz l) (Po l o[p])):=by
  unfold Gp;rw[DV,MY X];rfl
 rw[BQ m]at a;injection a with a;rw[f,a,e.rank d]
def vS(l:Bj)(h2:2<=Alz l)(h3:Alz l<=258)(D:∀x∈l,x<=1073741824)(A:Av AB)(c C:Y)(w:Ad)(hs:Sl w C A (BD .i64 l)):
 Bm eD 271 [.slice A (Alz l) c] w fun v w'=>(∃u,v=.tuple #[u,Bb ((0:Y):H)]/\CT w' w.heap.size u (Gp l))/\Be w w':=by
 refine Bw func271 Z ntmps271 Bi Z ?_;refine(O 9∘Zc (kq l ⟨h2,h3⟩ D A c C w hs)) ?_;rintro _ _⟨rfl,rfl⟩;refine(O 2∘Ct 14 (.bool Ai)∘O 11) ?_;obtain⟨b,f,rfl,_,b8⟩:=hs.Q X;refine Lo (fun(k:Y)=>(1<=k/\k<=8/\2 ^ k<=Alz l,[(0,.slice (J ⟨b,f,Aa⟩) (Alz l) c),(4,Bb ((Alz l:Y):H)),(5,Bb k)],w,8-k)) 1 ?_ ?_
 .omega
 .rintro k⟨k1,k2,k3⟩;have kp:2 ^ (k+1)=2*2 ^ k:=by rw[Kr];omega
  refine(O 5∘Zv (by exact NZ (a:=1) (m:=9223372036854775807) Z Z (by show _<=64;omega) Z X)∘O 3)<|Zi (fun hc=>?_) fun hc=>?_
  .have cl:k<8:=by
    rcases CM k 8 with q|q
    .omega
    .grind
   refine(O 8)<|Lb (k+1) ?_;omega
  .have bd:Ed (Alz l)=k:=by
    have h1:k<=Ed (Alz l):=(Nat.le_log2 X).2 k3;have h2:Ed (Alz l)<k+1:=(Uh X).2 X;omega
   refine(O 4) ?_;refine rE Z Z iA Js Z Z X X ?_;rintro gb w1 y9 bh hZ cn af;refine(O 10)<|Lo (fun((i,wr):Y×Ad)=>(i<=Alz l/\Bk wr gb 378 ((BE i).flatMap (fun j=>FF (Gn l j))++y9.drop (i*2))/\Mo w1 wr [gb],[(0,.slice (J ⟨b,f,Aa⟩) (Alz l) c),(4,Bb ((Alz l:Y):H)),(5,Bb k),(6,.slice (J ⟨gb,0,Aa⟩) (Alz l) (Alz l)),(26,.slice (J ⟨b,f,Aa⟩) (Alz l) c),(27,Bb ((Alz l:Y):H)),(28,Bb i)],wr,Alz l-i)) (0,w1) ?_ ?_
   .exact⟨BC _,Bf,Mo.refl _ _⟩
   .rintro⟨i,wr⟩⟨hi,hg,hm⟩;have xr:Be w wr:=Bp af hm af.size Bv
    have a2:Alz ((BE i).flatMap (fun j=>FF (Gn l j)))=i*2:=by
     have:=KE (cells:=fun j=>FF (Gn l j)) (k:=2) (fun _=>rfl) (BE i);rwa[Hf]at this
    refine(O 5)<|Zi (fun I=>?_) fun I=>?_
    .have bn:=D _ (BL I);have ab:=b8 wr xr i I;have bj:Gn l i=(-((max l[i] 1:Y):H),(i:H)):=by unfold Gn;rw[CG I]
     generalize l[i]=x at bn ab bj;refine(O 7∘Zv (BR ab)∘O 8∘Zv (by exact qg Z Z X)∘O 3∘Zs hg (hlt:=by grind)) ?_;rintro w3 bi b2;refine(O 6)<|Lb ((i+1),w3) ?_;refine⟨I,?_,hm.trans b2⟩;rw[EE,Hy a2,<-Gj,RN a2,Gj]at bi;rw[FT,IT,Gk,TP,List.append_nil,bj,show(i+1)*2=i*2+2 by omega];exact bi
    .obtain rfl:i=Alz l:=X;rw[La X,List.append_nil]at hg
     have cg:((BE (Alz l)).pmap (fun j d=>(⟨Gn l j,d⟩:Md)) (fun j d=>UT D h3 d)).flatMap (fun t=>FF t.1)=(BE (Alz l)).flatMap (fun j=>FF (Gn l j)):=by
      rw[IU,IU,WQ];congr 1;show List.pmap (fun(j:Y) (_:Ln (Gn l j))=>FF (Gn l j)) _ _=_;exact List.pmap_eq_map ..
     have a6:Alz ((BE (Alz l)).pmap (fun j d=>(⟨Gn l j,d⟩:Md)) (fun j d=>UT D h3 d))=Alz l:=by rw[List.length_pmap,Hf]
     have ce:=af.size;have a7:Bn wr w.heap.size 378 2 (.slice (J ⟨gb,0,Aa⟩) (Alz l) (Alz l)) (Alz l) ((BE (Alz l)).flatMap (fun j=>FF (Gn l j))):=Bn.Akk hg bh a2 CB;have c1:=VQ Aft (f:=287) Z func287 Bi (e:=378) Z iH Z Js Bc (cells:=fun t:Md=>FF t.1) (fun _=>rfl) (fun x v hv=>by simp[FF]at hv;rcases hv with rfl|rfl<;>rfl) (fun a b=>Ja a.1 b.1) tL func288 Bi w.heap.size ((BE (Alz l)).pmap (fun j d=>(⟨Gn l j,d⟩:Md)) (fun j d=>UT D h3 d)) X (.slice (J ⟨gb,0,Aa⟩) (Alz l) (Alz l)) wr Bf (fun W x y _=>ei x.1 y.1 x.2 y.2 W);rw[a6]at c1;refine(O 4∘Zc c1) ?_;rintro _ w4⟨rfl,n,g,ai,aj,bb⟩;refine(O 4) ?_;have x4:Be w w4:=Bp xr bb xr.size (fun q hq=>(a7.lt q (FG.1 hq)).1);have b3:Alz n=Alz l:=by rw[g.length_eq,a6]
     have r:∀t∈n,t.1=Gn l t.1.2.toNat/\t.1.2.toNat<Alz l:=fun t ht=>by
      have:=g.subset ht;obtain⟨j,d,e⟩:=List.mem_pmap.1 this;rw[<-e];exact⟨Z,DX.1 d⟩
     have al:IsOw l (n.map fun t=>t.1.2.toNat):=by
      have S:(n.map fun t:Md=>t.1.2.toNat).Perm (BE (Alz l)):=by
       have:=g.map (fun t:Md=>t.1.2.toNat);rw[WQ]at this
       have e:List.pmap (fun(j:Y) (_:Ln (Gn l j))=>j) (BE (Alz l)) (fun j d=>UT D h3 d)=BE (Alz l):=by
        rw[List.pmap_eq_map,List.map_id']
       exact this.trans (Oe.of_eq e)
      refine⟨S,Ir.2 fun i j hi d bf=>?_⟩;have ba:=Ir.1 (S.nodup_iff.2 RR) i j hi d bf;simp only[Dl]at hi d;have h5:=ai i j hi d bf;rw[(r _ (BL hi)).1,(r _ (BL d)).1]at h5;simp only[Og]at ba ⊢;exact vj h5 ba
     have a0:∀p (S:p<Alz n),(n.map fun t=>t.1.2.toNat).getD p 0=n[p].1.2.toNat:=fun p S=>by
      rw[Cd,DV,BQ S];rfl
     have V:∀p q,p<Alz n->q<Alz n->(n.map fun t=>t.1.2.toNat).getD p 0=(n.map fun t=>t.1.2.toNat).getD q 0->p=q:=fun p q S hq e=>by
      rw[CG Bf,CG Bf]at e;exact(MZ (al.perm.nodup_iff.2 RR)).1 e
     generalize ho:(n.map fun t=>t.1.2.toNat)=o at al a0 V;have ck:Alz o=Alz l:=by rw[<-ho,Dl,b3]
     obtain⟨A5,c5,e5,_,bx⟩:=aj.slice;cases e5;refine(Gc) ?_;rintro ob w5 cb b7 bq;refine(O 10) ?_;rw[show BH (Alz l) (Bb 0)=BD .i64 (BH (Alz l) 0)from(KF _ _ _).symm]at b7;have x5:=x4.trans bq;have cd:=x4.size;refine Lo (fun((p,P,wp):Y×(Bj)×Ad)=>(p<=Alz l/\Alz P=Alz l/\(∀q,q<p->P.getD (o.getD q 0) 0=PD (Alz l) q)/\Bk wp ob 3 (BD .i64 P)/\Be w4 wp,[(4,Bb ((Alz l:Y):H)),(5,Bb k),(9,.slice (J ⟨ob,0,Aa⟩) (Alz l) (Alz l)),(46,.slice (J ⟨gb,0,Aa⟩) (Alz l) (Alz l)),(47,Bb ((Alz l:Y):H)),(48,Bb p)],wp,Alz l-p)) (0,(BH (Alz l) 0),w5) ?_ ?_
     .grind
     .rintro⟨p,P,wp⟩⟨S,B,Q,a1,K⟩;refine(O 5)<|Zi (fun a3=>?_) fun a3=>?_
      .have N:p<Alz n:=X;obtain⟨b6,o6,e6,_,h⟩:=(bx.a K).flat (cells:=fun t:Md=>FF t.1) (c:=2) (fun _=>rfl) Bc N;cases e6;obtain⟨bm,bl⟩:=r _ (BL N);have ao:=a0 p N;generalize n[p]=t at h bm bl ao;have a9:t.1.2=((o.getD p 0:Y):H):=by rw[ao,bm];rfl
       rw[<-ao]at bl;have bs:FF t.1=[Bb t.1.1,Bb ((o.getD p 0:Y):H)]:=by unfold FF;rw[a9]
       have G:∀x,x=PD (Alz l) p->∀q,q<p+1->(P.set (o.getD p 0) x).getD (o.getD q 0) 0=PD (Alz l) q:=fun x hx q hq=>by
        have cf:o.getD q 0<Alz P:=by
         rw[B,a0 q X];exact(r _ (BL _)).2
        rw[CG (by rw[Hg];omega),TS];by_cases e:o.getD p 0=o.getD q 0
        .rw[Aj e,hx,V p q N X e]
        .rw[Ag e,<-CG,Q q];grind
       have L:PD (Alz l) p=if p<2 ^ (k+1)-Alz l then k else k+1:=by unfold PD;rw[bd]
       rw[bs]at h;refine(O 7∘Zv (Dj [Bb t.1.1,Bb ((o.getD p 0:Y):H)] h)∘Zn) ?_;rintro tb w6 ca b5 a5;refine(O 1∘Zs b5 (hlt:=Bq _)) ?_;rintro w7 a4 b1;refine(O 5) ?_;replace a4:Bk w7 tb 378 [Bb t.1.1,Bb ((o.getD p 0:Y):H)]:=a4;have y7:Be wp w7:=Bp a5 b1 a5.size Bv;have a8:=a1.a y7;have cj:ob≠tb:=by have:=a1.lt;omega
       refine(O 3∘Zt a8 (hlt:=by rw[DO];omega)) ?_;rintro w8 E bc;refine(O 6) ?_;rw[IA]at E;have cm:=a4.j bc (by simp;omega);have cc:=K.size;have x7:=K.trans y7;have x8:Be w4 w8:=Bp x7 bc x7.size Bv;have b9:Alz l<=2 ^ (k+1):=X;have ch:1*2 ^ (k+1)=2 ^ (k+1):=Nat.one_mul _;refine(Zv (by exact NZ (a:=1) (m:=9223372036854775807) Z Z (by show _<=64;omega) Z X)∘O 4)<|Zi (fun b4=>?_) fun b4=>?_
       .rw[Ag X]at L;refine(O 7∘Zt E (hlt:=by rw[DO,Hg];omega)) ?_;rintro w9 T b0;refine(O 6) ?_;rw[IA,List.set_set]at T;refine Lb ((p+1),(P.set (o.getD p 0) (k+1)),w9) ?_;exact⟨a3,by rw[Hg];exact B,G _ L.symm,T,Bp x8 b0 x8.size Bv⟩
       .rw[Aj X]at L;refine(O 6)<|Lb ((p+1),(P.set (o.getD p 0) k),w8) ?_;exact⟨a3,by rw[Hg];exact B,G _ L.symm,E,x8⟩
      .obtain rfl:p=Alz l:=X;have e:=vP al B (fun p S=>Q p X);refine(O 7∘BF) ?_;refine⟨⟨_,Z,?_⟩,x4.trans K⟩;rw[<-e];unfold CT;rw[B];exact Bn.Akk a1 X (by rw[DO,B,IX]) CB
end
section
attribute [local irreducible] EX
open Bz
def vX{l:Bj}{i:Y}(h:i<Alz l):(l.take (i+1)).foldl max 0=max ((l.take i).foldl max 0) l[i]:=by
 rw[<-CX h,PT];rfl
def kw(l:Bj)(p:Alz l<=1000000000)(A:Av AB)(c C:Y)(w:Ad)(m:Sl w C A (BD .i64 l)):
 Bm eD 278 [.agg #[.slice A (Alz l) c]] w fun v w'=>v=Bb ((Bz.longest l:Y):H)/\Be w w':=by
 refine Bw Bh Z ntmps278 (by rfl) Z ?_;refine(O 2) ?_;refine Dq Z Z Z ?_;rintro o h j k a;refine(O 15)<|Lo (fun i=>(i<=Alz l,[(3,.int _ ((((l.take i).foldl max 0):Y))),(7,.slice A _ c),(8,.int _ _),(9,.int _ i)],h,Alz l-i)) 0 ?_ ?_
 .simp
 .rintro i q;refine(O 5)<|Zi (fun d=>?_) fun d=>?_
  .obtain⟨b,f,rfl,_,g⟩:=m.Q X;have n:=vX d;refine(O 6∘Zv (BR (g h a i d))∘O 13∘Ct 3 (Bb ((((l.take (i+1)).foldl max 0):Y):H)) (e:=by grind))<|Lb (i+1) ?_;omega
  .obtain rfl:i=Alz l:=X;refine(O 6∘Bu) ?_;rw[DY];exact⟨Z,a⟩
def Fq(sv ov:Ah)(F B C:Y->Y):Bl:=sv::ov::(EN .i64 22 F++(EN .i64 22 B++EN .i64 22 C))
section
variable{sv ov:Ah}{F B C:Y->Y}{i x:Y}
def bI(h:i<22):(Fq sv ov F B C)[2+i]? =J (Bb (F i:H)):=by
 unfold Fq;rw[Ud,RO,RO,FR Ck,MK h]
def oK(h:i<22):(Fq sv ov F B C)[24+i]? =J (Bb (B i:H)):=by
 unfold Fq;rw[show 24+i=(22+i)+1+1 by omega,RO,RO,Io (by rw[Gy];omega),Gy,Ko,FR Ck,MK h]
def Tq(h:i<22):(Fq sv ov F B C)[46+i]? =J (Bb (C i:H)):=by
 unfold Fq;rw[show 46+i=(22+(22+i))+1+1 by omega,RO,RO,Io (by rw[Gy];omega),Gy,Ko,Io (by rw[Gy];omega),Gy,Ko,MK h]
def Ik(F:Y->Y)(i x:Y):Y->Y:=fun b=>if b=i then x else F b
def oM(h:i<22):(Fq sv ov F B C).set (2+i) (Bb (x:H))=Fq sv ov (Ik F i x) B C:=by
 unfold Fq;rw[Ud,Lj,Lj,TZ _ _ Ck,Px h (G:=Ik F i x) (fun b _=>rfl)]
def oL(h:i<22):(Fq sv ov F B C).set (24+i) (Bb (x:H))=Fq sv ov F (Ik B i x) C:=by
 unfold Fq;rw[show 24+i=(22+i)+1+1 by omega,Lj,Lj,LX _ _ (by rw[Gy];omega),Gy,Ko,TZ _ _ Ck,Px h (G:=Ik B i x) (fun b _=>rfl)]
def Aid(h:i<22):(Fq sv ov F B C).set (46+i) (Bb (x:H))=Fq sv ov F B (Ik C i x):=by
 unfold Fq;rw[show 46+i=(22+(22+i))+1+1 by omega,Lj,Lj,LX _ _ (by rw[Gy];omega),Gy,Ko,LX _ _ (by rw[Gy];omega),Gy,Ko,Px h (G:=Ik C i x) (fun b _=>rfl)]
def VX:Alz (Fq sv ov F B C)=68:=by
 rfl
def Aie:Fq sv ov (fun _=>0) (fun _=>0) (fun _=>0)=sv::ov::BH 66 (Bb 0):=by
 rfl
end
def Gq(l:Bj)(n i:Y):Bj:=(BE i).filter fun j=>decide (l.getD j 0=n)
def xV(l:Bj)(n i:Y):Gq l n (i+1)=if l.getD i 0=n then Gq l n i++[i]else Gq l n i:=by
 unfold Gq;rw[FT,Le];grind
def ah(l:Bj)(m:Y):Dt l (m+1)=Dt l m++Gq l (m+1) (Alz l):=by
 unfold Dt;rw[FT,IT,Gk,TP,List.append_nil];rfl
def Zm(l:Bj)(n:Y):Alz (Gq l n (Alz l))=Cz l n:=Vb l n
def jJ(l:Bj)(n i:Y)(h:i<=Alz l):Alz (Gq l n i)<=Cz l n:=by
 rw[<-Zm];unfold Gq;obtain⟨d,hd⟩:∃d,Alz l=i+d:=⟨Alz l-i,X⟩;rw[hd,List.range_add,Le,Bx];omega
structure TabAt(w:Ad)(B tb:Y)(l:Bj)(sv:Ah):Prop where
 lo:B<=tb
 ex:∃ov F G C,Bk w tb 367 (Fq sv ov F G C)/\Bn w B 3 1 ov (Alz (Dt l (Bz.longest l))) (BD .i64 (Dt l (Bz.longest l)))/\(∀n,1<=n->n<=Bz.longest l->F n=fst l n/\G n=FX l n)/\(∀n,n<22->C n=Cz l n)/\∀n,F n<=4194304
def TabAt.a{w w':Ad}{B a:Y}{l:Bj}{sv:Ah}(h:TabAt w B a l sv)(hx:Be w w'):TabAt w' B a l sv:=by
 obtain⟨d,ov,F,G,C,j,g,f,e⟩:=h;exact⟨d,_,F,G,C,j.a hx,g.a hx,f,e⟩
def TabAt.tm{w w':Ad}{B a D:Y}{l:Bj}{sv:Ah}{p:Aw->Ar}(h:TabAt w B a l sv)(t:Tm w w' D p)(p1:p 367=Ai)(p2:p 3=Ai):TabAt w' B a l sv:=by
 obtain⟨d,ov,F,G,C,j,g,f,e⟩:=h;exact⟨d,_,F,G,C,t.bk j p1,t.y g p2,f,e⟩
def lN{l:Bj}(h0:Cz l 0=0)(m:Y):Alz (Dt l m)=FX l (m+1):=by
 have:=ag l m;omega
def Vt(l:Bj):∀m,Alz (Dt l m)<=m*Alz l
 |0=>by simp[Dt]
 |m+1=>by
  have h1:=Vt l m;have h2:Cz l (m+1)<=Alz l:=List.count_le_length;rw[ah,Bx,Zm,Qc];omega
def Vg{l:Bj}(h:LOk l):Bz.longest l<=20:=yB fun x hx=>(h.pos x hx).2
def fK{l:Bj}{n:Y}(h:Bz.longest l<n):Cz l n=0:=List.count_eq_zero.2 fun q=>by
 have:=Vf q;omega
def kB(l:Bj)(hn:Alz l<=1000000000)(a7:∀x∈l,x<=1000000000)(A:Av AB)(c C:Y)(w:Ad)(hs:Sl w C A (BD .i64 l)):
 Bm eD 251 [.slice A (Alz l) c] w fun v w'=>((GJ l≠0/\v=.tuple #[.pointer Aa,Bb ((80:Y):H)])∨(GJ l=0/\∃tb,v=.tuple #[.pointer (J ⟨tb,0,Aa⟩),Bb ((0:Y):H)]/\TabAt w' w.heap.size tb l (.slice A (Alz l) c)))/\Be w w':=by
 have b2:GJ l≠0->GJ l=80:=fun h=>by
  unfold GJ at h ⊢;grind
 refine Bw Bh Z ntmps251 Bi Z ?_;refine(O 9∘Zc (ZA l hn a7 A c C w hs)) ?_;rintro _ _⟨rfl,rfl⟩;refine(O 7)<|Zi (fun he=>?_) fun he=>?_
 .have e:=b2 he;refine(O 6∘BF) ?_;rw[e];exact⟨.inl ⟨Bc,Z⟩,Be.refl _⟩
 .have b3:GJ l=0:=Dd.1 he;have bn:2<=Alz l/\Alz l<=258/\LOk l:=IM fun q=>he (by rw[show GJ l=80 from Ag q];decide);obtain⟨l2,l3,hL⟩:=bn;have cd:=Vg hL;have P:=hL.Ale;obtain⟨D,y,rfl,_,b5⟩:=hs.Q X;refine(O 5∘Zv (by exact pO (pl:=[(0,1),(1,1),(2,22),(24,22),(46,22)]) (ks:=[0]) (zs:=[.slice Aa 0 0,.slice Aa 0 0,Bb 0,Bb 0,Bb 0,Bb 0,Bb 0,Bb 0,Bb 0,Bb 0,Bb 0,Bb 0,Bb 0,Bb 0,Bb 0,Bb 0,Bb 0,Bb 0,Bb 0,Bb 0,Bb 0,Bb 0,Bb 0,Bb 0,Bb 0,Bb 0,Bb 0,Bb 0,Bb 0,Bb 0,Bb 0,Bb 0,Bb 0,Bb 0,Bb 0,Bb 0,Bb 0,Bb 0,Bb 0,Bb 0,Bb 0,Bb 0,Bb 0,Bb 0,Bb 0,Bb 0,Bb 0,Bb 0,Bb 0,Bb 0,Bb 0,Bb 0,Bb 0,Bb 0,Bb 0,Bb 0,Bb 0,Bb 0,Bb 0,Bb 0,Bb 0,Bb 0,Bb 0,Bb 0,Bb 0,Bb 0,Bb 0,Bb 0]) iy oX Bi Z Z (by simp only[Cm,Em,Value.cells];rfl) Z Z (by simp only[fillL,WY,List.zip_nil_right,List.zip_nil_left,List.getD_cons_zero,List.getD_cons_succ,CF,ET,EE,JD,Nat.reduceAdd,Ub,Oj,TN,MW,EW,Gi];rfl))) ?_;refine Dq Z Z Z ?_;rintro tb w1 a8 a0 bj;refine(O 12) ?_
  replace a0:Bk w1 tb 367 (Fq (.slice (J ⟨D,y,Aa⟩) (Alz l) c) (.slice Aa 0 0) (fun _=>0) (fun _=>0) (fun _=>0)):=by
   rw[Aie];exact a0
  refine(Ct 6 (Bb (((fst l 0+Cz l 0):Y):H)) (e:=by rw[P];rfl))<|Lo (fun((m,ov,F,G,K,wr):Y×Ah×(Y->Y)×(Y->Y)×(Y->Y)×Ad)=>(m<=Bz.longest l/\Bk wr tb 367 (Fq (.slice (J ⟨D,y,Aa⟩) (Alz l) c) ov F G K)/\Bn wr w.heap.size 3 1 ov (Alz (Dt l m)) (BD .i64 (Dt l m))/\(∀n,1<=n->n<=m->F n=fst l n/\G n=FX l n)/\(∀n,n<22->K n=if n<=m then Cz l n else 0)/\(∀n,F n<=4194304)/\Be w wr,[(5,.pointer (J ⟨tb,0,Aa⟩)),(6,Bb (((fst l m+Cz l m):Y):H)),(7,Bb (((m+1):Y):H))],wr,22-m)) (0,(.slice Aa 0 0),(fun _=>0),(fun _=>0),(fun _=>0),w1) ?_ ?_
  .refine⟨BC _,a0,Bn.nil _ _ _ _,fun n h1 h2=>by omega,fun n h1=>?_,fun n=>BC _,bj⟩;grind
  .rintro⟨m,ov,F,G,K,wr⟩⟨hm,hb,a3,b8,hK,b7,hx⟩;have ca:=hL.top (n:=m) X;have cf:2 ^ m<=1048576:=Gb (n:=2) Bc (show m<=20 by omega);refine El (El (KW.region ?_));refine OW.val Z Z (EX.move Z) ?_;refine OW.val Z Z (EX.move Z) ?_;refine OW.val Z Z (DU Z) ?_;refine OW.val Z Z (Dw (off:=0) iy Z Z Ts Z Z) ?_;refine OW.val Z Z (KY (l:=[.slice (J ⟨D,y,Aa⟩) (Alz l) c]) sz Z Ts Z Z (fun j u hj=>hb.I (by cases j with|zero=>exact hj|succ j=>grind))) ?_;refine OW.call Z Z Z (kw l hn (J ⟨D,y,Aa⟩) c C wr (hs.a hx)) ?_;rintro _ w2⟨rfl,V⟩;refine(O 2) ?_;have al:=hb.a V;have o:=a3.a V;have x2:=hx.trans V;refine Zi (fun hc=>?_) fun hc=>?_
   .have b1:fst l (m+1)=2*(fst l m+Cz l m):=rfl;have ch:FX l (m+1)=FX l m+Cz l m:=rfl;have cj:=lN P m;have a9:=al.drew;obtain⟨A0,c0,rfl,_,_⟩:=o.slice;refine KW.skip (El (KW.block (El (KW.region ?_))));refine OW.val Z Z (EX.move Z) ?_;refine OW.val Z Z (Hv (s:=1) (p:=2) (m:=9223372036854775807) Z Z Bc Bc Z X) ?_;refine OW.val Z Z (HI Z) ?_;refine OW.nil ?_;refine El ?_;refine PR (N:=18) (fun w'=>∃F G,Bk w' tb 367 (Fq (.slice (J ⟨D,y,Aa⟩) (Alz l) c) (.slice A0 (Alz (Dt l m)) c0) F G K)) Bi Z ?_;have f:=show ∃F G,Bk w2.drew tb 367 (Fq (.slice (J ⟨D,y,Aa⟩) (Alz l) c) (.slice A0 (Alz (Dt l m)) c0) F G K)from⟨F,G,a9⟩;refine GW.val 0 Z Bi Bi Bi Z Z f (fun w' a=>EX.move Z) ?_;refine GW.val 1 Z Bi Bi Bi Z Z f (fun w' a=>EX.move Z) ?_;refine GW.val 2 Z Bi Bi Bi Z Z f (fun w' a=>EX.move Z) ?_;refine GW.val 3 Z Bi Bi Bi Z Z f (fun w' a=>EX.move Z) ?_;refine GW.val 4 Z Bi Bi Bi Z Z f (fun w' a=>EX.move Z) ?_;refine GW.val 5 Z Bi Bi Bi Z Z f (fun w' a=>EX.move Z) ?_;refine GW.val 6 Z Bi Bi Bi Z Z f (fun w' a=>DU Z) ?_;refine GW.val 7 Z Bi Bi Bi Z Z f (fun w' a=>Dw (off:=1) iy Z Z GY Z Z) ?_;refine GW.val 8 Z Bi Bi Bi Z Z f (fun w' a=>CV hU Z Z (by obtain⟨F',G',h⟩:=a;exact h.I Z)) ?_;refine GW.val 9 Z Bi Bi Bi Z Z f (fun w' a=>PN hU Z) ?_;refine GW.val 10 Z Bi Bi Bi Z Z f (fun w' a=>DU Z) ?_;refine GW.val 11 Z Bi Bi Bi Z Z f (fun w' a=>Dw (off:=2) iy Z Z Pz Z Z) ?_;refine GW.val 12 Z Bi Bi Bi Z Z f (fun w' a=>by first|exact LP iz BZ Z Z X|exact LQ iz BZ Z Z X) ?_;refine GW.val 14 Z Bi Bi Bi Z Z f (fun w' a=>DU Z) ?_;refine GW.val 15 Z Bi Bi Bi Z Z f (fun w' a=>Dw (off:=24) iy Z Z Pz Z Z) ?_;refine dy 13 Z Bi Z BZ Z Z (by first|rfl|assumption|exact Bn.one Ck) (a9) (by rw[VX];omega) ?_;rintro w3 aj bx;refine⟨⟨_,_,by rw[<-oM (show m+1<22 by omega)];exact aj⟩,fun f=>?_⟩;refine(Gv [16]) ?_;rw[oM (show m+1<22 by omega)]at aj;refine(Yt 17 aj (hlt:=by rw[VX];omega)) ?_;rintro w4 t bq;refine⟨⟨_,_,by rw[<-oL (show m+1<22 by omega)];exact t⟩,fun f=>?_⟩;refine(Yd∘O 6) ?_;rw[oL (show m+1<22 by omega)]at t;have a4:Mo w2 w4 [tb]:=((Mo.Akj (Be.drew w2) [tb]).trans bx).trans bq;have a1:=o.j a4 (fun q hq=>by simp;exact fun z=>o.ne al Bc q hq z.symm);have x4:Be w w4:=Bp x2 a4 x2.size Bv;have bl:=hL.top (n:=m+1) X;have cb:2 ^ (m+1)<=1048576:=Gb (n:=2) Bc (show m+1<=20 by omega)
    have bh:∀n,1<=n->n<=m+1->Ik F (m+1) ((fst l m+Cz l m)*2) n=fst l n/\Ik G (m+1) (Alz (Dt l m)) n=FX l n:=fun n h1 h2=>by
     unfold Ik;grind
    have bf:∀n,Ik F (m+1) ((fst l m+Cz l m)*2) n<=4194304:=fun n=>by
     unfold Ik;grind
    generalize cl:Ik F (m+1) ((fst l m+Cz l m)*2)=F2 at t bh bf;generalize ck:Ik G (m+1) (Alz (Dt l m))=G2 at t bh;have af:(fst l m+Cz l m)*2=fst l (m+1):=by rw[b1,Qb]
    have cc:=Vt l m;have bm:=Ot (show m<=20 by omega) (show Alz l<=258 from l3);refine(O 5∘Ct 6 (Bb (((fst l (m+1)+Alz (Gq l (m+1) 0)):Y):H)) (e:=by rw[af];rfl))<|Lo (fun((i,ov,K2,E):Y×Ah×(Y->Y)×Ad)=>(i<=Alz l/\Bk E tb 367 (Fq (.slice (J ⟨D,y,Aa⟩) (Alz l) c) ov F2 G2 K2)/\Bn E w.heap.size 3 1 ov (Alz (Dt l m++Gq l (m+1) i)) (BD .i64 (Dt l m++Gq l (m+1) i))/\(∀n,n<22->K2 n=if n<=m then Cz l n else if n=m+1 then Alz (Gq l (m+1) i)else 0)/\Be w E,[(5,.pointer (J ⟨tb,0,Aa⟩)),(6,Bb (((fst l (m+1)+Alz (Gq l (m+1) i)):Y):H)),(7,Bb (((m+1):Y):H)),(50,.slice (J ⟨D,y,Aa⟩) (Alz l) c),(51,Bb ((Alz l:Y):H)),(52,Bb i)],E,Alz l-i)) (0,(.slice A0 (Alz (Dt l m)) c0),K,w4) ?_ ?_
    .refine⟨BC _,t,by simpa[Gq]using a1,fun n h1=>?_,x4⟩;rw[hK n h1];split
     .rfl
     .split<;>rfl
    .rintro⟨i,ov,K2,E⟩⟨hi,ai,g,bc,S⟩;have d:=xV l (m+1) i;have ce:=jJ l (m+1) i hi;refine(O 5)<|Zi (fun k=>?_) fun k=>?_
     .rw[CG k]at d;have Q:=b5 E S i k;have bi:=a7 _ (BL k);generalize l[i]=x at d Q bi;refine(O 7∘Zv (BR Q)∘O 9)<|Zi (fun T=>?_) fun T=>?_
      .rw[Aj T]at d;have W:=jJ l (m+1) (i+1) k;rw[d,Bx,CL]at W
       have cg:Alz (Dt l m++Gq l (m+1) i)<=1000000:=by
        rw[Bx];have:Cz l (m+1)<=Alz l:=List.count_le_length;omega
       refine(O 8∘Hk S g) ?_;rintro _ v5 w5 L a2 b0 _;refine(O 2) ?_;have bb:=ai.push b0 (g.ne ai Bc);refine(Zt bb (hlt:=by rw[VX];omega)) ?_;rintro w6 b4 a6;refine(O 2) ?_;have r:Bk w6 tb 367 (Fq (.slice (J ⟨D,y,Aa⟩) (Alz l) c) v5 F2 G2 K2):=b4;have I:=L.j a6 (fun q hq=>by simp;exact fun z=>L.ne bb Bc q hq z.symm);have x6:Be w w6:=Bp a2 a6 a2.size Bv;have b6:K2 (m+1)=Alz (Gq l (m+1) i):=by rw[bc _ X,Ag X,Aj Z]
       have bd:=Tq (sv:=.slice (J ⟨D,y,Aa⟩) (Alz l) c) (ov:=v5) (F:=F2) (B:=G2) (C:=K2) (show m+1<22 by omega);rw[b6]at bd;refine Kk 10 Bi Bi<|HW.val Z Z (EX.move Z)<|HW.val Z Z (EX.move Z)<|HW.val Z Z (DU Z)<|HW.val Z Z (Dw (off:=46) iy Z Z Pz Z Z)<|HW.val Z Z (by first|exact LP iz BZ Z Z X|exact LQ iz BZ Z Z X)<|HW.val Z Z (CV io Z Z (r.drew.I bd))<|HW.val Z Z (by first|exact Tz (b:=1) (m:=9223372036854775807) Z Z Z X|exact TA (m:=9223372036854775807) Z Z Z Z X)<|HW.val Z Z (DU Z)<|HW.val Z Z (Dw (off:=46) iy Z Z Pz Z Z)<|HW.val Z Z (by first|exact LP iz BZ Z Z X|exact LQ iz BZ Z Z X)<|HW.tail<|(Zt r.drew (hlt:=by rw[VX];omega)) ?_;rintro w7 ba a5;refine(O 11) ?_;rw[Aid (show m+1<22 by omega)]at ba;refine(Ct 6 (Bb (((fst l (m+1)+Alz (Gq l (m+1) (i+1))):Y):H)) (e:=by rw[d,Bx,CL,Lk]))<|Lb ((i+1),v5,(Ik K2 (m+1) (Alz (Gq l (m+1) i)+1)),w7) ?_;have b9:=(I.a (Be.drew w6)).j a5 (fun q hq=>by simp;exact fun z=>I.ne r Bc q hq z.symm);have x7:Be w w7:=Bp (x6.trans (Be.drew w6)) a5 (x6.trans (Be.drew w6)).size Bv;refine⟨k,ba,?_,fun n h1=>?_,x7⟩
       .rw[d,<-Cq,<-KG,Bx (bs:=[i])];omega
       .unfold Ik;grind
      .rw[Ag T]at d;refine(O 6∘Ct 6 (Bb (((fst l (m+1)+Alz (Gq l (m+1) (i+1))):Y):H)) (e:=by rw[d]))<|Lb ((i+1),ov,K2,E) ?_;dsimp only;rw[d];exact⟨k,ai,g,bc,S⟩
     .obtain rfl:i=Alz l:=X;rw[Zm,<-ah]at*;refine(O 7)<|Lb ((m+1),ov,F2,G2,K2,E) ?_;grind
   .obtain rfl:m=Bz.longest l:=X;refine(O 7∘BF) ?_;refine⟨.inr ⟨b3,tb,Z,a8,ov,F,G,K,al,o,b8,fun n h1=>?_,b7⟩,x2⟩;rw[hK n h1];split
    .rfl
    .exact(fK X).symm
def Vs(l:Bj):∀m,(Dt l m).Nodup/\∀i∈Dt l m,i<Alz l/\1<=l.getD i 0/\l.getD i 0<=m
 |0=>by simp[Dt]
 |m+1=>by
  have ih:=Vs l m;rw[ah];refine⟨WS.2 ⟨ih.1,RR.filter _,fun a ha b hb e=>?_⟩,fun i hi=>?_⟩
  .subst e;have h3:=(ih.2 a ha).2;have h4:=AO (Km.1 hb).2;omega
  .rcases CW.1 hi with q|q
   .grind
   .have h3:=DX.1 (Km.1 q).1;have h4:=AO (Km.1 q).2;omega
def Aae{l:Bj}(h0:Cz l 0=0){m k:Y}(hk:k<Alz (Dt l m)):k=FX l (l.getD (Dt l m)[k] 0)+MG l (Dt l m)[k]:=by
 obtain⟨d,a⟩:=Vs l m;obtain⟨h,g,f⟩:=a _ (BL hk);obtain⟨i,e⟩:=Li.1 (ae h0 h g f);exact((MZ d).1 e).symm
def Hm(l:Bj):Bj:=(BE (Alz l)).map (KB l)
def fL{l:Bj}{i:Y}(h:i<Alz l):(Hm l).getD i 0=KB l i:=by
 unfold Hm;grind
def tO(l:Bj)(hL:LOk l)(h3:Alz l<=258)(h2:2<=Alz l)(tb B:Y)(A:Av AB)(c C:Y)(w:Ad)(ht:TabAt w B tb l (.slice A (Alz l) c))(hs:Sl w C A (BD .i64 l)):
 Bm eD 272 [.pointer (J ⟨tb,0,Aa⟩)] w fun v w'=>CT w' w.heap.size v (Hm l)/\Be w w':=by
 obtain⟨lo,ov,F,G,K,hb,j,a4,hK,a3⟩:=ht;have Q:=Vg hL;have af:=hL.Ale;have a:=(Vs l (Bz.longest l)).2;have f:=fun k hk=>Aae (m:=Bz.longest l) (k:=k) af hk;have P:=Vt l (Bz.longest l);have al:=Ot Q h3;have o:=fun i y h1 h2=>ae (l:=l) af (i:=i) (m:=Bz.longest l) y h1 h2;generalize Dt l (Bz.longest l)=od at j a f P o;obtain⟨oA,oc,rfl,_,ai⟩:=j.slice;obtain⟨ab,ao,rfl,_,a2⟩:=hs.Q X;refine Bw func272 Z ntmps272 Bi Z ?_;refine(O 12∘Gc) ?_;rintro rb w1 S aj E;refine(O 8) ?_;rw[show BH (Alz l) (Bb 0)=BD .i64 (BH (Alz l) 0)from(KF _ _ _).symm]at aj;refine(Zv (Bo (hb.a E))∘O 4)<|Lo (fun((k,t,wr):Y×(Bj)×Ad)=>(k<=Alz od/\Alz t=Alz l/\(∀q (hq:q<Alz od),q<k->t.getD (od[q]'hq) 0=KB l (od[q]'hq))/\Bk wr rb 3 (BD .i64 t)/\Be w wr,[(0,.pointer (J ⟨tb,0,Aa⟩)),(3,.slice (J ⟨rb,0,Aa⟩) (Alz l) (Alz l)),(17,.slice oA (Alz od) oc),(18,Bb ((Alz od:Y):H)),(19,Bb k)],wr,Alz od-k)) (0,(BH (Alz l) 0),w1) ?_ ?_
 .grind
 .rintro⟨k,t,wr⟩⟨hk,r,I,hr,x⟩;refine(O 5)<|Zi (fun T=>?_) fun T=>?_
  .obtain⟨pb,po,rfl,_,W⟩:=ai.Q X;obtain⟨f1,f2,f3⟩:=a _ (BL T);have N:=f k T;have p:=W wr x k T;have a1:=CG f1;have h:=a4 _ f2 f3;have d:KB l od[k]=fst l (l.getD od[k] 0)+MG l od[k]:=rfl;have g:=a2 wr x od[k] f1;rw[<-a1]at g;generalize a7:od[k]=i at p f1 f2 f3 N h d g;generalize l.getD i 0=n at f2 f3 N h d g;obtain⟨e1,e2⟩:=h;have a8:=a3 n;have V:=hb.a x;have D:n<22:=X;refine(O 7∘Zv (BR p)∘O 12∘Zv (BR g)∘O 2) ?_;refine Kk 18 Bi Bi<|HW.val Z Z (EX.move Z)<|HW.val Z Z (EX.move Z)<|HW.val Z Z (EX.move Z)<|HW.val Z Z (EX.move Z)<|HW.val Z Z (DU Z)<|HW.val Z Z (Dw (off:=2) iy Z Z Pz Z Z)<|HW.val Z Z (by first|exact LP iz BZ Z Z X|exact LQ iz BZ Z Z X)<|HW.val Z Z (CV io Z Z (V.drew.I (bI D)))<|HW.val Z Z (EX.move Z)<|HW.val Z Z (by first|exact Tz (m:=9223372036854775807) Z Z Z X|exact TA (m:=9223372036854775807) Z Z Z Z X)<|HW.val Z Z (EX.move Z)<|HW.val Z Z (EX.move Z)<|HW.val Z Z (DU Z)<|HW.val Z Z (Dw (off:=24) iy Z Z Pz Z Z)<|HW.val Z Z (by first|exact LP iz BZ Z Z X|exact LQ iz BZ Z Z X)<|HW.val Z Z (CV io Z Z (V.drew.I (oK D)))<|HW.val Z Z (by first|exact Kg (m:=9223372036854775807) Z Z Z X|exact RH (m:=9223372036854775807) Z Z Z Z X)<|HW.val Z Z (by first|exact KV hU BZ Z Z X|exact KX hU BZ Z Z X)<|HW.tail<|(Zt hr.drew (hlt:=by rw[DO];omega)) ?_;rintro w3 L a0;refine(O 6) ?_;rw[IA]at L;have a5:=E.size;refine Lb ((k+1),(t.set i (F n+k-G n)),w3) ?_;refine⟨T,Bf,fun q hq a6=>?_,L,Bp (x.trans (Be.drew wr)) a0 (x.trans (Be.drew wr)).size Bf⟩;obtain⟨g1,_,_⟩:=a _ (BL hq);rw[CG Bf,TS];by_cases e:i=od[q]
   .rw[Aj e,<-e,d,e1,e2];omega
   .rw[Ag e,<-CG];grind
  .obtain rfl:k=Alz od:=X;refine(O 6∘Bu) ?_
   have e:t=Hm l:=by
    apply MX (by rw[r];simp[Hm]);intro i h1 h4;have y:i<Alz l:=X;have hm:l.getD i 0∈l:=by rw[CG y];exact BL y
    obtain⟨q1,q2⟩:=Li.1 (o i y (hL.pos _ hm).1 (Vf hm));have h5:=I _ q1 q1;rw[q2,CG h1]at h5;rw[h5,<-fL y,CG h4]
   subst e;refine⟨?_,x⟩;unfold CT;rw[r];exact Bn.Akk hr S (by rw[DO,r,IX]) CB
def Aax(l:Bj)(hL:LOk l)(i:Alz l<=258)(h2:2<=Alz l)(A:Av AB)(c C:Y)(w:Ad)(h:Sl w C A (BD .i64 l)):
 Bm eD 235 [.slice A (Alz l) c] w fun v w'=>(∃u,v=.tuple #[u,Bb ((0:Y):H)]/\CT w' w.heap.size u (Hm l))/\Be w w':=by
 have g:GJ l=0:=Aj ⟨h2,i,hL⟩;have f:=kB l X (fun x m=>by have:=(hL.pos x m).2;omega) A c C w h;refine Bw func235 Z ntmps235 (by rfl) Z ?_;refine(O 8∘Zc f) ?_;rintro _ j⟨⟨o,rfl⟩|⟨_,k,rfl,n⟩,a⟩
 .exact AH g o
 refine(O 12∘Ci 12∘O 5∘Zc (tO l hL i h2 k w.heap.size A c C j n (h.a a))) ?_;rintro _ p⟨d,e⟩;refine(O 3∘BF) ?_;exact⟨⟨_,Z,Bn.l d a.size⟩,a.trans e⟩
end
section
attribute [local irreducible] EX
open Bz
open Classical in
def sy(l:Bj)(hL:LOk l)(h3:Alz l<=258)(x n i B:Y)(hx:x<=4194304)(hn:n<=21)(A:Av AB)(c C:Y)(w:Ad)(ht:TabAt w B i l (.slice A (Alz l) c))(W:Sl w C A (BD .i64 l)):
 Bm eD 279 [.pointer (J ⟨i,0,Aa⟩),Bb (x:H),Bb (n:H)] w fun v w'=>v=.bool (decide (Qm l x n))/\Be w w':=by
 obtain⟨lo,ov,F,G,K,hb,L,D,hK,y⟩:=ht;have P:=Vg hL;refine Bw func279 Z ntmps279 Bi Z ?_;refine(O 12)<|Lo (fun((m,wr):Y×Ad)=>(n<m/\m<=22/\(∀j,n<j->j<m->¬(j<=Bz.longest l/\0<Cz l j/\x*2 ^ (j-n)<fst l j+Cz l j))/\Be w wr,[(0,.pointer (J ⟨i,0,Aa⟩)),(1,Bb x),(2,Bb n),(7,Bb m)],wr,22-m)) ((n+1),w) ?_ ?_
 .exact⟨X,X,fun j h1 h2=>by omega,Be.refl _⟩
 .rintro⟨m,wr⟩⟨S,m2,k,d⟩;have h:=hb.a d;refine El (El (KW.region ?_));refine OW.val Z Z (EX.move Z) ?_;refine OW.val Z Z (EX.move Z) ?_;refine OW.val Z Z (DU Z) ?_;refine OW.val Z Z (Dw (off:=0) iy Z Z Ts Z Z) ?_;refine OW.val Z Z (KY (l:=[.slice A (Alz l) c]) sz Z Ts Z Z (fun j u hj=>h.I (by cases j with|zero=>exact hj|succ j=>grind))) ?_;refine OW.call Z Z Z (kw l X A c C wr (W.a d)) ?_;rintro _ w2⟨rfl,e⟩;refine(O 2) ?_;have f:=h.a e;refine Zi (fun t=>?_) fun t=>?_
  .have a:m<22:=X;have ab:=hK m a;obtain⟨e1,e2⟩:=D m X t;have af:=y m;have E:=hL.top (n:=m) X;have I:2 ^ m<=1048576:=Gb (n:=2) Bc (show m<=20 by omega);have p:2 ^ (m-n)<=1048576:=Gb (n:=2) Bc (show m-n<=20 by omega);have N:x*2 ^ (m-n)<=4194304*1048576:=Ot hx p;refine(O 10∘Zq (by exact fun _=>Bo (f.drewN _) (hi:=Tq a))∘O 2)<|Nh 26 (fun h0=>?_) fun h0=>?_
   .refine(O 4∘Zq (by exact fun _=>NZ (m:=9223372036854775807) Z Z (by show _<=64;omega) Z X)∘O 5∘Zq (by exact fun _=>Bo (f.drewN _) (hi:=bI a))∘O 5∘Zq (by exact fun _=>Bo (f.drewN _) (hi:=Tq a))∘O 3∘QW.nil) fun Q=>Zi (fun r=>?_) fun r=>?_
    .refine(O 4∘Bu) ?_;rw[AM (show Qm l x n from⟨m,t,S,X,X⟩)];exact⟨Z,(d.trans e).trans (Be.drewN _ _)⟩
    .refine(O 7)<|Lb ((m+1),_) ?_;refine⟨X,X,fun j g o q=>?_,(d.trans e).trans (Be.drewN _ _)⟩;rcases CM j m with z|z
     .exact k j g z q
     .grind
   .refine(O 20∘QW.nil) fun Q=>(O 8)<|Lb ((m+1),_) ?_;refine⟨X,X,fun j g o q=>?_,(d.trans e).trans (Be.drewN _ _)⟩;rcases CM j m with z|z
    .exact k j g z q
    .grind
  .refine(O 5∘Bu) ?_;rw[AN (show ¬Qm l x n from fun⟨j,g,o,V,T⟩=>k j o X ⟨g,V,T⟩)];exact⟨Z,d.trans e⟩
def SV{s:Bg}{p n:Y}(h:p+n<=8*Alz s):HZ s p n=(num (BT s p n),0,p+n):=Ag X
def eQ(l:Bj)(a:Y):∀d,FX l a<=FX l (a+d)
 |0=>Bq _
 |d+1=>by
  have:=eQ l a d;show _<=FX l (a+d)+_;omega
def XS{l:Bj}{n:Y}(h:0<Cz l n):n<=Bz.longest l:=by
 rcases CM (Bz.longest l) n with q|q
 .have:=fK q;omega
 .omega
open Classical in
def zQ(l:Bj)(s:Bg)(p f n c:Y):Pf l s p (f+1) n c=if 8*Alz s<=p+n then Aa else if Ms l (n+1) (2*c+(Cj s (p+n)).toNat)then J ((Dt l (Bz.longest l)).getD (FX l (n+1)+(2*c+(Cj s (p+n)).toNat-fst l (n+1))) 0,p+n+1)else if Qm l (2*c+(Cj s (p+n)).toNat) (n+1)then Pf l s p f (n+1) (2*c+(Cj s (p+n)).toNat)else Aa:=by rfl
open Classical in
def zu(l:Bj)(hL:LOk l)(h3:Alz l<=258)(s:Bg)(a7:Alz s<=1000000000)(p L B t D:Y)(hp:p<=8*Alz s)(A:Av AB)(c C:Y)(w:Ad)(ht:TabAt w B L l (.slice A (Alz l) c))(hs:Sl w C A (BD .i64 l))(hC:C<=D)(a0:C<=w.heap.size)(hr:RdAt w D t s p):
 Bm eD 252 [.pointer (J ⟨L,0,Aa⟩),.pointer (J ⟨t,0,Aa⟩)] w fun v w'=>((∃x q,Nz l s p=J (x,q)/\x<Alz l/\q<=8*Alz s/\v=.tuple #[Bb (x:H),Bb ((0:Y):H)]/\RdAt w' D t s q)∨(Nz l s p=Aa/\∃e:Y,ER e/\v=.tuple #[Bb ((0:Y):H),Bb (e:H)]))/\Tm w w' D Ia:=by
 have V:=Vg hL;have a1:=hL.Ale;refine Bw func252 Z ntmps252 Bi Z ?_;refine(O 14)<|Lo (fun((n,I,wr):Y×Y×Ad)=>(n<=20/\I<2 ^ n/\p+n<=8*Alz s/\Pf l s p (21-n) n I=Nz l s p/\RdAt wr D t s (p+n)/\Tm w wr D Ia,[(0,.pointer (J ⟨L,0,Aa⟩)),(1,.pointer (J ⟨t,0,Aa⟩)),(6,Bb I),(7,Bb (((n+1):Y):H))],wr,21-n)) (0,0,w) ?_ ?_
 .exact⟨BC _,Bc,hp,Z,hr,Tm.refl _ _ _⟩
 .rintro⟨n,I,wr⟩⟨n1,n2,n3,i,n5,tr⟩;obtain⟨f,hf⟩:∃f,21-n=f+1:=⟨20-n,X⟩;rw[hf,zQ]at i;have a2:2 ^ n<=1048576:=Gb (n:=2) Bc (show n<=20 by omega);have a8:2 ^ (n+1)=2*2 ^ n:=by rw[Kr];omega
  obtain⟨v0,e0,q0,aj,ab⟩:=LG s (p+n) 1;have c1:=LJ D t s (p+n) 1 Bc n3 X wr n5;rw[aj]at c1;refine(O 5∘Zc c1) ?_;rintro _ w2⟨rfl,r,t2⟩;refine(O 12) ?_;have a:=tr.trans t2;refine Zi (fun he=>?_) fun he=>?_
  .rcases ab with⟨h,rfl,rfl,rfl⟩|⟨h,rfl,rfl,rfl⟩
   .rw[Aj X]at i;refine(O 6∘BF) ?_;exact⟨.inr ⟨i.symm,10,⟨Bc,Bc⟩,Z⟩,a⟩
   .exact AH Z he
  .rcases ab with⟨h,rfl,rfl,rfl⟩|⟨h,rfl,rfl,rfl⟩
   .exact AH (show(10:Y)≠0 by decide) he
   .have e1:=SX (s:=s) (p:=p+n) X;rw[SV h]at e1;injection e1 with e1 _;rw[e1];rw[Ag X]at i;have bc:=PJ (Cj s (p+n));have S:=lM I (Cj s (p+n));obtain⟨lo,ov,F,G,K,hb,P,ai,hK,ao⟩:=ht.tm a Z Z;have bf:=ao (n+1);have bd:=hK (n+1) X;have k:n+1<22:=X;refine(O 4∘Zv (by exact Hv (s:=1) (p:=2) (m:=9223372036854775807) Z Z Bc Bc Z X)∘O 2∘Zv (by exact NY (m:=9223372036854775807) Z Z Z X)∘O 11) ?_;generalize ba:I*2|||(Cj s (p+n)).toNat=c2 at S ⊢;rw[<-S]at i;have a6:c2<=4194304:=X;refine(Zv (Bo hb (hi:=bI k))∘O 4)<|Lc (fun(d9:Ar)=>(d9=decide (Ms l (n+1) c2),[(0,.pointer (J ⟨L,0,Aa⟩)),(1,.pointer (J ⟨t,0,Aa⟩)),(6,Bb c2),(7,Bb (((n+1):Y):H)),(10,Bb (((c2:H)-(F (n+1):H)):H)),(54,.bool d9)],w2)) ?_ ?_
    .refine(O 6∘Zv (Bo hb (hi:=Tq k))∘O 2)<|Zd 41 (fun k1=>?_) fun k1=>?_
     .obtain⟨f1,f2⟩:=ai (n+1) X (XS X);refine(O 4)<|Zd 45 (fun k2=>?_) fun k2=>?_
      .refine(O 6∘Zv (Bo hb (hi:=Tq k))∘O 3∘Lm (decide ((c2:H)-(F (n+1):H)<(K (n+1):H)))) ?_;rw[decide_eq_decide];unfold Ms;omega
      .refine(O 10∘Lm Ai) ?_;refine(AN fun q=>?_).symm;unfold Ms at q;omega
     .refine(O 14∘Lm Ai) ?_;refine(AN fun q=>?_).symm;unfold Ms at q;omega
    .rintro d9 rfl;refine Zi (fun g=>?_) fun g=>?_
     .obtain⟨q1,q2,q3⟩:=id g;obtain⟨f1,f2⟩:=ai (n+1) X (XS q1);have a3:=lN a1 (Bz.longest l);have al:=eQ l (n+1+1) (Bz.longest l+1-(n+1+1));have a9:=XS q1;rw[show n+1+1+(Bz.longest l+1-(n+1+1))=Bz.longest l+1 by omega]at al;have bb:FX l (n+1+1)=FX l (n+1)+Cz l (n+1):=rfl;rw[Aj g]at i;have o:FX l (n+1)+(c2-fst l (n+1))<Alz (Dt l (Bz.longest l)):=X;have j:=(Vs l (Bz.longest l)).2 _ (BL o);rw[CG o]at i;obtain⟨oA,oc,rfl,_,Q⟩:=P.slice;obtain⟨ob,oo,rfl,_,T⟩:=Q.Q X;have d:=fun W hW=>T W hW _ o;generalize(Dt l (Bz.longest l))[FX l (n+1)+(c2-fst l (n+1))]=x at i j d;have a5:=Vt l (Bz.longest l);have a4:=Ot V h3;rw[<-f1,<-f2]at o d;refine(Ct 10 (Bb (((c2-F (n+1)):Y):H)) (e:=by exact AF (Value.int .i64) X)∘O 5∘Zq (by exact fun _=>Bo (hb.drewN _))∘O 5∘Zq (by exact fun _=>Bo (hb.drewN _) (hi:=oK k))∘O 3∘Zq (by exact fun _=>BR (d _ (Be.drewN w2 _)))∘O 2∘QW.nil) fun nq=>(BF) ?_;exact⟨.inl ⟨x,p+n+1,i.symm,j.1,h,Z,r.a (Be.drewN _ _)⟩,a.trans (Tm.Akj (Be.drewN _ _) _ _)⟩
     .rw[Ag g]at i;have N:=hs.below (a.below (Below.refl C w) a0 hC);refine(O 6∘Zc (sy l hL h3 c2 (n+1) L B X X A c C w2 (ht.tm a Z Z) N)) ?_;rintro _ w3⟨rfl,y⟩;refine(O 2)<|Zi (fun E=>?_) fun E=>?_
      .rw[Ag E]at i;refine(O 5∘BF) ?_;exact⟨.inr ⟨i.symm,90,⟨Bc,Bc⟩,Z⟩,a.trans (Tm.Akj y _ _)⟩
      .have af:=Dd.1 E;rw[Aj af]at i;obtain⟨m,m1,m2,_,_⟩:=af;refine(O 7)<|Lb ((n+1),c2,w3) ?_;refine⟨X,X,h,?_,r.a y,a.trans (Tm.Akj y _ _)⟩;grind
def rW{l:Bj}{s:Bg}{fin:Y}:∀(k p:Y) (xs:Bj) (q:Y),Gm l s fin (k+1) p=J (xs,q)->xs≠[]
 |k,p,xs,q,h=>by
  rw[Gm]at h;split at h
  .grind
  .split at h
   .grind
   .obtain⟨r,_,e⟩:=Nc.1 h;grind
def rX(l:Bj)(s:Bg)(a k p:Y):Gm l s a (k+1) p=match Nz l s p with
 |none=>Aa
 |some (x,q)=>if x=a then J ([x],q)else(Gm l s a k q).map fun r=>(x::r.1,r.2):=by rfl
def zv(l:Bj)(hL:LOk l)(h3:Alz l<=258)(s:Bg)(hsl:Alz s<=1000000000)(p tb B rb D:Y)(hp:p<=8*Alz s)(A:Av AB)(c C:Y)(w:Ad)(ht:TabAt w B tb l (.slice A (Alz l) c))(hs:Sl w C A (BD .i64 l))(hC:C<=D)(hCs:C<=w.heap.size)(hr:RdAt w D rb s p):
 Bm eD 252 [.pointer (J ⟨tb,0,Aa⟩),.pointer (J ⟨rb,0,Aa⟩)] w fun v w'=>(∃x e:Y,v=.tuple #[Bb (x:H),Bb (e:H)]/\((e=0/\∃q,Nz l s p=J (x,q)/\x<Alz l/\q<=8*Alz s/\RdAt w' D rb s q)∨(ER e/\Nz l s p=Aa)))/\Tm w w' D Ia:=
 (zu l hL h3 s hsl p tb B rb D hp A c C w ht hs hC hCs hr).mono Bf
def all_s(l:Bj)(hL:LOk l)(h3:Alz l<=258)(h2:2<=Alz l)(s:Bg)(ai:Alz s<=1000000000)(p a:Y)(hp:p<=8*Alz s)(a6:a<=1000)(A:Av AB)(c C:Y)(w:Ad)(T:C<=w.heap.size)(hs:Sl w C A (BD .i64 l)):
 Bm eD 205 [.slice A (Alz l) c,str s,Bb (p:H),Bb 50,Bb (a:H)] w fun v w'=>((∃u xs q,Gm l s a 50 p=J (xs,q)/\xs≠[]/\Alz xs<=50/\(∀x∈xs,x<Alz l)/\q<=8*Alz s/\v=.tuple #[u,Bb (q:H),Bb ((0:Y):H)]/\CT w' w.heap.size u xs)∨(Gm l s a 50 p=Aa/\∃e:Y,ER e/\v=.tuple #[.slice Aa 0 0,Bb ((0:Y):H),Bb (e:H)]))/\Be w w':=by
 have a7:GJ l=0:=Aj ⟨h2,h3,hL⟩;have a4:=kB l X (fun x hx=>by have:=(hL.pos x hx).2;omega) A c C w hs;refine Bw Bh Z ntmps205 (by rfl) Z ?_;refine(O 9∘Zc a4) ?_;rintro _ L⟨⟨hq,rfl⟩|⟨_,tb,rfl,ht⟩,g⟩
 .omega
 refine(O 12∘Ci 25∘O 6∘Zc (Pc s p hp X _)) ?_;rintro _ i⟨G,rfl,ao,P⟩;refine(O 8) ?_;refine OW.as 32 _ Z (Z)<|(O 4)<|Zi (fun a3=>?_) fun a3=>?_
 .omega
 .have hD:=BA T g.size;have n:=g.trans P;refine(O 6) ?_;have af:=ht.a P;have aj:=hs.a n;have ab:=n.size;refine Lc (fun((q,o,t,wr))=>(Gm l s a 50 p=J (o,q)/\Alz o<=50/\(∀x∈o,x<Alz l)/\q<=8*Alz s/\RdAt wr L.heap.size G s q/\Bn wr i.heap.size 3 1 t (Alz o) (BD .i64 o)/\Be w wr,[(15,.pointer (J ⟨G,0,Aa⟩)),(16,t)],wr)) ?_ ?_
  .refine(O 1)<|Lo (fun((q,o,t,wr))=>(Alz o<=50/\(∀x∈o,x<Alz l)/\q<=8*Alz s/\(Gm l s a (50-Alz o) q).map (fun r=>(o++r.1,r.2))=Gm l s a 50 p/\RdAt wr L.heap.size G s q/\Bn wr i.heap.size 3 1 t (Alz o) (BD .i64 o)/\Tm i wr L.heap.size Ia,[(3,Bb ((50:Y))),(4,Bb a),(13,.pointer (J ⟨tb,0,Aa⟩)),(15,.pointer (J ⟨G,0,Aa⟩)),(16,t)],wr,50-Alz o)) (p,([]),(.slice _ 0 0),i) ?_ ?_
   .refine⟨BC _,Bh,hp,?_,ao,Bn.nil _ _ _ _,Tm.refl _ _ _⟩;simp
   .rintro⟨q,o,t,wr⟩⟨o1,o2,q1,I,al,j,tr⟩;obtain⟨A0,c0,rfl,_,_⟩:=j.slice;have hx:Be w _:=tr.below n X g.size;refine(O 8)<|Zi (fun hc=>?_) fun hc=>?_
    .obtain⟨k,hk⟩:∃k,50-Alz o=k+1:=⟨49-Alz o,X⟩;rw[hk,rX]at I;have a2:=zv l hL h3 s ai q tb w.heap.size G L.heap.size q1 A c C wr (af.tm tr Z Z) (aj.below (tr.below (Below.refl C i) X hD)) hD (BA T hx.size) al;refine(O 6∘Zc a2) ?_;rintro _ w3⟨⟨x,e,rfl,h⟩,t3⟩;refine(O 12) ?_;have B:=tr.trans t3;have x3:Be w w3:=B.below n n.size g.size;refine Zi (fun E=>?_) fun E=>?_
     .rcases h with⟨rfl,_⟩|⟨W,V⟩
      .exact AH Z E
      .refine(O 7∘Cy) ?_;grind
     .rcases h with⟨rfl,q2,V,x9,q9,a1⟩|⟨W,V⟩
      .rw[V]at I;simp only at I;have f:=t3.y j Z;refine(O 5∘Qk i.heap.size B.size f) ?_;rintro _ v4 K d Q a5;refine(O 8) ?_;replace d:Bn K i.heap.size 3 1 v4 (Alz o+1) (BD .i64 o++[Bb (x:H)]):=d;rw[KG]at d;have D:Bn K i.heap.size 3 1 v4 (Alz (o++[x])) (BD .i64 (o++[x])):=by rwa[Bx]
       have N:=B.fresh Q (fun q hq=>(f.lt q (FG.1 hq)).1);have a0:=a1.tm (Tm.Akw f Q) Z Z;have x4:Be w K:=N.below n n.size g.size
       have S:∀y∈o++[x],y<Alz l:=fun y hy=>by
        grind
       refine Zi (fun m=>?_) fun m=>?_
       .refine(O 1∘Lm (q2,(o++[x]),v4,K)) ?_;grind
       .rw[Ag m]at I;refine(O 2)<|Lb (q2,(o++[x]),v4,K) ?_ (hm:=by dsimp only;rw[Bx,CL];omega);refine⟨by rw[Bx,CL];omega,S,q9,?_,a0,D,N⟩;rw[<-I,Bx,CL,show 50-(Alz o+1)=k by omega];show _=((Gm l s a k q2).map fun r=>(x::r.1,r.2)).map fun r=>(o++r.1,r.2)
        rw[Option.map_map];congr 1;grind
      .exact AH (Dd.1 E) (by have:=W.1;omega)
    .have:50-Alz o=0:=X;rw[this,Gm]at I;refine(O 1∘Lm (q,o,_,wr)) ?_;grind
  .rintro⟨q,o,t,wr⟩⟨W,V,e3,e4,e5,e6,e7⟩;obtain⟨A0,c0,rfl,_,_⟩:=e6.slice;refine(O 4∘Zc (SU L.heap.size G s q wr e5)) ?_;rintro _ _⟨rfl,rfl⟩;refine(O 4∘Cy) ?_;exact⟨.inl ⟨_,o,q,W,rW 49 p o q W,V,e3,e4,Z,Bn.l e6 ab⟩,e7⟩
end
section
attribute [local irreducible] EX
open Bz
def uj{now x:Y}(h:now<x):HA now x=[Af,Ai]++HA (now+1) x:=by
 unfold HA;rw[show x-now=(x-(now+1))+1 by omega,show now-x=0 by omega,show now+1-x=0 by omega,JC,PS];simp
def uf{now x:Y}(h:x<now):HA now x=[Af,Af]++HA (now-1) x:=by
 unfold HA;rw[show now-x=(now-1-x)+1 by omega,show x-now=0 by omega,show x-(now-1)=0 by omega,JC,PS];simp
def ui(x:Y):HA x x=[Ai]:=by simp[HA]
def uh{now x:Y}(h1:now<=20)(h2:x<=20):Alz (HA now x)<=41:=by
 unfold HA;simp;omega
def fW:∀(l:Bj) (now:Y),now<=20->(∀x∈l,x<=20)->Alz (HS now l)<=41*Alz l
 |[],_,_,_=>by simp[HS]
 |x::l,now,h1,h2=>by
  have hx:=h2 x Bh;have:=uh h1 hx;have:=fW l x hx (fun y hy=>h2 y Bf);rw[HS,Bx,CF];omega
def UK{l:Bj}(h:∀x∈l,x<=20)(h0:l≠[]):Alz (dShow l)<=5+41*Alz l:=by
 unfold dShow;cases l with
 |nil=>grind
 |cons x r=>
  rw[Bx,nb_length];have:=fW (x::r) x (h x Bh) h;grind
def uV(l:Bj)(h2:2<=Alz l)(h3:Alz l<=258)(E:∀x∈l,1<=x/\x<=20)(A:Av AB)(c C:Y)(w:Ad)(hs:Sl w C A (BD .i64 l)):
 Bm eD 233 [.slice A (Alz l) c] w fun v w'=>v=.tuple #[.agg (Ee (dShow l)).toArray,Bb ((0:Y):H)]/\Be w w':=by
 obtain⟨b,f,rfl,_,L⟩:=hs.Q X;have a0:=UK (fun x o=>(E x o).2) (fun e=>by grind);have d:Alz (dShow l)<=20000:=X;refine Bw func233 Z ntmps233 Bi Z ?_;refine(O 2∘Zn) ?_;rintro q n al ai t;refine(O 4)<|Lc (fun(d1:Ar)=>(d1=Ai,[(0,.slice (J ⟨b,f,Aa⟩) (Alz l) c),(2,.pointer (J ⟨q,0,Aa⟩)),(17,.bool d1)],n)) ?_ ?_
 .refine(O 5)<|Zd 13 (fun c1=>?_) fun c1=>?_
  .omega
  .refine(O 5∘Lm (decide (Alz l>258))) ?_;exact AN X
 .rintro d1 rfl;refine(O 10)<|Lo (fun(i:Y)=>(i<=Alz l,[(0,.slice (J ⟨b,f,Aa⟩) (Alz l) c),(2,.pointer (J ⟨q,0,Aa⟩)),(19,.slice (J ⟨b,f,Aa⟩) (Alz l) c),(20,Bb ((Alz l:Y):H)),(21,Bb i)],n,Alz l-i)) 0 ?_ ?_
  .simp
  .rintro i hi;refine(O 5)<|Zi (fun hc=>?_) fun hc=>?_
   .have y:=E _ (BL hc);have k:=L n t i hc;generalize l[i]=x at y k;refine(O 6∘Zv (BR k)∘O 3)<|Lc (fun(d6:Ar)=>(d6=Ai,[(0,.slice (J ⟨b,f,Aa⟩) (Alz l) c),(2,.pointer (J ⟨q,0,Aa⟩)),(19,.slice (J ⟨b,f,Aa⟩) (Alz l) c),(20,Bb ((Alz l:Y):H)),(21,Bb i),(30,.bool d6)],n)) ?_ ?_
    .refine(O 4)<|Zd 27 (fun c1=>?_) fun c1=>?_
     .omega
     .refine(O 4∘Lm (decide (x>20))) ?_;exact AN X
    .rintro d6 rfl;refine(O 7)<|Lb (i+1) ?_;omega
   .have h0:0<Alz l:=X;have Q:=E _ (BL h0)
    have HU:dShow l=nb 5 l[0]++HS l[0] l:=by
     cases l with
     |nil=>grind
     |cons a r=>rfl
    have p:=fun W g=>L W g 0 h0;generalize l[0]=x0 at Q HU p;refine(O 3∘Zc (Pd n)) ?_;rintro _ w1⟨m,rfl,T,P⟩;refine(O 7) ?_;have x1:=t.trans P;have af:=ai.a P;refine(Zv (BR (p w1 x1))∘O 1∘Zc (GU n.heap.size m [] x0 5 X Bc (show x0<2 ^ 5 by omega) Bc w1 T)) ?_;rintro _ w2⟨rfl,S,t2⟩;refine(O 5) ?_;have x2:Be w w2:=t2.below x1 x1.size t.size;have ao:=t2.bk af Z;rw[EW]at S;refine(Zv (BR (p w2 x2))∘O 10)<|Lo (fun((i,now,W,wr):Y×Y×(Ae Ar)×Ad)=>(i<=Alz l/\1<=now/\now<=20/\W++HS now (l.drop i)=dShow l/\FH wr n.heap.size m W/\Bk wr q 226 [str [],Bb 0]/\Be w wr,[(0,.slice (J ⟨b,f,Aa⟩) (Alz l) c),(2,.pointer (J ⟨q,0,Aa⟩)),(6,.pointer (J ⟨m,0,Aa⟩)),(7,Bb now),(43,.slice (J ⟨b,f,Aa⟩) (Alz l) c),(44,Bb ((Alz l:Y):H)),(45,Bb i)],wr,Alz l-i)) (0,x0,(nb 5 x0),w2) ?_ ?_
    .grind
    .rintro⟨i,now,W,wr⟩⟨i1,n1,n2,g,h,I,o⟩;refine(O 5)<|Zi (fun D=>?_) fun D=>?_
     .have y:=E _ (BL D);have k:=L wr o i D;rw[DD D,HS]at g;generalize l[i]=x at y k g;generalize K:HS x (l.drop (i+1))=rest at g;refine(O 6∘Zv (BR k)∘O 3)<|Lc (fun((now,W,wr):Y×(Ae Ar)×Ad)=>(x<=now/\now<=20/\W++(HA now x++rest)=dShow l/\FH wr n.heap.size m W/\Bk wr q 226 [str [],Bb 0]/\Be w wr,[(0,.slice (J ⟨b,f,Aa⟩) (Alz l) c),(2,.pointer (J ⟨q,0,Aa⟩)),(6,.pointer (J ⟨m,0,Aa⟩)),(7,Bb now),(9,Bb x),(43,.slice (J ⟨b,f,Aa⟩) (Alz l) c),(44,Bb ((Alz l:Y):H)),(45,Bb i)],wr)) ?_ ?_
      .refine(O 1)<|Lo (fun((now,W,wr):Y×(Ae Ar)×Ad)=>(now<=20/\W++(HA now x++rest)=dShow l/\FH wr n.heap.size m W/\Bk wr q 226 [str [],Bb 0]/\Be w wr,[(0,.slice (J ⟨b,f,Aa⟩) (Alz l) c),(2,.pointer (J ⟨q,0,Aa⟩)),(6,.pointer (J ⟨m,0,Aa⟩)),(7,Bb now),(9,Bb x),(43,.slice (J ⟨b,f,Aa⟩) (Alz l) c),(44,Bb ((Alz l:Y):H)),(45,Bb i)],wr,x-now)) (now,W,wr) ?_ ?_
       .grind
       .rintro⟨now,W,wr⟩⟨n2,g,h,I,o⟩;refine(O 7)<|Zi (fun B=>?_) fun B=>?_
        .rw[uj B]at g;have V:Alz W<=20000:=by rw[<-g]at d;rw[Bx]at d;omega
         refine(O 5∘Zc (GU n.heap.size m W 2 2 Bc Bc Bc X wr h)) ?_;rintro _ N⟨rfl,j,G⟩;refine(O 7)<|Lb ((now+1),(W++nb 2 2),N) ?_;exact⟨X,by rw[<-g];simp[show nb 2 2=[Af,Ai]from Z],j,G.bk I Z,G.below o o.size t.size⟩
        .refine(O 1∘Lm (now,W,wr)) ?_;grind
      .rintro⟨now,W,wr⟩⟨n1,n2,g,h,I,o⟩;refine(O 1)<|Lc (fun((W,wr):(Ae Ar)×Ad)=>(W++(HA x x++rest)=dShow l/\FH wr n.heap.size m W/\Bk wr q 226 [str [],Bb 0]/\Be w wr,[(0,.slice (J ⟨b,f,Aa⟩) (Alz l) c),(2,.pointer (J ⟨q,0,Aa⟩)),(6,.pointer (J ⟨m,0,Aa⟩)),(7,Bb x),(9,Bb x),(43,.slice (J ⟨b,f,Aa⟩) (Alz l) c),(44,Bb ((Alz l:Y):H)),(45,Bb i)],wr)) ?_ ?_
       .refine(O 1)<|Lo (fun((now,W,wr):Y×(Ae Ar)×Ad)=>(x<=now/\now<=20/\W++(HA now x++rest)=dShow l/\FH wr n.heap.size m W/\Bk wr q 226 [str [],Bb 0]/\Be w wr,[(0,.slice (J ⟨b,f,Aa⟩) (Alz l) c),(2,.pointer (J ⟨q,0,Aa⟩)),(6,.pointer (J ⟨m,0,Aa⟩)),(7,Bb now),(9,Bb x),(43,.slice (J ⟨b,f,Aa⟩) (Alz l) c),(44,Bb ((Alz l:Y):H)),(45,Bb i)],wr,now-x)) (now,W,wr) ?_ ?_
        .grind
        .rintro⟨now,W,wr⟩⟨n1,n2,g,h,I,o⟩;refine(O 7)<|Zi (fun B=>?_) fun B=>?_
         .rw[uf B]at g;have V:Alz W<=20000:=by rw[<-g]at d;rw[Bx]at d;omega
          refine(O 5∘Zc (GU n.heap.size m W 3 2 Bc Bc Bc X wr h)) ?_;rintro _ N⟨rfl,j,G⟩;refine(O 7)<|Lb ((now-1),(W++nb 2 3),N) ?_;exact⟨X,X,by rw[<-g];simp[show nb 2 3=[Af,Af]from Z],j,G.bk I Z,G.below o o.size t.size⟩
         .obtain rfl:now=x:=X;refine(O 1∘Lm (W,wr)) ?_;grind
       .rintro⟨W,wr⟩⟨g,h,I,o⟩;rw[ui]at g;have V:Alz W<=20000:=by rw[<-g]at d;rw[Bx]at d;omega
        refine(O 2∘Zc (GU n.heap.size m W 0 1 Bc Bc Bc X wr h)) ?_;rintro _ N⟨rfl,j,G⟩;refine(O 6)<|Lb ((i+1),x,(W++nb 1 0),N) ?_;exact⟨D,y.1,y.2,by rw[K,<-g];simp[show nb 1 0=[Ai]from Z],j,G.bk I Z,G.below o o.size t.size⟩
     .obtain rfl:i=Alz l:=X;rw[IS,HS,List.append_nil]at g;subst g;refine(O 4∘Zc (NS n.heap.size m _ wr h)) ?_;rintro _ _⟨rfl,rfl⟩;refine(O 1∘Zc (MS n.heap.size m _ wr h)) ?_;rintro _ _⟨rfl,rfl⟩;refine(O 1∘Zs I) ?_;rintro w7 ab aj;refine(O 2) ?_;have x7:Be w w7:=Bp o aj o.size Bf;refine(Dx ab) ?_;grind
def Yu(g a D:Y)(s:Bg)(p n:Y)(l:n<=30)(k:p<=8*Alz s)(t:Alz s<=1000000000)(w:Ad)(x:Bk w g 253 [.pointer (J ⟨a,0,Aa⟩)])(j:RdAt w D a s p):
 Bm eD 249 [Bb (n:H),.pointer (J ⟨g,0,Aa⟩)] w fun v w'=>v=.tuple #[Bb (((HZ s p n).1:Y):H),Bb (((HZ s p n).2.1:Y):H)]/\RdAt w' D a s (HZ s p n).2.2/\Tm w w' D Ia:=by
 have i:=LJ D a s p n X k X w j
 have m:(HZ s p n).1<=1073741824:=by
  obtain⟨v,e,q,f,d⟩:=LG s p n;rw[f];rcases d with⟨_,h,_⟩|⟨_,h,_⟩
  .omega
  .rw[h];have A:=Ky s p n;have y:2 ^ n<=1073741824:=Gb (n:=2) Bh l;omega
 generalize HZ s p n=r at i m ⊢;obtain⟨v,e,q⟩:=r;refine Bw func249 Z ntmps249 (by rfl) Z ?_;refine(O 9∘Zc i) ?_;rintro _ o⟨rfl,f,d⟩;refine(O 14∘BF) ?_;grind
def XW(s:Bg)(f p k now:Y)(a:Bj):Fy s (f+1) p (k+1) now a=if now<1∨20<now then Aa else if 8*Alz s<=p then Aa else if Cj s p=Ai then Fy s f (p+1) k now (a++[now])else if 8*Alz s<=p+1 then Aa else Fy s f (p+2) (k+1) (if Cj s (p+1)then now-1 else now+1) a:=by rfl
def fZ(s:Bg)(p k now:Y)(a:Bj):Fy s 0 p (k+1) now a=Aa:=by rfl
def uk(s:Bg)(f p now:Y)(a:Bj):Fy s f p 0 now a=J (a,p):=by rw[Fy]
def uY(s:Bg)(p n:Y)(hp:p<=8*Alz s)(hn:2<=n/\n<=258)(hs:Alz s<=1000000000)(w:Ad):
 Bm eD 202 [str s,Bb (p:H),Bb (n:H)] w fun v w'=>(∃u t,∃q e:Y,v=.tuple #[u,Bb (q:H),Bb (e:H)]/\CT w' w.heap.size u t/\((e=0/\JN s p n=J (t,q)/\Alz t=n/\(∀x∈t,1<=x/\x<=20)/\q<=8*Alz s)∨(ER e/\JN s p n=Aa)))/\Be w w':=by
 obtain⟨bf,bd⟩:=hn;obtain⟨v0,e0,q0,a8,a0⟩:=LG s p 5;refine Bw func202 Z ntmps202 (by rfl) Z ?_;refine(O 11∘Zc (Pc s p hp X w)) ?_;rintro _ w1⟨Q,rfl,a4,T⟩;refine(Mf) ?_;rintro r w2 bb y D;refine(Zt y) ?_;rintro w3 al ai;refine(O 3) ?_;have x2:=T.trans D;have bc:=T.size;have x3:Be w w3:=Bp x2 ai x2.size Bv;have y3:Be w1 w3:=Bp D ai D.size Bv;have V:=a4.a y3;refine Lc (fun(d2:Ar)=>(d2=Ai,[(2,Bb n),(9,.pointer (J ⟨r,0,Aa⟩)),(29,.bool d2)],w3)) ?_ ?_
 .refine(O 4) ?_;refine OW.as 22 (.bool Ai) Z (Z)<|(O 4)<|Zd 26 (fun c2=>?_) fun c2=>?_
  .omega
  .refine(O 4∘Lm (decide (n>258))) ?_;grind
 .rintro d2 rfl;refine(O 4∘Zv (by exact FZ Z Z)∘O 5) ?_;have c1:=Yu r Q w.heap.size s p 5 Bc hp hs w3 al V;rw[a8]at c1;refine(Ea c1) ?_;rintro _ A⟨rfl,a5,t4⟩;refine(O 12) ?_;have m:Be w A:=t4.below x3 x3.size (Bq _);refine Zi (fun he=>?_) fun he=>?_
  .rcases a0 with⟨h,rfl,rfl,rfl⟩|⟨h,rfl,rfl,rfl⟩
   .refine(O 7∘Cy) ?_;exact⟨⟨_,[],0,10,Z,CT.nil _ _,.inr ⟨⟨Bc,Bc⟩,Aj h⟩⟩,m⟩
   .exact AH Z he
  .rcases a0 with⟨h,rfl,rfl,rfl⟩|⟨h,rfl,rfl,rfl⟩
   .exact AH (show(10:Y)≠0 by decide) he
   .have aj:JN s p n=Fy s (8*Alz s-(p+5)) (p+5) n (num (BT s p 5)) []:=Ag X;have ba:=Ky s p 5;generalize num (BT s p 5)=now0 at aj ba;have K:=t4.bk al Z;have a3:=m.size;refine(O 9)<|Lo (fun((q,now,o,vo,f,wr):Y×Y×(Bj)×Ah×Y×Ad)=>(Alz o<=n/\now<=32/\(∀x∈o,1<=x/\x<=20)/\q<=8*Alz s/\8*Alz s<=f+q/\Fy s f q (n-Alz o) now o=JN s p n/\RdAt wr w.heap.size Q s q/\Bn wr A.heap.size 3 1 vo (Alz o) (BD .i64 o)/\Tm A wr w.heap.size Ia,[(2,Bb n),(9,.pointer (J ⟨r,0,Aa⟩)),(10,.func (.func 249) #[] #[.pointer (J ⟨r,0,Aa⟩)]),(11,Bb now),(13,vo)],wr,n-Alz o)) ((p+5),now0,([]),(.slice Aa 0 0),(8*Alz s-(p+5)),A) ?_ ?_
    .exact⟨BC _,X,Bh,h,X,aj.symm,a5,Bn.nil _ _ _ _,Tm.refl _ _ _⟩
    .rintro⟨q,now,o,vo,f,wr⟩⟨o1,n1,o2,q1,f1,a,E,g,P⟩;obtain⟨A0,c0,rfl,_,_⟩:=g.slice;refine(O 8)<|Zi (fun hc=>?_) fun hc=>?_
     .obtain⟨k,hk⟩:∃k,n-Alz o=k+1:=⟨n-Alz o-1,X⟩;rw[hk]at a;refine(O 3)<|Lo (fun((q,now,f,wr):Y×Y×Y×Ad)=>(now<=32/\q<=8*Alz s/\8*Alz s<=f+q/\Fy s f q (k+1) now o=JN s p n/\RdAt wr w.heap.size Q s q/\Bn wr A.heap.size 3 1 (.slice A0 (Alz o) c0) (Alz o) (BD .i64 o)/\Tm A wr w.heap.size Ia,[(2,Bb n),(9,.pointer (J ⟨r,0,Aa⟩)),(10,.func (.func 249) #[] #[.pointer (J ⟨r,0,Aa⟩)]),(11,Bb now),(13,.slice A0 (Alz o) c0)],wr,8*Alz s-q)) (q,now,f,wr) ?_ ?_
      .grind
      .rintro⟨q,now,f,wr⟩⟨n1,q1,f1,a,E,g,P⟩;have xr:Be w wr:=P.below m m.size (Bq _);refine(O 3)<|Lc (fun(N:Ar)=>(N=decide (now<1∨20<now),[(2,Bb n),(9,.pointer (J ⟨r,0,Aa⟩)),(10,.func (.func 249) #[] #[.pointer (J ⟨r,0,Aa⟩)]),(11,Bb now),(13,.slice A0 (Alz o) c0),(48,.bool N)],wr)) ?_ ?_
       .refine(O 4)<|Zd 45 (fun c1=>?_) fun c1=>?_
        .refine(O 4∘Lm Af) ?_;grind
        .refine(O 4∘Lm (decide (now>20))) ?_;grind
       .rintro N rfl;refine Zi (fun i=>?_) fun i=>?_
        .have G:JN s p n=Aa:=by
          rw[<-a];cases f with
          |zero=>exact fZ ..
          |succ f=>rw[XW,Aj i]
         refine(O 6∘Cy) ?_;exact⟨⟨_,[],0,80,Z,CT.nil _ _,.inr ⟨⟨Bc,Bc⟩,G⟩⟩,xr⟩
        .obtain⟨v1,e1,q2,a7,ao⟩:=LG s q 1;have cc:=Yu r Q w.heap.size s q 1 Bc q1 hs wr (P.bk K Z) E;rw[a7]at cc;refine(O 4∘Ea cc) ?_;rintro _ w5⟨rfl,ab,t5⟩;refine(O 12) ?_;have j:=P.trans t5;have x5:Be w w5:=j.below m m.size (Bq _);refine Zi (fun I=>?_) fun I=>?_
         .rcases ao with⟨h1,rfl,rfl,rfl⟩|⟨h1,rfl,rfl,rfl⟩
          .have G:JN s p n=Aa:=by
            rw[<-a];cases f with
            |zero=>exact fZ ..
            |succ f=>rw[XW,Ag i,Aj X]
           refine(O 7∘Cy) ?_;exact⟨⟨_,[],0,10,Z,CT.nil _ _,.inr ⟨⟨Bc,Bc⟩,G⟩⟩,x5⟩
          .exact AH Z I
         .rcases ao with⟨h1,rfl,rfl,rfl⟩|⟨h1,rfl,rfl,rfl⟩
          .exact AH (show(10:Y)≠0 by decide) I
          .have e1:=SX (s:=s) (p:=q) X;rw[SV h1]at e1;injection e1 with e1 _;rw[e1];obtain⟨f',rfl⟩:∃f',f=f'+1:=⟨f-1,X⟩;rw[XW,Ag i,Ag X]at a;have d:=t5.y g Z;have bi:=PJ (Cj s q);refine(O 7)<|Zi (fun h0=>?_) fun h0=>?_
           .have L:Cj s q=Ai:=by
             cases hb:Cj s q
             .rfl
             .grind
            rw[Aj L]at a;refine(O 4∘Qk A.heap.size j.size d) ?_;rintro _ v6 S B af a9;refine(O 3) ?_;rw[KG]at B;have a2:Bn S A.heap.size 3 1 v6 (Alz (o++[now])) (BD .i64 (o++[now])):=by rw[Bx];exact B
            have C:=j.fresh af (fun q hq=>(d.lt q (FG.1 hq)).1);have W:=ab.tm (Tm.Akw d af) Z Z;refine Lb ((q+1),now,(o++[now]),v6,f',S) ?_ (hm:=by dsimp only;rw[Bx,CL];omega);grind
           .have L:¬Cj s q=Ai:=fun z=>h0 Bf;rw[Ag L]at a;obtain⟨v2,e2,q3,a6,y⟩:=LG s (q+1) 1;have a1:=Yu r Q w.heap.size s (q+1) 1 Bc h1 hs w5 (j.bk K Z) ab;rw[a6]at a1;refine(O 4∘Ea a1) ?_;rintro _ S⟨rfl,W,t6⟩;refine(O 12) ?_;have C:=j.trans t6;have x6:Be w S:=C.below m m.size (Bq _);refine Zi (fun l=>?_) fun l=>?_
            .rcases y with⟨h2,rfl,rfl,rfl⟩|⟨h2,rfl,rfl,rfl⟩
             .rw[Aj X]at a;refine(O 7∘Cy) ?_;exact⟨⟨_,[],0,10,Z,CT.nil _ _,.inr ⟨⟨Bc,Bc⟩,a.symm⟩⟩,x6⟩
             .exact AH Z l
            .rcases y with⟨h2,rfl,rfl,rfl⟩|⟨h2,rfl,rfl,rfl⟩
             .exact AH (show(10:Y)≠0 by decide) l
             .have e2:=SX (s:=s) (p:=q+1) X;rw[SV h2]at e2;injection e2 with e2 _;rw[e2];rw[Ag X]at a;have bh:=PJ (Cj s (q+1));refine(O 10∘Ct 11 (Bb (((if Cj s (q+1)then now-1 else now+1):Y):H)) (e:=by grind))<|Lb ((q+2),(if Cj s (q+1)then now-1 else now+1),f',S) ?_;exact⟨Bf,h2,X,a,W,t6.y d Z,C⟩
     .have:n-Alz o=0:=X;rw[this,uk]at a;have xr:Be w wr:=P.below m m.size (Bq _);refine(O 4∘Zv (Bo (P.bk K Z))∘Zc (SU w.heap.size Q s q wr E)) ?_;rintro _ _⟨rfl,rfl⟩;refine(O 4∘Cy) ?_;exact⟨⟨_,o,q,0,Z,Bn.l g a3,.inl ⟨Z,a.symm,X,o2,q1⟩⟩,xr⟩
structure Rows(w:Ad)(B:Y)(vs:Bl)(ls:Ae (Bj)):Prop where
 len:Alz vs=Alz ls
 row:∀i (h:i<Alz ls),∃A c,vs[i]? =J (.slice A (Alz ls[i]) c)/\Sl w B A (BD .i64 ls[i])
def Rows.below{w w':Ad}{B:Y}{vs:Bl}{ls:Ae (Bj)}(h:Rows w B vs ls)(hb:Below B w w'):Rows w' B vs ls:=
 ⟨h.len,fun i hi=>by
  obtain⟨A,c,h1,h2⟩:=h.row i hi;exact⟨A,c,h1,h2.below hb⟩⟩
def Rows.a{w w':Ad}{B:Y}{vs:Bl}{ls:Ae (Bj)}(h:Rows w B vs ls)(hx:Be w w'):Rows w' B vs ls:=
 ⟨h.len,fun i hi=>by
  obtain⟨A,c,h1,h2⟩:=h.row i hi;exact⟨A,c,h1,h2.a hx⟩⟩
structure PlanAt(w:Ad)(B:Y)(cs:Bl)(p:Pl):Prop where
 ex:∃A1 c1 A2 c2 vs,cs=[.slice A1 (Alz p.v) c1,.slice A2 (Alz p.C) c2]/\Sl w B A1 vs/\Rows w B vs p.v/\Sl w B A2 (BD .i64 p.C)
def PlanAt.a{w w':Ad}{B:Y}{a:Bl}{p:Pl}(h:PlanAt w B a p)(hx:Be w w'):PlanAt w' B a p:=by
 obtain⟨A1,k,A2,j,d,i,g,f,e⟩:=h;exact⟨A1,k,A2,j,d,i,g.a hx,f.a hx,e.a hx⟩
def PlanAt.below{w w':Ad}{B:Y}{d:Bl}{p:Pl}(h:PlanAt w B d p)(a:Below B w w'):PlanAt w' B d p:=by
 obtain⟨A1,l,A2,k,e,j,i,g,f⟩:=h;exact⟨A1,l,A2,k,e,j,i.below a,g.below a,f.below a⟩
def jz(n:Y)(r:n<=1000)(w:Ad):Bm eD 199 [Bb (n:H)] w fun v w'=>∃g,v=.slice (J ⟨g,0,Aa⟩) n n/\w.heap.size<=g/\Bk w' g 3 (BD .i64 (BE n))/\Be w w':=by
 refine Bw func199 Z ntmps199 (by rfl) Z ?_;refine(O 7∘Gc) ?_;rintro g l h t m;refine(O 10)<|Lo (fun((i,wr):Y×Ad)=>(i<=n/\Bk wr g 3 (fill (fun(j:Y)=>Value.int .i64 (j:H)) (Bb 0) n i)/\Mo l wr [g],[(3,.slice (J ⟨g,0,Aa⟩) n n),(8,Bb n),(9,Bb i)],wr,n-i)) (0,l) ?_ ?_
 .exact⟨BC _,Ck,Mo.refl _ _⟩
 .rintro⟨i,wr⟩⟨q,d,o⟩;refine(O 5)<|Zi (fun k=>?_) fun k=>?_
  .refine(O 13∘Zt d (hlt:=by rw[QD q];omega)) ?_;rintro p a e;refine(O 6) ?_;rw[QE (f:=fun(j:Y)=>Value.int .i64 (j:H)) k]at a;refine Lb ((i+1),p) ?_;exact⟨k,a,o.trans e⟩
  .obtain rfl:i=n:=X;rw[QC,jS]at d;refine(O 6∘Bu) ?_;exact⟨g,Z,h,d,Bp m o m.size Bf⟩
def yj{l:Bj}{k:Y}(h:k<Alz l):Value.int .i64 ((l[k]:Y):H)::(BD .i64 l).eraseIdx k=BD .i64 (EI l k):=by
 unfold EI BD;rw[Cm,Cd,BQ h,WL,WL,DW,TV,List.map_drop];rfl
def jv(l:Bj)(k g:Y)(hk:k<Alz l)(A:Alz l<=1000)(w:Ad)(h:Bk w g 3 (BD .i64 l)):
 Bm eD 201 [.slice (J ⟨g,0,Aa⟩) (Alz l) (Alz l),Bb (k:H)] w fun v w'=>v=Bb ((l.getD k 0:Y):H)/\Bk w' g 3 (BD .i64 (EI l k))/\Mo w w' [g]:=by
 have j:(BD .i64 l)[k]? =J (Bb ((l[k]:Y):H)):=by rw[FB hk,CG hk]
 have B:Alz (BD .i64 l)=Alz l:=DO _ _;have r:Alz ((BD .i64 l).take k)=k:=by rw[BW];omega
 have e:=kY (cap:=Alz l) j Z (fun q=>by omega);rw[yj hk]at e;have d:∀u∈(BD .i64 l).take k,u.oneCell'=Af:=fun u p=>Ly u (Kn p);refine Bw func201 Z ntmps201 Bi Z ?_;refine(O 9∘Zv (Bo h (hi:=j))∘O 3∘Yr 8 (fun w'=>True) Ay) fun t=>(Gv [0,1,2]∘Yw 3 (he:=by exact fun _ _=>cZ hU BZ Z (i:=1) Z Z ⟨X,X,Bq _⟩)∘Gv [4,5]∘Yw 6 (he:=by exact fun _ _=>Wx hU BZ Z Z ⟨X,Bq _⟩)) ?_;have a:=h.drew.Alg 0 k;rw[MW]at a;refine WC 7 _ Z Bi Z Z hU hU BZ Z Z (a) X (d) (h.drew) Bf ?_;rintro y o n;refine⟨Ay,fun t=>?_⟩;refine(Yd∘O 5∘Zt o (hlt:=by grind)) ?_;rintro x f m;refine(O 6∘Bu) ?_;rw[e]at f;rw[CG hk];exact⟨Z,f,((Mo.Akj (Be.drew w) _).trans n).trans m⟩
def YY(m:Y)(hm:m<=1000000000)(w:Ad):Bm eD 234 [Bb (m:H)] w fun v w'=>v=Bb ((grpN m:Y):H)/\w=w':=by
 refine Bw func234 Z ntmps234 (by rfl) Z ?_;refine(O 12∘Bu) ?_;exact⟨AF (Value.int .i64) (AF Om (show(m+50-1)/50=(m+49)/50 by omega)),Z⟩
def jD(l:Bj)(k:Y):(l.drop (k*50)).take (min (Alz l) ((k+1)*50)-k*50)=Ez l k:=by
 unfold Ez;rw[Qb 50 k];simp;omega
def jE(l:Bj){k:Y}(h:k<grpN (Alz l)):Alz (Ez l k)=min (Alz l) ((k+1)*50)-k*50/\k*50<Alz l:=by
 unfold grpN at h;have e:=jD l k;grind
def yh(l:Bj)(i m:Y):((BD .i64 l).drop i).take m=BD .i64 ((l.drop i).take m):=by
 unfold BD;simp
def jB(l:Bj)(k:Y)(hk:k<grpN (Alz l))(f:Alz l<=1000000000)(A:Av AB)(c C:Y)(a:Alz l<=c)(w:Ad)(e:Sl w C A (BD .i64 l)):
 Bm eD 269 [.slice A (Alz l) c,Bb (k:H)] w fun v w'=>(∃A' c',v=.slice A' (Alz (Ez l k)) c'/\Sl w C A' (BD .i64 (Ez l k)))/\w=w':=by
 obtain⟨h,g⟩:=jE l hk;refine Bw func269 Z ntmps269 (by rfl) Z ?_;refine(O 15) ?_;refine Xj Z Z hU BZ Z Z Z (⟨X,X,a⟩) (e) (DO _ _) ?_;rintro A' d;refine(O 2∘Bu) ?_;rw[yh,jD]at d;simp_all
def xm(m:Y)(h1:1<=m)(hm:m<=1000000000)(w:Ad):Bm eD 267 [Bb (m:H)] w fun v w'=>v=.tuple #[Bb ((Gs m:Y):H),Bb ((0:Y):H)]/\w=w':=by
 refine Bw func267 Z ntmps267 (by rfl) Z ?_;refine(O 11)<|Zi (fun h=>?_) fun h=>?_
 .omega
 .refine(O 4∘Zv (by exact pN (ks:=[0,1,2,3]) (zs:=[Bb 0,Bb 0,Bb 0,Bb 0]) rx oY BZ Z Z Z)∘O 3)<|Lo (fun(i:Y)=>(i<=4/\(∀j,j<i->[200,600,1200,2400].getD j 0<=m),[(0,Bb m),(8,.agg (BD .i64 [200,600,1200,2400]).toArray),(9,Bb i)],w,4-i)) 0 ?_ ?_
  .simp
  .rintro i⟨n,a⟩;refine(O 5)<|Zi (fun g=>?_) fun g=>?_
   .have o:[200,600,1200,2400].getD i 0<=2400:=by
     rcases(show i=0∨i=1∨i=2∨i=3 by omega)with rfl|rfl|rfl|rfl<;>decide
    refine(O 6∘Zv (by exact TE rx io Z BZ Z Z X (FB (show i<Alz [200,600,1200,2400]from g)))∘O 9)<|Zi (fun d=>?_) fun d=>?_
    .have e:Gs m=i+2:=by
      unfold Gs;have f:=fun j k=>a j k;rcases(show i=0∨i=1∨i=2∨i=3 by omega)with rfl|rfl|rfl|rfl
      .grind
      .grind
      .have:=f 1 Bc;grind
      .have:=f 2 Bc;grind
     refine(O 7∘BF) ?_;simp_all
    .refine(O 6)<|Lb (i+1) ?_;grind
   .have l:=a 3 X;simp at l
    have e:Gs m=6:=by
     unfold Gs;rw[Ag X,Ag X,Ag X,Ag X]
    refine(O 6∘BF) ?_;grind
def kJ(l:Bj)(n:Y)(o:3<=n/\n<=258)(h1:1<=Alz l)(h2:Alz l<=1638350)(hl:∀x∈l,x<n)(A:Av AB)(c C:Y)(w:Ad)(m:Sl w C A (BD .i64 l)):
 Bm eD 266 [.slice A (Alz l) c,Bb (n:H)] w fun v w'=>v=.bool Af/\w=w':=by
 obtain⟨t,r⟩:=o;refine Bw func266 Z ntmps266 (by rfl) Z ?_;refine(O 6)<|Lc (fun(j:Ar)=>(j=Ai,[(0,.slice A (Alz l) c),(1,Bb n),(22,.bool j)],w)) ?_ ?_
 .refine(O 4)<|Zd 9 (fun k=>?_) fun k=>?_
  .omega
  .refine(O 4)<|Zd 13 (fun q=>?_) fun q=>?_
   .omega
   .refine(O 5)<|Zd 18 (fun p=>?_) fun p=>?_
    .omega
    .refine(O 5∘Lm (decide (Alz l>1638350))) ?_;exact AN X
 .rintro j rfl;refine(O 10)<|Lo (fun(i:Y)=>(i<=Alz l,[(0,.slice A (Alz l) c),(1,Bb n),(23,.slice A (Alz l) c),(24,Bb ((Alz l:Y):H)),(25,Bb i)],w,Alz l-i)) 0 ?_ ?_
  .simp
  .rintro i y;refine(O 5)<|Zi (fun e=>?_) fun e=>?_
   .obtain⟨b,f,rfl,_,g⟩:=m.Q X;have d:=hl _ (BL e);have a:=g w (Be.refl _) i e;generalize l[i]=x at d a;refine(O 6∘Zv (BR a)∘O 3)<|Lc (fun(h:Ar)=>(h=Ai,[(0,.slice (J ⟨b,f,Aa⟩) (Alz l) c),(1,Bb n),(23,.slice (J ⟨b,f,Aa⟩) (Alz l) c),(24,Bb ((Alz l:Y):H)),(25,Bb i),(35,.bool h)],w)) ?_ ?_
    .refine(O 4)<|Zd 31 (fun k=>?_) fun k=>?_
     .omega
     .refine(O 5∘Lm (decide (x≥n))) ?_;exact AN X
    .rintro h rfl;refine(O 7)<|Lb (i+1) ?_;omega
   .refine(O 5∘Bu) ?_;simp
def Sl.at3{w:Ad}{B:Y}{A:Av AB}{xs:Bl}(h:Sl w B A xs)(h0:0<Alz xs):∃b o,A=J ⟨b,o,Aa⟩/\b<B/\∀W,Below B w W->∀j u,xs[j]? =J u->W.cell? ⟨b,o+j,Aa⟩=J u:=by
 obtain⟨b,o,f,a,_⟩:=h.at_ h0;refine⟨b,o,f,a,fun W d=>?_⟩;obtain⟨i,g,e,_,q⟩:=(h.below d).at_ h0;grind
def YU(p:Pl)(n:Y)(hp:p.q n)(B:Y)(cs:Bl)(w:Ad)(h:PlanAt w B cs p)(hB:B<=w.heap.size):
 Bm eD 204 [.agg cs.toArray] w fun v w'=>v=.bool Af/\Be w w':=by
 obtain⟨A1,c1,A2,c2,vs,rfl,s1,y,s3⟩:=h;obtain⟨⟨t1,t2⟩,⟨p1,p2⟩,g,⟨l1,l2⟩,G,I⟩:=hp;obtain⟨b1,o1,rfl,_,j⟩:=s1.at3 (by rw[y.len];omega);refine Bw Bh Z ntmps204 (by rfl) Z ?_;refine(O 2) ?_;refine Dq Z Z Z ?_;rintro r d Q ab E;refine(O 4) ?_;have f:=E.mono hB;refine Lc (fun P=>(P=Ai,[(1,.pointer (J ⟨r,0,Aa⟩)),(28,.bool P)],d)) ?_ ?_
 .refine(O 6)<|Zd 11 (fun m=>?_) fun m=>?_
  .omega
  .refine(O 6)<|Zd 17 (fun C=>?_) fun C=>?_
   .omega
   .refine(O 6)<|Zd 23 (fun k3=>?_) fun k3=>?_
    .omega
    .refine(O 6∘Lm (decide (Alz p.C>32767))) ?_;grind
 .rintro P rfl;refine(O 11)<|Lo (fun i=>(i<=Alz p.v,[(1,.pointer _),(30,.slice _ _ _),(31,.int _ _),(32,.int _ i)],d,Alz p.v-i)) 0 ?_ ?_
  .omega
  .rintro i hi;refine(O 5)<|Zi (fun o=>?_) fun o=>?_
   .obtain⟨A,c,W,V⟩:=y.row i o;obtain⟨A0,c0,T,f2⟩:=y.row 0 X;have L:=g _ (BL (show 0<Alz p.v by omega));have K:=g _ (BL o);have a:=G _ (BL o);generalize p.v[i]=t at W V K a;generalize p.v[0]=t0 at T f2 L;have S:GJ t=0:=Aj ⟨X,X,a⟩;refine(O 6∘Zv (BR (j d f i _ W))∘O 3)<|Lc (fun(N:Ar)=>(N=Ai,[(1,.pointer (J ⟨r,0,Aa⟩)),(30,.slice (J ⟨b1,o1,Aa⟩) (Alz p.v) c1),(31,Bb ((Alz p.v:Y):H)),(32,Bb i),(53,.bool N)],d)) ?_ ?_
    .refine(O 6∘Zv (BR (j d f 0 _ T))∘O 3)<|Zd 44 (fun m=>?_) fun m=>?_
     .omega
     .refine(O 5)<|Zd 49 (fun C=>?_) fun C=>?_
      .omega
      .refine(O 1∘Zc (ZA t X (fun x hx=>by have:=(a.pos x hx).2;omega) A c B d (V.below f))) ?_;rintro _ _⟨rfl,rfl⟩;refine(O 3∘Lm (decide (GJ t≠0))) ?_;grind
    .rintro N rfl;refine(O 7)<|Lb (i+1) ?_;exact o
   .refine(O 10)<|Lo (fun(i:Y)=>(i<=Alz p.C,[(1,.pointer (J ⟨r,0,Aa⟩)),(56,.slice A2 (Alz p.C) c2),(57,Bb ((Alz p.C:Y):H)),(58,Bb i)],d,Alz p.C-i)) 0 ?_ ?_
    .exact BC _
    .rintro i hi;refine(O 5)<|Zi (fun e=>?_) fun e=>?_
     .obtain⟨b2,o2,rfl,_,q⟩:=s3.at3 (by rw[DO];omega);have D:=I _ (BL e);have k:=q d f i _ (by rw[FB e,CG e]);generalize p.C[i]=x at D k;refine(O 6∘Zv (BR k)∘O 3)<|Lc (fun(l:Ar)=>(l=Ai,[(1,.pointer (J ⟨r,0,Aa⟩)),(56,.slice (J ⟨b2,o2,Aa⟩) (Alz p.C) c2),(57,Bb ((Alz p.C:Y):H)),(58,Bb i),(70,.bool l)],d)) ?_ ?_
      .refine(O 4)<|Zd 64 (fun m=>?_) fun m=>?_
       .omega
       .refine(O 7∘Lm (decide (x≥Alz p.v))) ?_;exact AN X
      .rintro l rfl;refine(O 7)<|Lb (i+1) ?_;omega
     .refine(O 5∘Bu) ?_;grind
def all_u(l:Bj)(hL:LOk l)(h3:Alz l<=258)(h2:2<=Alz l)(s:Bg)(hsl:Alz s<=1000000000)(p fin:Y)(hp:p<=8*Alz s)(hfin:fin<=1000)(A:Av AB)(c C:Y)(w:Ad)(hCw:C<=w.heap.size)(hs:Sl w C A (BD .i64 l)):
 Bm eD 205 [.slice A (Alz l) c,str s,Bb (p:H),Bb 50,Bb (fin:H)] w fun v w'=>(∃u xs,∃q e:Y,v=.tuple #[u,Bb (q:H),Bb (e:H)]/\CT w' w.heap.size u xs/\((e=0/\Gm l s fin 50 p=J (xs,q)/\xs≠[]/\Alz xs<=50/\(∀x∈xs,x<Alz l)/\q<=8*Alz s)∨(ER e/\Gm l s fin 50 p=Aa)))/\Be w w':=
 (all_s l hL h3 h2 s hsl p fin hp hfin A c C w hCw hs).mono fun v w'⟨h,x⟩=>by
  refine⟨?_,x⟩;rcases h with⟨u,xs,q,h1,h2,h3,h4,h5,h6,h7⟩|⟨h1,e,h2,h3⟩
  .grind
  .exact⟨_,[],0,e,h3,CT.nil _ _,.inr ⟨h2,h1⟩⟩
open Classical in
def xt(a:Ae (Bj))(s:Bg)(d k:Y)(ks:Bj)(p:Y)(e:Bj):HB a s d (k::ks) p e=match Gm (a.getD k []) s d 50 p with
 |none=>Aa
 |some (xs,q)=>if xs.getLast? =J d then J (e++xs,q)else HB a s d ks q (e++xs):=by rfl
def xu(a:Ae (Bj))(s:Bg)(d p:Y)(e:Bj):HB a s d [] p e=Aa:=by rfl
def Bn.other{w w':Ad}{B T s n:Y}{v v2:Ah}{xs:Bl}(h:Bn w B T s v n xs)(hg:w.grownBy w' (Pi v2))(h2:∀k,Pi v2=J k->k<B):Bn w' B T s v n xs:=
 h.grown hg (by
  cases e:Pi v with
  |none=>simp
  |some k=>exact .inr fun q=>by have:=h2 k q.symm;have:=(h.lt k e).1;omega)
def get_s(p:Pl)(n:Y)(hp:p.q n)(B:Y)(cs:Bl)(s:Bg)(a4:Alz s<=1000000000)(a:Y)(ha:a<=8*Alz s)(w:Ad)(h:PlanAt w B cs p)(hB:B<=w.heap.size):
 Bm eD 162 [.agg cs.toArray,str s,Bb (a:H)] w fun v w'=>(∃u xs,∃q e:Y,v=.tuple #[u,Bb (q:H),Bb (e:H)]/\CT w' w.heap.size u xs/\((e=0/\HB p.v s (n-1) p.C a []=J (xs,q)/\Alz xs<=1638350/\(∀x∈xs,x<n)/\q<=8*Alz s)∨(ER e/\HB p.v s (n-1) p.C a []=Aa)))/\Be w w':=by
 have a6:=h;obtain⟨A1,c1,A2,c2,vs,rfl,s1,s2,s3⟩:=h;obtain⟨⟨t1,t2⟩,⟨p1,p2⟩,D,⟨l1,l2⟩,a7,a8⟩:=id hp;obtain⟨b1,o1,rfl,_,E⟩:=s1.at3 (by rw[s2.len];omega);obtain⟨b2,o2,rfl,_,aj⟩:=s3.at3 (by rw[DO];omega);obtain⟨Az,cz,f1,f2⟩:=s2.row 0 X;have a9:=D _ (BL (show 0<Alz p.v by omega));generalize p.v[0]=t0 at f1 f2 a9;refine Bw func162 Z ntmps162 (by rfl) Z ?_;refine(O 2) ?_;refine Dq Z Z Z ?_;rintro pb w1 bd af K;refine(O 7) ?_;have Q:Below B w w1:=K.mono hB;have ao:=K.size;refine(Zv (BX af)∘Zc (YU p n hp B _ w1 (a6.below Q) X)) ?_;rintro _ S⟨rfl,f⟩;refine(O 10)<|Zd 21 (fun k1=>?_) fun k1=>?_
 .omega
 .refine(O 7∘Ci 27∘O 5) ?_;have x2:=K.trans f;have bb:=af.a f;refine(O 2∘Zv (BR (E S (Q.trans (f.mono X)) 0 _ f1))∘O 17∘Ct 9 (Bb (((n-1):Y):H)) (e:=by grind))<|Lo (fun((i,q,o,vo,wr):Y×Y×(Bj)×Ah×Ad)=>(i<=Alz p.C/\q<=8*Alz s/\Alz o<=50*i/\(∀x∈o,x<n)/\HB p.v s (n-1) (p.C.drop i) q o=HB p.v s (n-1) p.C a []/\Bn wr S.heap.size 3 1 vo (Alz o) (BD .i64 o)/\Be S wr,[(1,str (s)),(2,Bb q),(3,.pointer (J ⟨pb,0,Aa⟩)),(9,Bb (((n-1):Y):H)),(10,vo),(35,.slice (J ⟨b2,o2,Aa⟩) (Alz p.C) c2),(36,Bb ((Alz p.C:Y):H)),(37,Bb i)],wr,Alz p.C-i)) (0,a,([]),(.slice Aa 0 0),S) ?_ ?_
  .exact⟨BC _,ha,BC _,Bh,Z,Bn.nil _ _ _ _,Be.refl _⟩
  .rintro⟨i,q,o,vo,wr⟩⟨hi,hq,ho,bi,d,g,r⟩;have xr:=x2.trans r;have P:=(Q.trans (f.mono X)).trans (r.mono (BA hB x2.size));obtain⟨A0,c0,rfl,_,_⟩:=g.slice;refine(O 5)<|Zi (fun hc=>?_) fun hc=>?_
   .have y:=a8 _ (BL hc);have G:=aj wr P i _ (by rw[FB hc,CG hc]);rw[DD hc,xt]at d;generalize p.C[i]=k at y G d;obtain⟨At,ct,e1,e2⟩:=s2.row k y;have a3:=D _ (BL y);have C:=a7 _ (BL y);rw[show p.v.getD k []=p.v[k]from by grind]at d;generalize p.v[k]=t at e1 e2 a3 C d;refine(O 6∘Zv (BR G)∘O 5∘Zv (Bo (bb.a r))∘O 2∘Zv (BR (E wr P k _ e1))∘O 3∘Zc (all_u t C X X s a4 q (n-1) hq X At ct B wr (BA hB xr.size) (e2.below P))) ?_;rintro _ w3⟨⟨u,xs,q3,e,rfl,A,m⟩,I⟩;refine(O 14)<|Zi (fun L=>?_) fun L=>?_
    .rcases m with⟨rfl,_⟩|⟨g1,g2⟩
     .exact AH Z L
     .rw[g2]at d;refine(O 7∘Cy) ?_;exact⟨⟨_,[],0,e,Z,CT.nil _ _,.inr ⟨g1,d.symm⟩⟩,xr.trans I⟩
    .rcases m with⟨rfl,g2,a0,bh,a1,a5⟩|⟨g1,g2⟩
     .rw[g2]at d;simp only at d;have bf:=Oh.2 a0;have N:=dI (l:=xs);obtain⟨Ax,cx,rfl,_,V⟩:=A.sl;have bc:=a1 _ (BL (show Alz xs-1<Alz xs by omega));rw[BQ (show Alz xs-1<Alz xs by omega)]at N;obtain⟨bx,ox,rfl,_,_⟩:=V.Q X;have x3:=r.trans I;refine(O 5) ?_;refine HM Z Z hU BZ Z Bc Z Z (x3) (g.a I) (Src.Akm hU V (by rw[DO,IX]) Ly Bc) CB X ?_;rintro v4 w4 ab a2 ba _;obtain⟨_,_,ex,_,T⟩:=CT.sl (Bn.other A ba fun k hk=>(g.lt k hk).2);cases ex;obtain⟨_,_,ey,_,ai⟩:=T.Q X;cases ey;have W:Bn w4 S.heap.size 3 1 v4 (Alz (o++xs)) (BD .i64 (o++xs)):=by rw[Bx,Vc];exact ab
      refine(O 14∘Zv (BR (ai w4 (Be.refl _) _ (show Alz xs-1<Alz xs by omega)))∘O 3) ?_
      have al:∀x∈o++xs,x<n:=fun x hx=>by
       grind
      refine Zi (fun j=>?_) fun j=>?_
      .rw[N,Aj (AF J j)]at d;refine(O 8∘Cy) ?_;refine⟨⟨_,o++xs,q3,0,Z,W.l (BA ao f.size),.inl ⟨Z,d.symm,by rw[Bx];omega,al,a5⟩⟩,x2.trans a2⟩
      .rw[N,Ag (fun z=>j Bf)]at d;refine(O 6)<|Lb ((i+1),q3,(o++xs),v4,w4) ?_;grind
     .exact AH (Dd.1 L) (by have:=g1.1;omega)
   .obtain rfl:i=Alz p.C:=X;rw[IS,xu]at d;refine(O 7∘Cy) ?_;exact⟨⟨_,[],0,110,Z,CT.nil _ _,.inr ⟨⟨Bc,Bc⟩,d.symm⟩⟩,xr⟩
def GF(w:Ad)(B:Y)(vs:Bl)(ls:Ae (Bj)):Prop:=Alz vs=Alz ls/\∀i (h:i<Alz ls),∃u,vs[i]? =J u/\CT w B u ls[i]
section
variable{w w':Ad}{B C g:Y}{vs:Bl}{ls:Ae (Bj)}{u:Ah}{l:Bj}{p:Aw->Ar}
def GF.keep(h:GF w B vs ls)(k:∀u l,CT w B u l->CT w' B u l):GF w' B vs ls:=
 ⟨h.1,fun i hi=>by obtain⟨u,h1,h2⟩:=h.2 i hi;grind⟩
def GF.a(h:GF w B vs ls)(hx:Be w w'):GF w' B vs ls:=h.keep fun _ _ q=>q.a hx
def GF.j(h:GF w B vs ls)(hm:Mo w w' [g])(hg:g<B):GF w' B vs ls:=h.keep fun _ _ q=>Bn.j q hm fun k hk=>by have:=(q.lt k hk).1;grind
def GF.tm(h:GF w B vs ls)(t:Tm w w' C p)(hp:p 3=Ai):GF w' B vs ls:=h.keep fun _ _ q=>t.y q hp
def GF.snoc(h:GF w B vs ls)(d:CT w B u l):GF w B (vs++[u]) (ls++[l]):=by
 refine⟨by simp[h.1],fun i a=>?_⟩;rw[Bx,CL]at a;rcases CM i (Alz ls)with q|q
 .rw[FR (by rw[h.1];omega),WO q];exact h.2 i q
 .obtain rfl:i=Alz ls:=X;exact⟨u,by rw[Io (by rw[h.1];simp),h.1,EY];rfl,Bf⟩
def GF.rows(h:GF w B vs ls):Rows w w.heap.size vs ls:=
 ⟨h.1,fun i hi=>by
  obtain⟨u,h1,h2⟩:=h.2 i hi;obtain⟨A,c,rfl,_,h3⟩:=h2.sl;grind⟩
def Xz{a:Bl}{n:Y}{z v:Ah}{i:Y}(h:i<n)(d:Alz a=i):(a++BH (n-i) z).set i v=(a++[v])++BH (n-(i+1)) z:=by
 subst d;rw[LX _ _ (Bq _),EY,show n-Alz a=(n-(Alz a+1))+1 by omega,JC];simp
end
def my(p:Pl)(l:Bj){i:Y}(h:i<Alz l):Es p (l.take (i+1))=Es p (l.take i)++Lq (p.v.getD (p.C.getD (i/50) 0) []) l[i]:=by
 unfold Es;rw[dL h,List.zipIdx_append,IT,BW,Hi X];simp
def jA(p:Pl)(n:Y)(hp:p.q n)(l:Bj)(c6:Alz l<=1638350)(ce:grpN (Alz l)<=Alz p.C)(bl:∀x∈l,x<n)(B:Y)(cs:Bl)(A:Av AB)(c:Y)(w:Ad)(h:PlanAt w B cs p)(hs:Sl w B A (BD .i64 l))(hB:B<=w.heap.size):
 Bm eD 180 [.agg cs.toArray,.slice A (Alz l) c] w fun v w'=>v=.tuple #[.agg (Ee (Es p l)).toArray,Bb ((0:Y):H)]/\Be w w':=by
 have b7:=h;obtain⟨A1,c1,A2,c2,vs,rfl,s1,s2,s3⟩:=h;obtain⟨⟨t1,t2⟩,⟨p1,p2⟩,P,⟨l1,l2⟩,bi,bj⟩:=id hp;obtain⟨b1,o1,rfl,_,ai⟩:=s1.at3 (by rw[s2.len];omega);obtain⟨b2,o2,rfl,_,b3⟩:=s3.at3 (by rw[DO];omega);obtain⟨Az,cz,f1,f2⟩:=s2.row 0 X;have cf:=P _ (BL (show 0<Alz p.v by omega));generalize p.v[0]=t0 at f1 f2 cf;refine Bw func180 Z ntmps180 Bi Z ?_;refine(O 2) ?_;refine Dq Z Z Z ?_;rintro pb w1 co bs bc;refine(Zn) ?_;rintro ob w2 cn cc a4;refine(O 4) ?_;have x2:=bc.trans a4;have a8:=bs.a a4;have c0:=bc.size;have cw:=a4.size;have c5:ob≠pb:=by have:=bs.lt;omega
 have bq:Below B w w2:=x2.mono hB;refine Lc (fun(j:Ad)=>(Be w2 j,[(1,.slice A (Alz l) c),(2,.pointer (J ⟨pb,0,Aa⟩)),(4,.pointer (J ⟨ob,0,Aa⟩)),(25,.bool Ai)],j)) ?_ ?_
 .refine(Yr 12 (fun w'=>Be w2 w') (Be.drew w2)) fun hS=>(Yw 0 (he:=by exact fun _ ba=>BX (a8.a ba))∘Yc 1 (YU p n hp B _ _ (b7.below (bq.trans (hS.mono X))) (by simp;omega))) ?_;rintro _ j⟨rfl,G⟩;refine⟨hS.trans G,fun hS=>?_⟩;refine(Gv [2,3,4,5,7]∘Yw 8 (he:=by exact fun _ ba=>Bo (a8.a ba))∘Gv [9]∘Yc 6 (YY (Alz l) X _)) ?_;rintro _ _⟨rfl,rfl⟩;refine⟨hS,fun hS=>?_⟩;refine(Gv [10,11]∘Yd∘Ci 25∘Lm j) ?_;omega
 .rintro j G;refine(O 10) ?_;have x3:=x2.trans G;have a7:=a8.a G;have ca:=cc.a G;have cv:=G.size;have S:Below B w j:=x3.mono hB;refine Lo (fun(i:Y)=>(i<=Alz l,[(1,.slice A (Alz l) c),(2,.pointer (J ⟨pb,0,Aa⟩)),(4,.pointer (J ⟨ob,0,Aa⟩)),(27,.slice A (Alz l) c),(28,Bb ((Alz l:Y):H)),(29,Bb i)],j,Alz l-i)) 0 ?_ ?_
  .simp
  .rintro i hi;refine(O 5)<|Zi (fun hc=>?_) fun hc=>?_
   .obtain⟨b,f,rfl,_,a9⟩:=hs.Q X;have a2:=bl _ (BL hc);have q:=a9 j x3 i hc;generalize l[i]=x at a2 q;refine(O 6∘Zv (BR q)∘O 3)<|Lc (fun(d6:Ar)=>(d6=Ai,[(1,.slice (J ⟨b,f,Aa⟩) (Alz l) c),(2,.pointer (J ⟨pb,0,Aa⟩)),(4,.pointer (J ⟨ob,0,Aa⟩)),(27,.slice (J ⟨b,f,Aa⟩) (Alz l) c),(28,Bb ((Alz l:Y):H)),(29,Bb i),(43,.bool d6)],j)) ?_ ?_
    .refine(O 4)<|Zd 35 (fun k1=>?_) fun k1=>?_
     .omega
     .refine(O 4∘Zv (BR (ai j S 0 _ f1))∘O 4∘Lm (decide (x≥Alz t0))) ?_;grind
    .rintro d6 rfl;refine(O 7)<|Lb (i+1) ?_;omega
   .refine(O 3∘Zc (Pd j)) ?_;rintro _ w4⟨wb,rfl,b4,a3⟩;refine(O 5) ?_;have c8:=a7.a a3;have cr:=a3.size;refine(O 2∘Gc) ?_;rintro cb w5 cm cj bb;refine(O 10) ?_;have x5:=a3.trans bb;have c3:=b4.a bb;have I:=cj.lt;have cl:GF w5 (cb+1) [] (List.map Hm (p.v.take 0)):=⟨Z,fun i hi=>by grind⟩;refine Lo (fun((i,us,wr):Y×(Bl)×Ad)=>(i<=Alz p.v/\GF wr (cb+1) us ((p.v.take i).map Hm)/\Bk wr cb 51 (us++BH (Alz p.v-i) (.slice Aa 0 0))/\FH wr j.heap.size wb []/\Be j wr,[(1,.slice A (Alz l) c),(2,.pointer (J ⟨pb,0,Aa⟩)),(4,.pointer (J ⟨ob,0,Aa⟩)),(8,.pointer (J ⟨wb,0,Aa⟩)),(9,.slice (J ⟨cb,0,Aa⟩) (Alz p.v) (Alz p.v)),(52,Bb ((Alz p.v:Y):H)),(53,Bb i)],wr,Alz p.v-i)) (0,([]),w5) ?_ ?_
    .grind
    .rintro⟨i,us,wr⟩⟨hi,d,Q,bd,L⟩;have xr:=x3.trans L;have K:=S.trans (L.mono (BA hB x3.size));refine(O 5)<|Zi (fun D=>?_) fun D=>?_
     .obtain⟨At,ct,e1,e2⟩:=s2.row i D;have a5:=P _ (BL D);have e:=bi _ (BL D);have b5:Alz us=i:=by rw[d.1,Dl,BW];omega
      have N:(p.v.take (i+1)).map Hm=(p.v.take i).map Hm++[Hm p.v[i]]:=by rw[dL D,DW];rfl
      generalize p.v[i]=t at e1 e2 a5 e N;refine(O 12∘Zv (Bo (a7.a L))∘O 2∘Zv (BR (ai wr K i _ e1))∘Zc (Aax t e X X At ct B wr (e2.below K))) ?_;rintro _ w7⟨⟨u,rfl,bh⟩,r⟩;refine(O 4) ?_;obtain⟨Au,cu,rfl,_,_⟩:=bh.sl;refine(Zt (Q.a r) (hlt:=by grind)) ?_;rintro w8 bn a6;refine(O 6) ?_;rw[Xz D b5]at bn;have cq:=r.size;have cp:=Q.lt
      have r8:GF w8 (cb+1) (us++[.slice Au (Alz (Hm t)) cu]) ((p.v.take (i+1)).map Hm):=by
       rw[N];exact((d.a r).snoc (Bn.l bh X)).j a6 X
      refine Lb ((i+1),(us++[.slice Au (Alz (Hm t)) cu]),w8) ?_;exact⟨D,r8,bn,(bd.a r).tm (Tm.set (Q.a r) a6 (B:=0) (BC _)) Z Z,Bp (L.trans r) a6 (L.trans r).size Bv⟩
     .obtain rfl:i=Alz p.v:=X;rw[EY,TY,List.append_nil]at Q;rw[DY]at d;have c4:=d.rows;refine(O 9)<|Lo (fun((i,E):Y×Ad)=>(i<=Alz l/\FH E j.heap.size wb (Es p (l.take i))/\Alz (Es p (l.take i))<=20*i/\Tm wr E j.heap.size KS,[(1,.slice A (Alz l) c),(2,.pointer (J ⟨pb,0,Aa⟩)),(4,.pointer (J ⟨ob,0,Aa⟩)),(8,.pointer (J ⟨wb,0,Aa⟩)),(9,.slice (J ⟨cb,0,Aa⟩) (Alz p.v) (Alz p.v)),(69,.slice A (Alz l) c),(70,Bb ((Alz l:Y):H)),(71,Bb i)],E,Alz l-i)) (0,wr) ?_ ?_
      .exact⟨BC _,bd,BC _,Tm.refl _ _ _⟩
      .rintro⟨i,E⟩⟨hi,aj,c7,tq⟩;have L:=tq.below L L.size (Bq _);have xr:=x3.trans L;have K:=S.trans (L.mono (BA hB x3.size));have ck:=a7.a L;have cg:=tq.bk Q Z;have b6:=(d.tm tq Z).rows;refine(O 5)<|Zi (fun I=>?_) fun I=>?_
       .have a0:i/50<Alz p.C:=by unfold grpN at ce;omega
        obtain⟨b,f,rfl,_,a9⟩:=hs.Q X;have q:=a9 E xr i I;have a2:=bl _ (BL I);have a:=my p l I;generalize l[i]=x at a2 q a;have af:=b3 E K _ _ (by rw[FB a0,CG a0]);rw[CG a0]at a;have al:=bj _ (BL a0);generalize p.C[i/50]=k at af al a;obtain⟨At,ct,e1,e2⟩:=s2.row k al;obtain⟨Au,cu,g1,g2⟩:=b6.row k Bf;have a5:=P _ (BL al);have e:=bi _ (BL al);rw[Og]at g1 g2;rw[show p.v.getD k []=p.v[k]from by grind]at a;generalize p.v[k]=t at e1 e2 a5 e g1 g2 a;have ch:Alz (Hm t)=Alz t:=by simp[Hm]
        rw[ch]at g1;obtain⟨ab,ao,rfl,_,b0⟩:=(e2.below K).Q X;obtain⟨ub,uo,rfl,_,bx⟩:=g2.Q X;have V:=fun W hW=>b0 W hW x X;have T:=fun W hW=>bx W hW x X;have a1:=e.pos _ (BL (show x<Alz t by omega));have o:=e.Alq (show x<Alz t by omega);have bm:=fL (show x<Alz t by omega);rw[CG X]at bm;rw[CG (show x<Alz t by omega)]at o;unfold Lq at a;rw[CG (show x<Alz t by omega)]at a;rw[<-bm]at o a;generalize(Hm t)[x]=cx at T o a;generalize t[x]=y at V a1 o a;have c9:2 ^ y<=1048576:=Gb (n:=2) Bc a1.2;refine(O 7∘Zv (BR q)∘O 10∘Zv (BR af)∘O 2) ?_;refine Kk 17 Bi Bi<|HW.val Z Z (EX.move Z)<|HW.val Z Z (EX.move Z)<|HW.val Z Z (EX.move Z)<|HW.val Z Z (by first|exact KV ir GY Z Z X|exact KX ir GY Z Z X)<|HW.val Z Z (CV hU Z Z (cg.drew.I g1))<|HW.val Z Z (EX.move Z)<|HW.val Z Z (by first|exact KV hU BZ Z Z X|exact KX hU BZ Z Z X)<|HW.val Z Z (CV io Z Z (T _ (Be.drew E)))<|HW.val Z Z (by first|exact RF (m:=18446744073709551615) io iw Z Z X|exact RG (m:=18446744073709551616) io iw Z Z Bc|exact EX.convZ io iw Z)<|HW.val Z Z (Dw (off:=0) iF Z Z oU Z Z)<|HW.val Z Z (CV ir Z Z (ck.drew.I Z))<|HW.val Z Z (EX.move Z)<|HW.val Z Z (by first|exact KV ir GY Z Z X|exact KX ir GY Z Z X)<|HW.val Z Z (CV hU Z Z (ai _ (K.trans ((Be.drew E).mono (BA hB xr.size))) k _ e1))<|HW.val Z Z (EX.move Z)<|HW.val Z Z (by first|exact KV hU BZ Z Z X|exact KX hU BZ Z Z X)<|HW.val Z Z (CV io Z Z (V _ (Be.drew E)))<|HW.tail<|(Zc (GU j.heap.size wb _ cx y X X o X _ (aj.a (Be.drew E)))) ?_;rintro _ w8⟨rfl,bf,t8⟩;refine(O 6) ?_;rw[<-a]at bf;refine Lb ((i+1),w8) ?_;refine⟨I,bf,by rw[a,Bx,nb_length];omega,(tq.trans (Tm.Akj (Be.drew E) _ _)).trans t8⟩
       .obtain rfl:i=Alz l:=X;rw[DY]at aj;refine(O 4∘Zc (NS j.heap.size wb _ E aj)) ?_;rintro _ _⟨rfl,rfl⟩;refine(O 1∘Zc (MS j.heap.size wb _ E aj)) ?_;rintro _ _⟨rfl,rfl⟩;refine(O 1) ?_;have b8:=ca.a L;refine(Zs b8) ?_;rintro w9 b9 cd;refine(O 2∘Dx b9) ?_;exact⟨Z,Bp xr cd xr.size Bv⟩
def VO{m:Y}:∀(ps l:Bj),Alz l=m->(∀x,x<m->x∈l)->(∀x∈ps,x<m)->Alz (Hs l ps)<=m*Alz ps
 |[],l,_,_,_=>Bq _
 |p::ps,l,hl,hm,hp=>by
  have h1:=PU (hm p (hp p Bh));have:=VO ps (EI l (l.idxOf p)) ((Pa h1).trans hl) (fun x hx=>(SH h1 x).2 (hm x hx)) (fun x hx=>hp x Bf);rw[Hs,Bx,Cn,CF,CF,Nat.mul_succ];omega
def XV:∀(ts:Ae (Bj)),(∀t∈ts,Alz t<=258/\t≠[]/\∀x∈t,x<=20)->Alz (ts.flatMap dShow)<=20000*Alz ts
 |[],_=>Bq _
 |t::ts,h=>by
  have h1:=h t Bh;have:=UK h1.2.2 h1.2.1;have:=XV ts fun u hu=>h u Bf;grind
def jF(p:Pl)(n:Y)(hp:p.q n)(B:Y)(cs:Bl)(w:Ad)(h:PlanAt w B cs p)(hB:B<=w.heap.size):
 Bm eD 179 [.agg cs.toArray] w fun v w'=>v=.tuple #[.agg (Ee (planBits p)).toArray,Bb ((0:Y):H)]/\Be w w':=by
 have cb:=h;obtain⟨A1,c1,A2,c2,vs,rfl,s1,s2,s3⟩:=h;obtain⟨⟨t1,t2⟩,⟨p1,p2⟩,A,⟨l1,l2⟩,V,ba⟩:=id hp;obtain⟨b1,o1,rfl,_,bx⟩:=s1.at3 (by rw[s2.len];omega);obtain⟨b2,o2,rfl,_,bs⟩:=s3.at3 (by rw[DO];omega);have c8:=VO (m:=Alz p.v) p.C (BE (Alz p.v)) Hf (fun x f=>DX.2 f) ba;have cv:=Ot t2 p2;have cu:=RX (Alz p.C) t2;have dc:=XV p.v fun t ht=>⟨Bf,fun e=>by have:=A t ht;rw[e]at this;simp at this;omega,fun x f=>((V t ht).pos x f).2⟩;generalize hH:nb 3 (Alz p.v)++(nb 15 (Alz p.C)++Hs (BE (Alz p.v)) p.C)=j7;have b0:Alz j7<=300000:=by rw[<-hH];simp only[Bx,nb_length];omega
 have cc:planBits p=j7++p.v.flatMap dShow:=by rw[<-hH];simp[planBits]
 refine Bw func179 Z ntmps179 Bi Z ?_;refine(O 2) ?_;refine Dq Z Z Z ?_;rintro pb w1 c0 bq a1;refine(Zn) ?_;rintro ob w2 cz cf T;refine(O 5) ?_;have x2:=a1.trans T;have o:=bq.a T;have c7:=a1.size;have c6:=T.size;have c9:ob≠pb:=by have:=bq.lt;omega
 have Q:Below B w w2:=x2.mono hB;refine(Zv (BX o)∘Zc (YU p n hp B _ w2 (cb.below Q) X)) ?_;rintro _ E⟨rfl,I⟩;refine(O 6∘Zc (Pd E)) ?_;rintro _ w4⟨D,rfl,b8,b5⟩;refine(O 6) ?_;have x4:=I.trans b5;refine(Zv (Bo (o.a x4))∘O 2∘Zc (GU E.heap.size D [] (Alz p.v) 3 X Bc (show Alz p.v<8 by omega) Bc w4 b8)) ?_;rintro _ w5⟨rfl,b7,t5⟩;refine(O 5) ?_;have x5:Be w2 w5:=t5.below x4 x4.size I.size;refine(Zv (Bo (o.a x5))∘O 2∘Zc (GU E.heap.size D _ (Alz p.C) 15 X Bc (show Alz p.C<32768 by omega) Bf w5 b7)) ?_;rintro _ w6⟨rfl,b6,t6⟩;refine(O 4) ?_;have x6:Be w2 w6:=t6.below x5 x5.size I.size;refine(Zv (Bo (o.a x6))∘O 1∘Zc (jz (Alz p.v) X w6)) ?_;rintro _ w7⟨gb,rfl,db,cn,a0⟩;refine(O 6) ?_;have x7:=x6.trans a0;have c5:=x6.size;refine(Zv (Bo (o.a x7))∘O 4)<|Lo (fun((i,a,W,wr):Y×(Bj)×(Ae Ar)×Ad)=>(i<=Alz p.C/\Alz a=Alz p.v/\(∀x,x<Alz p.v->x∈a)/\W++Hs a (p.C.drop i)=j7/\FH wr E.heap.size D W/\Bk wr gb 3 (BD .i64 a)/\Be w2 wr,[(1,.pointer (J ⟨pb,0,Aa⟩)),(2,.pointer (J ⟨ob,0,Aa⟩)),(4,.pointer (J ⟨D,0,Aa⟩)),(5,.slice (J ⟨gb,0,Aa⟩) (Alz p.v) (Alz p.v)),(36,.slice (J ⟨b2,o2,Aa⟩) (Alz p.C) c2),(37,Bb ((Alz p.C:Y):H)),(38,Bb i)],wr,Alz p.C-i)) (0,(BE (Alz p.v)),(nb 3 (Alz p.v)++nb 15 (Alz p.C)),w7) ?_ ?_
 .exact⟨BC _,Hf,fun x f=>DX.2 f,Bf,b6.a a0,cn,x7⟩
 .rintro⟨i,a,W,wr⟩⟨hi,bd,bc,hW,a2,hg,f⟩;have xr:=x2.trans f;have bm:=Q.trans (f.mono (BA hB x2.size));refine(O 5)<|Zi (fun hc=>?_) fun hc=>?_
  .have bf:=ba _ (BL hc);have S:=bs wr bm i _ (by rw[FB hc,CG hc]);rw[DD hc,Hs]at hW;generalize p.C[i]=k at bf S hW;have bi:=PU (bc k bf);have ch:=List.getElem_idxOf bi
   have a7:∀j,j<Alz a->a[j]? =J k->a.idxOf k<=j:=fun j hj q=>by
    rcases CM j (a.idxOf k)with z|z
    .have:=List.not_of_lt_findIdx (p:=fun x=>x==k) (xs:=a) z;grind
    .omega
   generalize cw:a.idxOf k=ix at hW bi ch a7;generalize ca:Hs (EI a ix) (p.C.drop (i+1))=rest at hW;have df:Alz W+ix+1<=300000:=by rw[<-hW]at b0;simp only[Bx,Cn,CF]at b0;omega
   refine(O 6∘Zv (BR S)∘O 8)<|Lo (fun((j,g):Y×Ad)=>(j<=ix/\FH g E.heap.size D (W++BH j Af)/\Tm wr g E.heap.size KS,[(1,.pointer (J ⟨pb,0,Aa⟩)),(2,.pointer (J ⟨ob,0,Aa⟩)),(4,.pointer (J ⟨D,0,Aa⟩)),(5,.slice (J ⟨gb,0,Aa⟩) (Alz p.v) (Alz p.v)),(7,Bb k),(8,Bb j),(36,.slice (J ⟨b2,o2,Aa⟩) (Alz p.C) c2),(37,Bb ((Alz p.C:Y):H)),(38,Bb i)],g,ix-j)) (0,wr) ?_ ?_
   .exact⟨BC _,Bf,Tm.refl _ _ _⟩
   .rintro⟨j,g⟩⟨hj,a3,tq⟩;have d:j<Alz a:=X;have bj:=tq.bk hg Z;have a9:(BD .i64 a)[j]? =J (Bb ((a[j]:Y):H)):=by rw[FB d,CG d]
    have a8:=a7 j d;rw[BQ d]at a8;have bh:j=ix->a[j]=k:=fun e=>by grind
    generalize a[j]=y at a9 a8 bh;refine(O 6∘Zv (Bo bj (hi:=a9))∘O 3)<|Zi (fun a6=>?_) fun a6=>?_
    .have da:j≠ix:=fun e=>a6 (bh e);refine(O 10∘Zc (GU E.heap.size D _ 1 1 Bc Bc Bc (by rw[Bx,Cn];omega) g a3)) ?_;rintro _ w8⟨rfl,K,t8⟩;refine(O 2) ?_;rw[show nb 1 1=[Af]from Z,Cq,<-PW]at K;refine Lb ((j+1),w8) ?_;exact⟨X,K,tq.trans t8⟩
    .obtain rfl:j=ix:=Bf;refine(O 4∘Zc (GU E.heap.size D _ 0 1 Bc Bc Bc (by rw[Bx,Cn];omega) g a3)) ?_;rintro _ w8⟨rfl,K,t8⟩;refine(O 4) ?_;have bl:=t8.bk bj Z;have x8:Be w2 w8:=(tq.trans t8).below f f.size I.size;have cm:=jv a j gb d X w8 bl;rw[bd]at cm;refine(Zc cm) ?_;rintro _ w9⟨_,cl,L⟩;refine(O 6) ?_;have a4:=K.tm (Tm.set bl L (B:=0) (BC _)) Z Z;rw[show nb 1 0=[Ai]from Z]at a4;refine Lb ((i+1),(EI a j),(W++BH j Af++[Ai]),w9) ?_;refine⟨hc,(Pa d).trans bd,fun x f=>(SH d x).2 (bc x f),?_,a4,cl,Bp x8 L x8.size Bv⟩;grind
  .obtain rfl:i=Alz p.C:=X;rw[IS,Hs,List.append_nil]at hW;subst hW;refine(O 4∘Zc (NS E.heap.size D _ wr a2)) ?_;rintro _ _⟨rfl,rfl⟩;refine(O 1∘Zc (MS E.heap.size D _ wr a2)) ?_;rintro _ _⟨rfl,rfl⟩;refine(O 1) ?_;refine Mc 1 ([Ee W]) Z Z iq Ih Z Bc Z Z Z Bh Bc ?_;rintro eb we ck cq al;refine(O 6) ?_;have xe:=f.trans al;refine(Zv (Bo (o.a xe))∘O 4)<|Lo (fun((i,vo,g):Y×Ah×Ad)=>(i<=Alz p.v/\Bn g wr.heap.size 226 2 vo (i+1) (Jk (W::(p.v.take i).map dShow))/\Be wr g,[(2,.pointer (J ⟨ob,0,Aa⟩)),(9,vo),(65,.slice (J ⟨b1,o1,Aa⟩) (Alz p.v) c1),(66,Bb ((Alz p.v:Y):H)),(67,Bb i)],g,Alz p.v-i)) (0,(.slice (J ⟨eb,0,Aa⟩) 1 1),we) ?_ ?_
   .exact⟨BC _,Bn.Akk cq ck Z Bc,al⟩
   .rintro⟨i,vo,g⟩⟨hi,N,G⟩;have xq:=xr.trans G;have bn:=bm.trans (G.mono (BA hB xr.size));obtain⟨Ao,co,rfl,_,a5⟩:=N.slice;refine(O 5)<|Zi (fun C=>?_) fun C=>?_
    .obtain⟨At,ct,e1,e2⟩:=s2.row i C;have b9:=A _ (BL C);have P:=V _ (BL C);have r:(p.v.take (i+1)).map dShow=(p.v.take i).map dShow++[dShow p.v[i]]:=by rw[dL C,DW];rfl
     generalize p.v[i]=t at e1 e2 b9 P r;refine(O 6∘Zv (BR (bx g bn i _ e1))∘O 5∘Zc (uV t X X (fun x f=>P.pos x f) At ct B g (e2.below bn))) ?_;rintro _ wa⟨rfl,b4⟩;refine(O 3∘Zn) ?_;rintro bb c4 cx cr ao;refine(Zs cr) ?_;rintro wc ab cg;refine(O 4) ?_;replace ab:Bk wc bb 226 (Ee (dShow t)):=ab;have b3:Be wa wc:=Bp ao cg ao.size Bv;have af:=b4.trans b3;refine(Zv (BX ab)∘Kx (G.trans af) (N.a af)) ?_;rintro _ v4 w4 ai c3 _;refine(O 7) ?_;have e4:Jk (W::(p.v.take i).map dShow)++Ee (dShow t)=Jk (W::(p.v.take (i+1)).map dShow):=by rw[r];simp[Jk]
     rw[e4]at ai;refine Lb ((i+1),v4,w4) ?_;grind
    .obtain rfl:i=Alz p.v:=X;rw[DY]at a5;have cp:(W::p.v.map dShow).flatten=planBits p:=by rw[cc,PS,IU]
     have d:∀l∈W::p.v.map dShow,Alz l<=100000000:=fun l hl=>by
      rcases List.mem_cons.1 hl with rfl|hl
      .omega
      .obtain⟨t,ht,rfl⟩:=Cr.1 hl;have:=UK (fun x f=>((V t ht).pos x f).2) (fun e=>by have:=A t ht;rw[e]at this;simp at this;omega);grind
     have cj:=Nu (W::p.v.map dShow) d Bv Bf Ao co _ g a5;rw[cp,CF,Dl]at cj;refine(O 4∘Zc cj) ?_;rintro _ wj⟨rfl,aj⟩;refine(O 2) ?_;have cd:=cf.a ((f.trans G).trans aj);refine(Zs cd) ?_;rintro w9 ce L;refine(O 2) ?_;have xj:=xq.trans aj;refine(Dx ce) ?_;exact⟨Z,Bp xj L xj.size Bv⟩
def Aix(B rb:Y)(s:Bg)(p most:Y)(hm:most<=1000000)(hp:p<=8*Alz s)(hs:Alz s<=140737488355328)(w:Ad)(h:RdAt w B rb s p):
 Bm eD 200 [.pointer (J ⟨rb,0,Aa⟩),Bb (most:H)] w fun v w'=>(∃k e:Y,v=.tuple #[Bb (k:H),Bb (e:H)]/\((e=0/\∃q,Ju s most p (most+1) 0=J (k,q)/\k<=most/\q<=8*Alz s/\RdAt w' B rb s q)∨(ER e/\Ju s most p (most+1) 0=Aa)))/\Tm w w' B Ia:=
 (Aiw B rb s p most hm hp hs w h).mono fun v w'⟨h,t⟩=>by
  refine⟨?_,t⟩;rcases h with⟨k,q,h1,h2,h3,h4,h5⟩|⟨h1,e,h2,h3,h4,_⟩
  .grind
  .exact⟨0,e,h4,.inr ⟨⟨h2,h3⟩,h1⟩⟩
abbrev LLN:=Ae (Bj)
def Ahs(s:Bg)(most k:Y)(l:Bj)(p:Y)(a:Bj):KN s most (k+1) l p a=match Ju s most p (most+1) 0 with
 |none=>Aa
 |some (j,q)=>KN s most k (EI l j) q (a++[l.getD j 0]):=by rfl
open Classical in
def Ahy(s:Bg)(n k p:Y)(a:Ae (Bj)):KP s n (k+1) p a=match JN s p n with
 |none=>Aa
 |some (t,q)=>if LOk t then KP s n k q (a++[t])else Aa:=by rfl
def Aht(s:Bg)(most:Y)(l:Bj)(p:Y)(a:Bj):KN s most 0 l p a=J (a,p):=by rfl
def Ahz(s:Bg)(n p:Y)(a:Ae (Bj)):KP s n 0 p a=J (a,p):=by rfl
def ay{p j i v G n a:Ad}{r y rb q:Y}{s:Bg}{w d:Ah}{o lc C:Bj}{x:Y}(hr:RdAt i p.heap.size rb s q)(S:Bk i r 3 (BD .i64 lc))(D:Bk i y 260 [.slice Aa 0 0,w])(m:Bn i j.heap.size 3 1 w (Alz o) (BD .i64 o))(x7:Be p i)(W:p.heap.size<=j.heap.size)(V:j.heap.size<=i.heap.size)(N:p.heap.size<=r/\r<j.heap.size)(I:p.heap.size<=y/\y<j.heap.size)
 (Q:Bk v r 3 (BD .i64 C)) (l:Mo i.drew v [r]) (f:Be v G) (e:Bn n 0 3 1 d (Alz o+1) (BD .i64 o++[Bb (x:H)])) (h:G.grownBy n (Pi w)) (ab:Pi d=Pi w∨Pi d=J G.heap.size) (af:Bk a y 260 [.slice Aa 0 0,d]) (g:Mo n a [y]):
 RdAt a p.heap.size rb s q/\Bk a r 3 (BD .i64 C)/\Bn a j.heap.size 3 1 d (Alz (o++[x])) (BD .i64 (o++[x]))/\j.heap.size<=a.heap.size/\Be p a:=by
 have L:=D.ne S Bh;have ai:=fun k hk=>(m.lt k hk).1;have K:=(D.drew.j l (by simpa using L)).a f;have E:=K.grown h Bf;have B:Bn v j.heap.size 3 1 w (Alz o) (BD .i64 o):=(m.a (Be.drew i)).j l Bf;have A:=B.a f
 let P:Aw->Ar:=fun T=>T==3||T==260
 have m1:∀T,(T==3)=Af->P T=Af:=Bf;have m2:∀T,(T==260)=Af->P T=Af:=Bf;have t:=((((Tm.Akj (Be.drew _) _ _).trans ((Tm.set Ck l N.1).mono m1)).trans (Tm.Akj f _ _)).trans ((Tm.grown (Bn.l A W) h).mono m1)).trans ((Tm.set E g I.1).mono m2);refine⟨hr.tm t Z Z,((Q.a f).grown h Bf).j g Bf,?_,BA V t.size,t.below x7 X X⟩;have al:i.heap.size<=v.heap.size:=l.size;have aj:=f.size;rw[KG]at e;rw[Bx];have hb:∀k,Pi d=J k->j.heap.size<=k:=Bf;exact(Bn.base e hb).j g Bf
def xG(s:Bg)(p n:Y)(hp:p<=8*Alz s)(hn:3<=n/\n<=258)(hs:Alz s<=1000000000)(w:Ad):
 Bm eD 161 [str s,Bb (p:H),Bb (n:H)] w fun v w'=>(∃cs,∃q e:Y,v=.tuple #[.agg (LZ cs),Bb (q:H),Bb (e:H)]/\((e=0/\∃pl,MN s p n=J (pl,q)/\pl.q n/\PlanAt w' w'.heap.size cs pl/\q<=8*Alz s)∨(ER e/\MN s p n=Aa/\cs=[.slice Aa 0 0,.slice Aa 0 0])))/\Be w w':=by
 obtain⟨d4,d3⟩:=hn;obtain⟨v0,e0,q0,dp,c5⟩:=LG s p 3;refine Bw Bh Z ntmps161 Bi Z ?_;refine(O 2∘Zn) ?_;rintro ob P eo bm ba;refine(O 7) ?_;have cj:=ba.size;refine(Zc (Pc s p hp X P)) ?_;rintro _ w2⟨rb,rfl,dc,Q⟩;refine(O 4) ?_;have x2:=ba.trans Q;have d1:=bm.a Q;refine Lc (fun(d2:Ar)=>(d2=Ai,[(0,str (s)),(2,Bb n),(6,.pointer (J ⟨ob,0,Aa⟩)),(9,.pointer (J ⟨rb,0,Aa⟩)),(32,.bool d2)],w2)) ?_ ?_
 .refine(O 4) ?_;refine OW.as 25 (.bool Ai) Z (Z)<|(O 4)<|Zd 29 (fun c1=>?_) fun c1=>?_
  .omega
  .refine(O 4∘Lm (decide (n>258))) ?_;grind
 .rintro d2 rfl;refine(O 5) ?_;have c1:=LJ P.heap.size rb s p 3 Bc hp X w2 dc;rw[dp]at c1;refine(Zc c1) ?_;rintro _ w3⟨rfl,dk,t3⟩;refine(O 12) ?_;have x3:Be w w3:=t3.below x2 x2.size cj;have b7:=t3.bk d1 Z;refine Zi (fun he=>?_) fun he=>?_
  .rcases c5 with⟨h,rfl,rfl,rfl⟩|⟨h,rfl,rfl,rfl⟩
   .refine(O 4∘Zs b7) ?_;rintro w4 af b8;refine(O 3) ?_;refine DC<|Hr Z iF Z NM Z Z Z (af) Z ?_;refine⟨⟨_,0,10,Z,.inr ⟨⟨Bc,Bc⟩,Aj h,Z⟩⟩,Bp x3 b8 x3.size Bv⟩
   .exact AH Z he
  .rcases c5 with⟨h,rfl,rfl,rfl⟩|⟨h,rfl,rfl,rfl⟩
   .exact AH (show(10:Y)≠0 by decide) he
   .have hM:=Ky s p 3
    have d:MN s p n=if num (BT s p 3)<2∨6<num (BT s p 3)then Aa else if 8*Alz s<p+3+15 then Aa else if num (BT s (p+3) 15)=0 then Aa else match KN s (num (BT s p 3)-1) (num (BT s (p+3) 15)) (BE (num (BT s p 3))) (p+18) []with
     |none=>Aa
     |some (picks,q)=>(KP s n (num (BT s p 3)) q []).map fun r=>(⟨r.1,picks⟩,r.2):=Ag X
    generalize num (BT s p 3)=M at d hM;refine(O 3)<|Lc (fun(d7:Ar)=>(d7=decide (M<2∨6<M),[(0,str (s)),(2,Bb n),(6,.pointer (J ⟨ob,0,Aa⟩)),(9,.pointer (J ⟨rb,0,Aa⟩)),(10,.int .u64 M),(48,.bool d7)],w3)) ?_ ?_
    .refine(O 4)<|Zd 45 (fun c2=>?_) fun c2=>?_
     .refine(O 4∘Lm Af) ?_;grind
     .refine(O 4∘Lm (decide (M>6))) ?_;grind
    .rintro d7 rfl;refine Zi (fun bl=>?_) fun bl=>?_
     .rw[Aj bl]at d;refine(O 3∘Zs b7) ?_;rintro w4 af b8;refine(O 3) ?_;refine DC<|Hr Z iF Z NM Z Z Z (af) Z ?_;refine⟨⟨_,0,110,Z,.inr ⟨⟨Bc,Bc⟩,d,Z⟩⟩,Bp x3 b8 x3.size Bv⟩
     .rw[Ag bl]at d;obtain⟨v1,e1,q1,dn,c4⟩:=LG s (p+3) 15;have c3:=LJ P.heap.size rb s (p+3) 15 Bc h X w3 dk;rw[dn]at c3;refine(O 4∘Zc c3) ?_;rintro _ w4⟨rfl,dg,t4⟩;refine(O 12) ?_;have x4:Be w w4:=t4.below x3 x3.size cj;have af:=t4.bk b7 Z;refine Zi (fun cb=>?_) fun cb=>?_
      .rcases c4 with⟨h1,rfl,rfl,rfl⟩|⟨h1,rfl,rfl,rfl⟩
       .rw[Aj h1]at d;refine(O 4∘Zs af) ?_;rintro w5 a1 a2;refine(O 3) ?_;refine DC<|Hr Z iF Z NM Z Z Z (a1) Z ?_;refine⟨⟨_,0,10,Z,.inr ⟨⟨Bc,Bc⟩,d,Z⟩⟩,Bp x4 a2 x4.size Bv⟩
       .exact AH Z cb
      .rcases c4 with⟨h1,rfl,rfl,rfl⟩|⟨h1,rfl,rfl,rfl⟩
       .exact AH (show(10:Y)≠0 by decide) cb
       .have hK:=Ky s (p+3) 15;rw[Ag X]at d;generalize num (BT s (p+3) 15)=K at d hK;refine(O 7)<|Zi (fun b9=>?_) fun b9=>?_
        .rw[Aj b9]at d;refine(O 3∘Zs af) ?_;rintro w5 a1 a2;refine(O 3) ?_;refine DC<|Hr Z iF Z NM Z Z Z (a1) Z ?_;refine⟨⟨_,0,110,Z,.inr ⟨⟨Bc,Bc⟩,d,Z⟩⟩,Bp x4 a2 x4.size Bv⟩
        .rw[Ag b9]at d;have e5:2<=M/\M<=6:=X;have ep:K<32768:=hK;refine(O 3∘Zn) ?_;rintro pb w5 en cq a9;refine(O 5∘Zc (jz M X w5)) ?_;rintro _ w6⟨gb,rfl,e4,c0,a4⟩;refine(O 9) ?_;have x6:=(x4.trans a9).trans a4;have dv:=cq.a a4;have ez:=(af.a a9).a a4;have df:=(dg.a a9).a a4;have et:=cq.lt;have e3:=c0.lt;have ey:=af.lt;have er:=x6.size;have ce:Be P w6:=(((t4.below (t3.below Q Q.size (Bq _)) (t3.below Q Q.size (Bq _)).size (Bq _)).trans (a9.mono (by have:=t3.size;have:=t4.size;have:=Q.size;omega))).trans (a4.mono (by have:=t3.size;have:=t4.size;have:=Q.size;omega)));have cd:=ce.size;have e7:=a9.size;have e6:=a4.size;have e8:P.heap.size<=w4.heap.size:=by have:=t3.size;have:=t4.size;have:=Q.size;omega
         have el:M-1+1=M:=X;refine Lo (fun((i,lc,q,o,vo,wr):Y×(Bj)×Y×(Bj)×Ah×Ad)=>(i<=K/\Alz lc=M/\(∀x∈lc,x<M)/\q<=8*Alz s/\KN s (M-1) (K-i) lc q o=KN s (M-1) K (BE M) (p+18) []/\Alz o=i/\(∀x∈o,x<M)/\RdAt wr P.heap.size rb s q/\Bk wr gb 3 (BD .i64 lc)/\Bk wr pb 260 [.slice Aa 0 0,vo]/\Bn wr w6.heap.size 3 1 vo (Alz o) (BD .i64 o)/\w6.heap.size<=wr.heap.size/\Be P wr,[(0,str (s)),(2,Bb n),(6,.pointer (J ⟨ob,0,Aa⟩)),(9,.pointer (J ⟨rb,0,Aa⟩)),(10,.int .u64 M),(13,.pointer (J ⟨pb,0,Aa⟩)),(14,.slice (J ⟨gb,0,Aa⟩) M M),(65,.int .u64 K),(66,.int .u64 i)],wr,K-i)) (0,(BE M),(p+18),([]),(.slice Aa 0 0),w6) ?_ ?_
         .exact⟨BC _,Hf,fun x hx=>DX.1 hx,X,Z,Z,Bh,df,c0,dv,Bn.nil _ _ _ _,Bq _,ce⟩
         .rintro⟨i,lc,q,o,vo,wr⟩⟨hi,cx,cw,hq,ao,eh,ew,cl,d9,cn,bx,ee,a8⟩;refine(O 5)<|Zi (fun hc=>?_) fun hc=>?_
          .obtain⟨j,hj⟩:∃j,K-i=j+1:=⟨K-i-1,X⟩;rw[hj,Ahs]at ao;have cu:=Aix P.heap.size rb s q (M-1) X hq X wr cl;refine(O 9∘Zc cu) ?_;rintro _ w7⟨⟨k,e,rfl,A⟩,t7⟩;refine(O 8) ?_;have bj:=t7.bk d9 Z;have I:=t7.bk cn Z;have g:=t7.y bx Z;have x7:Be P w7:=t7.below a8 a8.size (Bq _);refine Ld (fun(e2:Y)=>((e=0->e2=0)/\(e≠0->ER e2),[(0,str (s)),(2,Bb n),(6,.pointer (J ⟨ob,0,Aa⟩)),(9,.pointer (J ⟨rb,0,Aa⟩)),(10,.int .u64 M),(13,.pointer (J ⟨pb,0,Aa⟩)),(14,.slice (J ⟨gb,0,Aa⟩) M M),(15,Bb k),(16,Bb e2),(65,.int .u64 K),(66,.int .u64 i)],w7)) ?_ ?_
           .refine(O 4)<|Zi (fun h3=>?_) fun h3=>?_
            .refine(O 3∘Lm 110) ?_;exact⟨fun z=>by omega,fun _=>⟨Bc,Bc⟩⟩
            .refine(O 1∘Lm e) ?_;grind
           .rintro e2⟨ch,bs⟩;refine(O 6)<|Zi (fun ai=>?_) fun ai=>?_
            .have bn:MN s p n=Aa:=by
              rcases A with⟨h,_⟩|⟨_,h⟩
              .omega
              .grind
             have b6:=bm.a x7;have ea:e≠0:=fun z=>ai (ch z);have xw:=ba.trans x7;refine(O 4∘Zs b6) ?_;rintro w5 a1 a2;refine(O 3) ?_;refine DC<|Hr Z iF Z NM Z Z Z (a1) Z ?_;refine⟨⟨_,0,e2,Z,.inr ⟨bs ea,bn,Z⟩⟩,Bp xw a2 xw.size Bv⟩
            .rcases A with⟨rfl,q2,g1,g2,g3,b2⟩|⟨g1,g2⟩
             .have bf:k<Alz lc:=X;rw[g1]at ao;simp only at ao;have cz:lc.getD k 0=lc[k]:=by simp[bf]
              have d5:=cw _ (BL bf);have cm:=jv lc k gb bf X w7.drew bj.drew;rw[cx,cz]at cm;rw[cz]at ao;generalize lc[k]=x at ao d5 cm;refine(O 1)<|Lc (fun((vq,V):Ah×Ad)=>(RdAt V P.heap.size rb s q2/\Bk V gb 3 (BD .i64 (EI lc k))/\Bn V w6.heap.size 3 1 vq (Alz (o++[x])) (BD .i64 (o++[x]))/\w6.heap.size<=V.heap.size/\Be P V/\Bk V pb 260 [.slice Aa 0 0,vq],[(0,str (s)),(2,Bb n),(6,.pointer (J ⟨ob,0,Aa⟩)),(9,.pointer (J ⟨rb,0,Aa⟩)),(10,.int .u64 M),(13,.pointer (J ⟨pb,0,Aa⟩)),(14,.slice (J ⟨gb,0,Aa⟩) M M),(65,.int .u64 K),(66,.int .u64 i)],V)) ?_ ?_
              .have cc:w6.heap.size<=w7.heap.size:=BA ee t7.size;have em:=fun k hk=>(g.lt k hk).1;have ca:pb≠gb:=I.ne bj Bc;have bi:P.heap.size<=gb:=X;have bh:gb<w6.heap.size:=X;have bd:P.heap.size<=pb:=X;have bc:pb<w6.heap.size:=X;have L:∀w8,Mo w7.drew w8 [gb]->Bn w8 w6.heap.size 3 1 vo (Alz o) (BD .i64 o):=fun w8 f=>(g.a (Be.drew w7)).j f fun k hk=>by grind
               have b3:∀w8 w9 N,Mo w7.drew w8 [gb]->Be w8 w9->w9.grownBy N (Pi vo)->Bk N pb 260 [.slice Aa 0 0,vo]:=fun w8 w9 N a b c=>((I.drew.j a (by simpa using ca)).a b).grown c fun e=>by grind
               refine(Yr 9 (fun w'=>True) Ay) fun hS=>(Gv [0,2,3])<|Ye 1 4 ?_ ?_
               .refine(Jo 1 (he:=by exact Bo I.drew)) fun hS=>(Yc 4 cm) ?_;rintro _ w8⟨rfl,bq,f⟩;refine⟨Ay,fun hS=>?_⟩;refine PP 5 1 Z Bi Z Z hU BZ Z Z Z Z Z Bc ?_;rintro eb w9 b0 al D;refine⟨Ay,fun hS=>?_⟩;refine GW.append 6 0 Z Bi Z Z hU BZ Z Bc Z Z (((L w8 f).a D).l (BC _)) (Src.Akm (m:=1) hU (Sl.Akk al al.lt) Z (Ly (k:=.i64) (l:=[x])) Bc) CB X (BC _) ?_;rintro a7 N E C W;have ab:=b3 w8 w9 N f D C;refine⟨Ay,fun hS=>?_⟩;refine(Gv [7]∘Yt 8 ab) ?_;rintro a6 B aj;refine⟨Ay,fun hS=>?_⟩;refine(Yd∘Lm (a7,a6)) ?_;obtain⟨y1,y2,y3,y4,y5⟩:=ay b2 bj I g x7 cd cc ⟨bi,bh⟩ ⟨bd,bc⟩ bq f D E C W B aj;exact⟨y1,y2,y3,y4,y5,B⟩
               .refine(Jc 4 cm) ?_;rintro _ w8⟨rfl,bq,f⟩;refine⟨Ay,fun hS=>?_⟩;refine Ye 1 5 ?_ ?_
                .refine(Jo 1 (he:=by exact Bo (I.drew.j f (by simpa using ca)))) fun hS=>?_;refine PP 5 1 Z Bi Z Z hU BZ Z Z Z Z Z Bc ?_;rintro eb w9 b0 al D;refine⟨Ay,fun hS=>?_⟩;refine GW.append 6 0 Z Bi Z Z hU BZ Z Bc Z Z (((L w8 f).a D).l (BC _)) (Src.Akm (m:=1) hU (Sl.Akk al al.lt) Z (Ly (k:=.i64) (l:=[x])) Bc) CB X (BC _) ?_;rintro a7 N E C W;have ab:=b3 w8 w9 N f D C;refine⟨Ay,fun hS=>?_⟩;refine(Gv [7]∘Yt 8 ab) ?_;rintro a6 B aj;refine⟨Ay,fun hS=>?_⟩;refine(Yd∘Lm (a7,a6)) ?_;obtain⟨y1,y2,y3,y4,y5⟩:=ay b2 bj I g x7 cd cc ⟨bi,bh⟩ ⟨bd,bc⟩ bq f D E C W B aj;exact⟨y1,y2,y3,y4,y5,B⟩
                .refine JA 5 1 Z Z Z hU BZ Z Z Z Z Z Bc ?_;rintro eb w9 b0 al D;refine⟨Ay,fun hS=>?_⟩;refine(Yo 1 (he:=by exact Bo ((I.drew.j f (by simpa using ca)).a D))) fun hS=>?_;refine GW.append 6 0 Z Bi Z Z hU BZ Z Bc Z Z (((L w8 f).a D).l (BC _)) (Src.Akm (m:=1) hU (Sl.Akk al al.lt) Z (Ly (k:=.i64) (l:=[x])) Bc) CB X (BC _) ?_;rintro a7 N E C W;have ab:=b3 w8 w9 N f D C;refine⟨Ay,fun hS=>?_⟩;refine(Gv [7]∘Yt 8 ab) ?_;rintro a6 B aj;refine⟨Ay,fun hS=>?_⟩;refine(Yd∘Lm (a7,a6)) ?_;obtain⟨y1,y2,y3,y4,y5⟩:=ay b2 bj I g x7 cd cc ⟨bi,bh⟩ ⟨bd,bc⟩ bq f D E C W B aj;exact⟨y1,y2,y3,y4,y5,B⟩
              .rintro⟨vq,V⟩⟨y1,y2,y3,y4,y5,y6⟩;refine(O 5)<|Lb ((i+1),(EI lc k),q2,(o++[x]),vq,V) ?_;exact⟨hc,(Pa bf).trans cx,fun z hz=>cw z ((SH bf z).1 hz),g3,Bf,by rw[Bx,CL];omega,fun z hz=>by grind,y1,y2,y6,y3,y4,y5⟩
             .exact AH (Dd.1 ai) (by have:=bs (by have:=g1.1;omega);have:=this.1;omega)
          .obtain rfl:i=K:=X;rw[EY,Aht]at ao;rw[<-ao]at d;simp only at d;refine(O 4∘Zc (SU P.heap.size rb s q wr cl)) ?_;rintro _ _⟨rfl,rfl⟩;refine(O 9) ?_;have eg:pb<wr.heap.size:=X
           let P2:Aw->Ar:=fun T=>T==51||T==260
           have m1:∀T,(T==51)=Af->P2 T=Af:=fun T h=>by simp[P2,h]
           have m2:∀T,(T==260)=Af->P2 T=Af:=fun T h=>by simp[P2,h]
           refine Lo (fun((i,a,ts,us,vt,V):Y×Y×LLN×(Bl)×Ah×Ad)=>(i<=M/\KP s n (M-i) a ts=KP s n M q []/\Alz ts=i/\(∀t∈ts,Alz t=n/\LOk t)/\a<=8*Alz s/\Bn V wr.heap.size 51 1 vt i us/\GF V wr.heap.size us ts/\Bk V pb 260 [vt,vo]/\Tm wr V P.heap.size P2,[(0,str (s)),(1,Bb a),(2,Bb n),(6,.pointer (J ⟨ob,0,Aa⟩)),(13,.pointer (J ⟨pb,0,Aa⟩)),(93,.int .u64 M),(94,.int .u64 i)],V,M-i)) (0,q,([]),([]),(.slice Aa 0 0),wr) ?_ ?_
           .exact⟨BC _,Z,Z,Bh,hq,Bn.nil _ _ _ _,⟨Z,fun i hi=>by grind⟩,cn,Tm.refl _ _ _⟩
           .rintro⟨i,a,ts,us,vt,V⟩⟨hi,G,es,ck,ha,a0,bb,co,tq⟩;have xq:Be P V:=tq.below a8 a8.size (Bq _);refine(O 5)<|Zi (fun ec=>?_) fun ec=>?_
            .obtain⟨j,hj⟩:∃j,M-i=j+1:=⟨M-i-1,X⟩;rw[hj,Ahy]at G;refine(O 8∘Zc (uY s a n ha ⟨X,X⟩ hs V)) ?_;rintro _ w7⟨⟨u,t,q2,e,rfl,cr,A⟩,a3⟩;obtain⟨At,ct,rfl,_,c7⟩:=cr.sl;refine(O 10) ?_;have x7:Be P w7:=xq.trans a3;refine Ld (fun(e2:Y)=>(e2=(if e=0 then GJ t else e),[(0,str (s)),(2,Bb n),(6,.pointer (J ⟨ob,0,Aa⟩)),(13,.pointer (J ⟨pb,0,Aa⟩)),(17,.slice At (Alz t) ct),(18,Bb q2),(19,Bb e2),(93,.int .u64 M),(94,.int .u64 i)],w7)) ?_ ?_
             .refine(O 4)<|Zi (fun S=>?_) fun S=>?_
              .rcases A with⟨_,h2,h3,h4,h5⟩|⟨h1,_⟩
               .refine(O 2∘Zc (ZA t X (fun x hx=>by grind) At ct _ w7 c7)) ?_;rintro _ _⟨rfl,rfl⟩;refine(O 2∘Lm (GJ t)) ?_;grind
               .exact AH S (by have:=h1.1;omega)
              .refine(O 1∘Lm e) ?_;grind
             .rintro e2 S;refine(O 6)<|Zi (fun ai=>?_) fun ai=>?_
              .have bn:ER e2/\MN s p n=Aa:=by
                rcases A with⟨h1,h2,h3,h4,h5⟩|⟨h1,h2⟩
                .rw[Aj h1]at S;rw[h2]at G;have cv:¬LOk t:=fun z=>ai (by rw[S];exact Aj ⟨X,X,z⟩);simp only at G;rw[Ag cv]at G;rw[<-G]at d;refine⟨?_,d⟩;rw[S,show GJ t=80 from Ag fun z=>cv z.2.2];exact⟨Bc,Bc⟩
                .rw[Ag (by have:=h1.1;omega)]at S;grind
               have b6:=bm.a x7;have xw:=ba.trans x7;refine(O 4∘Zs b6) ?_;rintro w5 a1 a2;refine(O 3) ?_;refine DC<|Hr Z iF Z NM Z Z Z (a1) Z ?_;exact⟨⟨_,0,e2,Z,.inr ⟨bn.1,bn.2,Z⟩⟩,Bp xw a2 xw.size Bv⟩
              .have c6:e=0/\JN s a n=J (t,q2)/\Alz t=n/\LOk t/\q2<=8*Alz s:=by
                rcases A with⟨h1,h2,h3,h4,h5⟩|⟨h1,h2⟩
                .refine⟨h1,h2,h3,IM fun z=>ai ?_,h5⟩;rw[S,Aj h1,show GJ t=80 from Ag fun y=>z y.2.2];decide
                .exact AH (by rw[S,Ag (by have:=h1.1;omega)];have:=h1.1;omega) ai
               obtain⟨rfl,g2,g3,g4,g5⟩:=c6;rw[g2]at G;simp only at G;rw[Aj g4]at G;have I:=co.a a3;have g:=a0.a a3;have da:wr.heap.size<=w7.heap.size:=BA tq.size a3.size;have db:=a8.size;refine(O 6∘Qk wr.heap.size da g) ?_;rintro _ v8 w8 L f ed;refine(O 1) ?_;have d8:=fun k hk=>(g.lt k hk).1;have d6:=fun k hk=>(L.lt k hk).1;have cp:=I.j f fun z=>by grind
               refine(Zt cp) ?_;rintro w9 ds a5;refine(O 10) ?_;have cf:Tm w7 w9 P.heap.size P2:=((Tm.Akw (Bn.l g db) f).mono m1).trans ((Tm.set cp a5 X).mono m2);have t9:Tm wr w9 P.heap.size P2:=(tq.trans (Tm.Akj a3 _ _)).trans cf;refine Lb ((i+1),q2,(ts++[t]),(us++[.slice At (Alz t) ct]),v8,w9) ?_;refine⟨X,Bf,by rw[Bx,CL];omega,fun z hz=>?_,g5,L.j a5 (fun k hk=>by grind),((bb.a a3).snoc (Bn.l cr tq.size)).tm cf Z,ds,t9⟩;grind
            .obtain rfl:i=M:=X;rw[EY,Ahz]at G;rw[<-G]at d;have b5:=bm.a xq;have b4:=tq.y bx Z;refine(O 3∘Zv (BX co)∘O 1∘Zs b5) ?_;rintro w9 d0 a5;refine(O 3) ?_;have t9:=Tm.set b5 a5 (BC ob);have xw:=ba.trans xq;have ek:=b5.lt;obtain⟨A2,c2,rfl,_,c8⟩:=(t9.y b4 Z).slice;have cg:=a0.j a5 fun k hk=>by have:=(a0.lt k hk).1;simp;omega
             obtain⟨A1,ef,rfl,_,c9⟩:=cg.slice;have b1:=(bb.tm t9 Z).rows;refine DC<|Hr Z iF Z NM Z Z Z (d0) Z ?_;refine⟨⟨_,a,0,Z,.inl ⟨Z,⟨ts,o⟩,d,⟨Bf,⟨Bf,Bf⟩,fun t ht=>(ck t ht).1,⟨d4,d3⟩,fun t ht=>(ck t ht).2,fun k hk=>by grind⟩,⟨A1,ef,A2,c2,us,Bf,c9,b1,c8⟩,ha⟩⟩,Bp xw a5 xw.size Bv⟩
def FV(w:Ad)(lo:Y)(vs:Bl)(m n:Y)(P:Y->Bj->Prop):Prop:=Alz vs=m/\∀i,i<m->∃u l,vs[i]? =J u/\CT w lo u l/\Alz l=n/\P i l
section
variable{w w1 w2:Ad}{lo g m n i:Y}{vs us:Bl}{P Q:Y->Bj->Prop}{S:Bj}{u:Ah}{l:Bj}
def FV.keep(h:FV w lo vs m n P)(k:∀u l,CT w lo u l->CT w2 lo u l):FV w2 lo vs m n P:=
 ⟨h.1,fun i hi=>by obtain⟨u,l,h1,h2,h3⟩:=h.2 i hi;grind⟩
def FV.imp(h:FV w lo vs m n P)(k:∀i l,i<m->P i l->Q i l):FV w lo vs m n Q:=
 ⟨h.1,fun i hi=>by obtain⟨u,l,h1,h2,h3,h4⟩:=h.2 i hi;grind⟩
def FV.a(h:FV w lo vs m n P)(hx:Be w w2):FV w2 lo vs m n P:=h.keep fun _ _ q=>q.a hx
def FV.j(h:FV w lo vs m n P)(hm:Mo w w2 [g])(hg:g<lo):FV w2 lo vs m n P:=h.keep fun _ _ q=>Bn.j q hm fun k hk=>by have:=(q.lt k hk).1;grind
def FV.moS(h:FV w lo vs m n P)(hm:Mo w w2 S)(hS:∀k∈S,k<lo):FV w2 lo vs m n P:=h.keep fun _ _ q=>Bn.j q hm fun k hk z=>by have:=(q.lt k hk).1;grind
def FV.set(h:FV w lo vs m n P)(hi:i<m)(d:CT w lo u l)(hl:Alz l=n)(k:Q i l)(f:∀j l,j≠i->P j l->Q j l):FV w lo (vs.set i u) m n Q:=by
 refine⟨by rw[Hg];exact h.1,fun j a=>?_⟩;rw[RQ];by_cases e:i=j
 .subst e;rw[Aj Z,Aj (by rw[h.1];omega)];grind
 .rw[Ag e];obtain⟨u,l,r,q,p,o⟩:=h.2 j a;grind
def FV.snoc(h:FV w lo vs m n P)(a:CT w lo u l)(hl:Alz l=n)(e:P m l):FV w lo (vs++[u]) (m+1) n P:=by
 refine⟨by rw[Bx,h.1];rfl,fun j d=>?_⟩;rcases CM j m with q|q
 .rw[FR (by rw[h.1];omega)];exact h.2 j q
 .obtain rfl:j=m:=X;rw[Io (by rw[h.1];simp),h.1,EY];grind
def FV.lists(h:FV w lo vs m n P):∃ls:Ae (Bj),Alz ls=m/\GF w lo vs ls/\∀i (hi:i<Alz ls),Alz ls[i]=n/\P i ls[i]:=by
 have e:∀i,i<m->∃l,∃u,vs[i]? =J u/\CT w lo u l/\Alz l=n/\P i l:=fun i hi=>by
  obtain⟨u,l,q⟩:=h.2 i hi;grind
 let f:Y->Bj:=fun i=>open Classical in if q:∃l,∃u,vs[i]? =J u/\CT w lo u l/\Alz l=n/\P i l then q.choose else[]
 have d:∀i,i<m->∃u,vs[i]? =J u/\CT w lo u (f i)/\Alz (f i)=n/\P i (f i):=fun i hi=>by
  grind
 have a:Alz ((BE m).map f)=m:=Bh;refine⟨(BE m).map f,a,⟨by rw[a];exact h.1,fun i hi=>?_⟩,fun i hi=>?_⟩
 .obtain⟨u,o,k,j⟩:=d i X;simp_all
 .obtain⟨u,o,k,j⟩:=d i X;simp_all
def Ll(w:Ad)(lo:Y)(us:Bl)(m n:Y)(P:Y->Bj->Prop):Prop:=Alz us=m/\(∀i,i<m->∃g l,us[i]? =J (.slice (J ⟨g,0,Aa⟩) n n)/\lo<=g/\Bk w g 3 (BD .i64 l)/\Alz l=n/\P i l)/\∀i j g,i<m->j<m->us[i]? =J (.slice (J ⟨g,0,Aa⟩) n n)->us[j]? =J (.slice (J ⟨g,0,Aa⟩) n n)->i=j
def Ll.keep{P Q:Y->Bj->Prop}(h:Ll w lo us m n P)(k:∀g l,lo<=g->Bk w g 3 (BD .i64 l)->Bk w2 g 3 (BD .i64 l))(hP:∀i l,P i l->Q i l):Ll w2 lo us m n Q:=
 ⟨h.1,fun i hi=>by obtain⟨g,l,h1,h2,h3,h4,h5⟩:=h.2.1 i hi;grind,h.2.2⟩
def Ll.lt{P:Y->Bj->Prop}(h:Ll w lo us m n P){i g:Y}(hi:i<m)(e:us[i]? =J (.slice (J ⟨g,0,Aa⟩) n n)):g<w.heap.size:=by
 obtain⟨j,l,d,f,a,_⟩:=h.2.1 i hi;rw[d]at e;cases e;exact a.lt
def Ll.snoc{P:Y->Bj->Prop}(h:Ll w lo us m n P)(hf:∀i,i<m->¬us[i]? =J (.slice (J ⟨g,0,Aa⟩) n n))(f:lo<=g)(t:Bk w g 3 (BD .i64 l))(hl:Alz l=n)(x:P m l):Ll w lo (us++[.slice (J ⟨g,0,Aa⟩) n n]) (m+1) n P:=by
 have a:∀i,i<m->(us++[Value.slice (J ⟨g,0,Aa⟩) n n])[i]? =us[i]?:=fun i o=>FR (by rw[h.1];omega)
 have v:(us++[Value.slice (J ⟨g,0,Aa⟩) n n])[m]? =J (.slice (J ⟨g,0,Aa⟩) n n):=by
  rw[Io (by rw[h.1];simp),h.1,EY];rfl
 refine⟨by rw[Bx,h.1];rfl,fun j k=>?_,fun i j r o k e d=>?_⟩
 .rcases CM j m with q|q
  .rw[a j q];exact h.2.1 j q
  .grind
 .rcases CM i m with p|p<;>rcases CM j m with q|q
  .rw[a i p]at e;rw[a j q]at d;exact h.2.2 i j r p q e d
  .grind
  .grind
  .omega
def Ll.put{P Q:Y->Bj->Prop}(h:Ll w lo us m n P)(hi:i<m)(he:us[i]? =J (.slice (J ⟨g,0,Aa⟩) n n))(hm:Mo w w2 [g])(hb:Bk w2 g 3 (BD .i64 l))(hl:Alz l=n)(hP:Q i l)(hQ:∀j l,j≠i->P j l->Q j l):Ll w2 lo us m n Q:=
 ⟨h.1,fun j hj=>by
  obtain⟨g',l',h1,h2,h3,h4,h5⟩:=h.2.1 j hj;by_cases e:j=i
  .grind
  .exact⟨g',l',h1,h2,h3.j hm (by simp;rintro rfl;exact e (h.2.2 j i g' hj hi h1 he)),h4,hQ j l' e h5⟩,h.2.2⟩
end
def Up(c:Y)(l:Bj):Prop:=∀x∈l,x<=c
def nC{α:Type}{a b:Ae α}{i:Y}{x v:α}(h:i=Alz a):(a++x::b).set i v=a++v::b:=by
 simp_all
def NF(n many t s:Y):Bj:=(BE s).map (fun s=>if s*many/n=t then 1 else 15)++BH (n-s) 0
def mU{n a t s v:Y}(h:s<n)(hv:v=if s*a/n=t then 1 else 15):(NF n a t s).set s v=NF n a t (s+1):=by
 have e:n-s=(n-(s+1))+1:=X;unfold NF;rw[e,JC,nC Bh,FT,DW,Cq,hv];rfl
def VV(n many:Y):Ae (Bj):=(BE many).map fun t=>NF n many t n
def JJ(tabs:Ae (Bj))(gl:Bj)(t:Y):Y:=(BE t).foldl (fun b t=>if Iw (tabs.getD t []) gl<Iw (tabs.getD b []) gl then t else b) 0
def eM(a:Ae (Bj))(d:Bj):JJ a d 1=0:=by
 unfold JJ;simp
def eO(a:Ae (Bj))(d:Bj)(t:Y):JJ a d (t+1)=if Iw (a.getD t []) d<Iw (a.getD (JJ a d t) []) d then t else JJ a d t:=by
 unfold JJ;rw[FT,PT,Lf,List.foldl_nil]
def Kc(row gl:Bj):Bj:=gl.foldl (fun r y=>r.set y (r.getD y 0+1)) row
def px{row a:Bj}{j:Y}(h:j<Alz a):Kc row (a.take (j+1))=(Kc row (a.take j)).set a[j] ((Kc row (a.take j)).getD a[j] 0+1):=by
 unfold Kc;rw[LY,BQ h,PT];rfl
def wK(tabs:Ae (Bj))(l:Bj)(n many:Y):Y->Y->Bj
 |0,_=>BH n 0
 |k+1,t=>if t=JJ tabs (Ez l k) many then Kc (wK tabs l n many k t) (Ez l k)else wK tabs l n many k t
def Eg(l:Bj)(n many G:Y):Y->Ae (Bj)
 |0=>VV n many
 |r+1=>(BE many).map fun t=>KK (wK (Eg l n many G r) l n many G t)
def QR(l:Bj)(n many G r:Y):Bj:=(BE G).map fun k=>JJ (Eg l n many G r) (Ez l k) many
def Pj(tabs:Ae (Bj))(l:Bj)(many:Y)(ks:Bj)(k:Y):Bj:=(BE k).map (fun k=>JJ tabs (Ez l k) many)++ks.drop k
def Abb{a:Ae (Bj)}{l:Bj}{d:Y}{ks:Bj}{k:Y}(h:k<Alz ks):(Pj a l d ks k).set k (JJ a (Ez l k) d)=Pj a l d ks (k+1):=by
 unfold Pj;rw[DD h,nC Bh,FT,DW,Cq];rfl
def tU{t a:Bj}{i:Y}(h:i<Alz a):Iw t (a.take (i+1))=Iw t (a.take i)+t.getD a[i] 0:=by
 unfold Iw;rw[LY,BQ h,DW,To];rfl
def tV(l:Bj)(n a t k:Y)(ht:t<a)(hk:k<grpN (Alz l))(hn:Alz l<=1638350)(V:∀x∈l,x<n)(A:Av AB)(c C lb I tb lo:Y)(kv:Ah)(vs:Bl)(B:Alz l<=c)(w:Ad)(hs:Sl w C A (BD .i64 l))(aj:Bk w lb 51 [.slice A (Alz l) c])(hp:Bk w I 260 [.slice (J ⟨tb,0,Aa⟩) a a,kv])(L:Bk w tb 51 vs)(h:Ae (Bj))(hr:FV w lo vs a n (fun i l=>Up 20 l/\l=h.getD i [])):
 Bm eD 268 [Bb (t:H),Bb (k:H),.pointer (J ⟨lb,0,Aa⟩),.pointer (J ⟨I,0,Aa⟩)] w fun v w'=>v=Bb ((Iw (h.getD t []) (Ez l k):Y):H)/\w=w':=by
 obtain⟨u,e,hu,T,ai,q,N⟩:=hr.2 t ht;rw[<-N];have W:Alz (Ez l k)<=50:=by unfold Ez;rw[BW];omega
 have r:∀x∈Ez l k,x<n:=fun x hx=>V x (List.mem_of_mem_drop (Kn hx));refine Bw func268 Z ntmps268 (by rfl) Z ?_;refine(O 13∘Zc (jB l k hk X A c C B w hs)) ?_;rintro _ _⟨⟨A',c',rfl,p⟩,rfl⟩;refine(O 4) ?_;generalize Ez l k=gl at W r p;obtain⟨Au,cu,rfl,_,G⟩:=T.sl;refine Lo (fun((i,x):Y×Y)=>(i<=Alz gl/\x<=20*i/\x=Iw e (gl.take i),[(0,Bb t),(3,.pointer (J ⟨I,0,Aa⟩)),(7,Bb x),(12,.slice A' (Alz gl) c'),(13,Bb ((Alz gl:Y):H)),(14,Bb i)],w,Alz gl-i)) (0,0) ?_ ?_
 .exact⟨BC _,BC _,Z⟩
 .rintro⟨i,x⟩⟨hi,hx,af⟩;refine(O 5)<|Zi (fun E=>?_) fun E=>?_
  .obtain⟨b,f,rfl,_,ab⟩:=p.Q X;have j:=ab w (Be.refl _) i E;have K:=r _ (BL E);have o:=tU (t:=e) E;generalize gl[i]=y at j K o;obtain⟨rb,rf,rfl,_,D⟩:=G.Q X;have d:=D w (Be.refl _) y X;have hz:=q _ (BL (show y<Alz e by omega));rw[CG X]at o;generalize e[y]=z at d hz o;refine(O 6∘Zv (BR j)∘O 8∘Zv (Bo L (hi:=hu))∘O 2∘Zv (BR d)∘O 8)<|Lb ((i+1),(x+z)) ?_;omega
  .refine(O 6∘Bu) ?_;grind
def Jw(w:Ad)(lo n m:Y)(cs:Bl)(p:Pl):Prop:=p.q n/\Alz p.C=m/\∀W:Ad,(∀k,lo<=k->k<w.heap.size->W.heap[k]? =w.heap[k]?)->PlanAt W W.heap.size cs p
section
variable{w w':Ad}{lo lo' n m g:Y}{cs:Bl}{p:Pl}
def Jw.a(h:Jw w lo n m cs p)(hx:Be w w'):Jw w' lo n m cs p:=by
 obtain⟨j,i,f⟩:=h;exact⟨j,i,fun W e=>f W fun k d a=>(e k d (Kq a hx.size)).trans (hx.block k a)⟩
def Jw.j(h:Jw w lo n m cs p)(hm:Mo w w' [g])(l:g<lo):Jw w' lo n m cs p:=by
 obtain⟨j,i,f⟩:=h;exact⟨j,i,fun W e=>f W fun k d a=>(e k d (Kq a hm.size)).trans (hm.block k a Bf)⟩
def Jw.now(h:Jw w lo n m cs p):p.q n/\Alz p.C=m/\PlanAt w w.heap.size cs p:=by
 obtain⟨e,d,a⟩:=h;grind
def Jw.G(h:Jw w lo n m cs p)(hl:lo'<=lo):Jw w lo' n m cs p:=by
 obtain⟨j,i,f⟩:=h;exact⟨j,i,fun W e=>f W fun k d a=>e k (BA hl d) a⟩
end
def Mo.Aku{a b c:Ad}{S:Bj}{g:Y}(m:Mo a b S)(k:Mo b c [g])(hg:a.heap.size<=g):Mo a c S:=
 ((m.mono (S':=g::S) Bf).trans (k.mono (S':=g::S) Bh)).fresh Bf
def Mo.G{a b c:Ad}{S:Bj}(m:Mo a b S)(h:Below a.heap.size b c):Mo a c S:=
 ⟨h.os.trans m.os,h.tape.trans m.tape,h.output.trans m.output,BA m.size h.size,fun i hi hS=>(h.block i hi).trans (m.block i hi hS)⟩
def Bk.G{a b:Ad}{B g:Y}{T:Aw}{l:Bl}(h:Bk a g T l)(hb:Below B a b)(hg:g<B):Bk b g T l:=h.of_block (hb.block g hg)
def Up.set{c x i:Y}{l:Bj}(h:Up c l)(hx:x<=c):Up c (l.set i x):=fun y a=>by
 rcases List.mem_or_eq_of_mem_set a with z|z
 .exact h y z
 .omega
def FV.nil{w:Ad}{lo n:Y}{P:Y->Bj->Prop}:FV w lo [] 0 n P:=⟨Z,X⟩
def Kz(l:Bj)(n:Y):Pl:=⟨Eg l n (Gs (Alz l)) (grpN (Alz l)) 4,QR l n (Gs (Alz l)) (grpN (Alz l)) 3⟩
def Ahh{n a t:Y}(h:t<a):(VV n a).getD t []=NF n a t n:=by
 unfold VV;grind
def Ahm{l:Bj}{n a G r t:Y}(h:t<a):(Eg l n a G (r+1)).getD t []=KK (wK (Eg l n a G r) l n a G t):=by
 rw[Eg,Cd,DV,MY h];rfl
def oF(l:Bj)(n many G:Y):∀r,Alz (Eg l n many G r)=many
 |0=>by rw[Eg,VV,Dl,Hf]
 |r+1=>by rw[Eg,Dl,Hf]
def Aba{l:Bj}{n a G r:Y}{ks:Bj}(h:Alz ks=G):Pj (Eg l n a G r) l a ks G=QR l n a G r:=by
 unfold Pj QR;grind
def tT{t a:Bj}(h:Up 20 t)(f:Alz a<=50):Iw t a<=1000:=by
 have:=VS (l:=a.map fun s=>t.getD s 0) (m:=20) fun x d=>by
  obtain⟨y,_,rfl⟩:=Cr.1 d;rw[Cd];rcases e:t[y]? with _|z
  .simp
  .exact h z Bf
 rw[Dl]at this;unfold Iw;omega
def tj(l:Bj)(n:Y)(hn:3<=n/\n<=258)(h1:1<=Alz l)(h2:Alz l<=1638350)(cq:∀x∈l,x<n)(A:Av AB)(c C:Y)(ca:Alz l<=c)(w:Ad)(gg:C<=w.heap.size)(hs:Sl w C A (BD .i64 l)):
 Bm eD 230 [.slice A (Alz l) c,Bb (n:H)] w fun v w'=>(∃cs,v=.tuple #[.agg (LZ cs),Bb ((0:Y):H)]/\Jw w' w.heap.size n (grpN (Alz l)) cs (Kz l n))/\Be w w':=by
 unfold Kz;obtain⟨d0,b9⟩:=kD (Alz l);have e9:=UY h1;have e8:grpN (Alz l)<=32767:=by unfold grpN;omega
 have cx:∀k,k<grpN (Alz l)->Alz (Ez l k)<=50/\50*k+Alz (Ez l k)<=Alz l:=fun k hk=>by
  obtain⟨q1,q2⟩:=jE l hk;omega
 refine Bw Bh Z ntmps230 Bi Z ?_;refine(O 2) ?_;refine Mb Z Z Z Z ?_;rintro lb w1 L d1 D;refine(Zn) ?_;rintro ob w2 fv dv ce;refine(O 5) ?_;have x2:=D.trans ce;have cr:=d1.a ce;have f3:=D.size;have f2:=ce.size;have gb:=d1.lt;have f9:=dv.lt;refine(O 2∘Zc (kJ l n hn h1 h2 cq A c C w2 (hs.a x2))) ?_;rintro _ _⟨rfl,rfl⟩;refine(O 8∘Zc (xm (Alz l) h1 X w2)) ?_;rintro _ _⟨rfl,rfl⟩;refine(O 7) ?_;generalize Gs (Alz l)=many at d0 b9;generalize hG:grpN (Alz l)=G at e9 e8 cx;obtain⟨n1,n2⟩:=hn;have cg:∀W,Bm eD 234 [Bb (Alz l:H)] W fun v w'=>v=Bb ((G:Y):H)/\W=w':=fun W=>by rw[<-hG];exact YY (Alz l) X W
 refine Lc (fun((wr,S,tb,kb):Ad×Y×Y×Y)=>(Be w2 wr/\w2.heap.size<=S/\w2.heap.size<=tb/\w2.heap.size<=kb/\Bk wr S 260 [.slice (J ⟨tb,0,Aa⟩) many many,.slice (J ⟨kb,0,Aa⟩) G G]/\Bk wr tb 51 (BH many (.slice Aa 0 0))/\Bk wr kb 3 (BH G (Bb 0)),[(1,Bb n),(2,.pointer (J ⟨lb,0,Aa⟩)),(4,.pointer (J ⟨ob,0,Aa⟩)),(5,Bb ((0:Y):H)),(6,Bb many),(8,.pointer (J ⟨S,0,Aa⟩))],wr)) ?_ ?_
 .skip
  refine(Yr 9 (fun w'=>Be w2 w'/\Bk w' lb 51 [.slice A (Alz l) c]) ⟨Be.drew w2,cr.drew⟩) fun a=>(Gv [0,2,3]) ?_;refine WE 1 4 7 Bi ?_ ?_ ?_
  .refine DK 1 Z Z Z ir GY Z Z Z X X ?_;rintro tb w1 L h1 D;have Q:=BA a.1.size L;refine⟨⟨a.1.trans D,a.2.a D⟩,fun a=>?_⟩;refine Ye 4 7 ?_ ?_
   .refine(Jc 4 (cg w1)) ?_;rintro _ _⟨rfl,rfl⟩;refine⟨a,fun a=>?_⟩;refine Ye 5 7 ?_ ?_
    .refine DK 5 Z Z Z hU BZ Z Z Z X X ?_;rintro kb w5 B E o;have P:=BA a.1.size B;refine⟨⟨a.1.trans o,a.2.a o⟩,fun a=>?_⟩;have h1:=h1.a o;refine(Gv [6]∘Yn 7) ?_;rintro S w7 N K I;have ab:=BA a.1.size N;refine⟨⟨a.1.trans I,a.2.a I⟩,fun a=>?_⟩;have h1:=h1.a I;have E:=E.a I;refine(Ys 8 K) ?_;rintro w8 T d;have h1:=h1.j d (by first|simpa using h1.ne K Bc|(simp;omega));have E:=E.j d (by first|simpa using E.ne K Bc|(simp;omega));refine⟨⟨Bp a.1 d a.1.size Bv,a.2.j d Bv⟩,fun a=>?_⟩;refine(Yd∘Lm (w8,S,tb,kb)) ?_;exact⟨a.1,ab,Q,P,T,h1,E⟩
    .refine(Jn 7) ?_;rintro S w7 N K I;have ab:=BA a.1.size N;refine⟨⟨a.1.trans I,a.2.a I⟩,fun a=>?_⟩;have h1:=h1.a I;refine GW.one 5 Bi<|DK 5 Z Z Z hU BZ Z Z Z X X ?_;rintro kb w5 B E o;have P:=BA a.1.size B;refine⟨⟨a.1.trans o,a.2.a o⟩,fun a=>?_⟩;have h1:=h1.a o;have K:=K.a o;refine(Gv [6]∘Ys 8 K) ?_;rintro w8 T d;have h1:=h1.j d (by first|simpa using h1.ne K Bc|(simp;omega));have E:=E.j d (by first|simpa using E.ne K Bc|(simp;omega));refine⟨⟨Bp a.1 d a.1.size Bv,a.2.j d Bv⟩,fun a=>?_⟩;refine(Yd∘Lm (w8,S,tb,kb)) ?_;exact⟨a.1,ab,Q,P,T,h1,E⟩
   .refine(Jn 7) ?_;rintro S w7 N K I;have ab:=BA a.1.size N;refine⟨⟨a.1.trans I,a.2.a I⟩,fun a=>?_⟩;have h1:=h1.a I;refine(Yc 4 (cg w7)) ?_;rintro _ _⟨rfl,rfl⟩;refine⟨a,fun a=>?_⟩;refine GW.one 5 Bi<|DK 5 Z Z Z hU BZ Z Z Z X X ?_;rintro kb w5 B E o;have P:=BA a.1.size B;refine⟨⟨a.1.trans o,a.2.a o⟩,fun a=>?_⟩;have h1:=h1.a o;have K:=K.a o;refine(Gv [6]∘Ys 8 K) ?_;rintro w8 T d;have h1:=h1.j d (by first|simpa using h1.ne K Bc|(simp;omega));have E:=E.j d (by first|simpa using E.ne K Bc|(simp;omega));refine⟨⟨Bp a.1 d a.1.size Bv,a.2.j d Bv⟩,fun a=>?_⟩;refine(Yd∘Lm (w8,S,tb,kb)) ?_;exact⟨a.1,ab,Q,P,T,h1,E⟩
  .refine(Jc 4 (cg w2.drew)) ?_;rintro _ _⟨rfl,rfl⟩;refine⟨a,fun a=>?_⟩;refine WE 1 5 7 Bi ?_ ?_ ?_
   .refine DK 1 Z Z Z ir GY Z Z Z X X ?_;rintro tb w1 L h1 D;have Q:=BA a.1.size L;refine⟨⟨a.1.trans D,a.2.a D⟩,fun a=>?_⟩;refine Ye 5 7 ?_ ?_
    .refine DK 5 Z Z Z hU BZ Z Z Z X X ?_;rintro kb w5 B E o;have P:=BA a.1.size B;refine⟨⟨a.1.trans o,a.2.a o⟩,fun a=>?_⟩;have h1:=h1.a o;refine(Gv [6]∘Yn 7) ?_;rintro S w7 N K I;have ab:=BA a.1.size N;refine⟨⟨a.1.trans I,a.2.a I⟩,fun a=>?_⟩;have h1:=h1.a I;have E:=E.a I;refine(Ys 8 K) ?_;rintro w8 T d;have h1:=h1.j d (by first|simpa using h1.ne K Bc|(simp;omega));have E:=E.j d (by first|simpa using E.ne K Bc|(simp;omega));refine⟨⟨Bp a.1 d a.1.size Bv,a.2.j d Bv⟩,fun a=>?_⟩;refine(Yd∘Lm (w8,S,tb,kb)) ?_;exact⟨a.1,ab,Q,P,T,h1,E⟩
    .refine(Jn 7) ?_;rintro S w7 N K I;have ab:=BA a.1.size N;refine⟨⟨a.1.trans I,a.2.a I⟩,fun a=>?_⟩;have h1:=h1.a I;refine GW.one 5 Bi<|DK 5 Z Z Z hU BZ Z Z Z X X ?_;rintro kb w5 B E o;have P:=BA a.1.size B;refine⟨⟨a.1.trans o,a.2.a o⟩,fun a=>?_⟩;have h1:=h1.a o;have K:=K.a o;refine(Gv [6]∘Ys 8 K) ?_;rintro w8 T d;have h1:=h1.j d (by first|simpa using h1.ne K Bc|(simp;omega));have E:=E.j d (by first|simpa using E.ne K Bc|(simp;omega));refine⟨⟨Bp a.1 d a.1.size Bv,a.2.j d Bv⟩,fun a=>?_⟩;refine(Yd∘Lm (w8,S,tb,kb)) ?_;exact⟨a.1,ab,Q,P,T,h1,E⟩
   .refine DK 5 Z Z Z hU BZ Z Z Z X X ?_;rintro kb w5 B E o;have P:=BA a.1.size B;refine⟨⟨a.1.trans o,a.2.a o⟩,fun a=>?_⟩;refine Ye 1 7 ?_ ?_
    .refine DK 1 Z Z Z ir GY Z Z Z X X ?_;rintro tb w1 L h1 D;have Q:=BA a.1.size L;refine⟨⟨a.1.trans D,a.2.a D⟩,fun a=>?_⟩;have E:=E.a D;refine(Gv [6]∘Yn 7) ?_;rintro S w7 N K I;have ab:=BA a.1.size N;refine⟨⟨a.1.trans I,a.2.a I⟩,fun a=>?_⟩;have E:=E.a I;have h1:=h1.a I;refine(Ys 8 K) ?_;rintro w8 T d;have E:=E.j d (by first|simpa using E.ne K Bc|(simp;omega));have h1:=h1.j d (by first|simpa using h1.ne K Bc|(simp;omega));refine⟨⟨Bp a.1 d a.1.size Bv,a.2.j d Bv⟩,fun a=>?_⟩;refine(Yd∘Lm (w8,S,tb,kb)) ?_;exact⟨a.1,ab,Q,P,T,h1,E⟩
    .refine(Jn 7) ?_;rintro S w7 N K I;have ab:=BA a.1.size N;refine⟨⟨a.1.trans I,a.2.a I⟩,fun a=>?_⟩;have E:=E.a I;refine GW.one 1 Bi<|DK 1 Z Z Z ir GY Z Z Z X X ?_;rintro tb w1 L h1 D;have Q:=BA a.1.size L;refine⟨⟨a.1.trans D,a.2.a D⟩,fun a=>?_⟩;have E:=E.a D;have K:=K.a D;refine(Gv [6]∘Ys 8 K) ?_;rintro w8 T d;have E:=E.j d (by first|simpa using E.ne K Bc|(simp;omega));have h1:=h1.j d (by first|simpa using h1.ne K Bc|(simp;omega));refine⟨⟨Bp a.1 d a.1.size Bv,a.2.j d Bv⟩,fun a=>?_⟩;refine(Yd∘Lm (w8,S,tb,kb)) ?_;exact⟨a.1,ab,Q,P,T,h1,E⟩
   .refine(Jn 7) ?_;rintro S w7 N K I;have ab:=BA a.1.size N;refine⟨⟨a.1.trans I,a.2.a I⟩,fun a=>?_⟩;refine Ye 1 5 ?_ ?_
    .refine DK 1 Z Z Z ir GY Z Z Z X X ?_;rintro tb w1 L h1 D;have Q:=BA a.1.size L;refine⟨⟨a.1.trans D,a.2.a D⟩,fun a=>?_⟩;have K:=K.a D;refine GW.one 5 Bi<|DK 5 Z Z Z hU BZ Z Z Z X X ?_;rintro kb w5 B E o;have P:=BA a.1.size B;refine⟨⟨a.1.trans o,a.2.a o⟩,fun a=>?_⟩;have K:=K.a o;have h1:=h1.a o;refine(Gv [6]∘Ys 8 K) ?_;rintro w8 T d;have h1:=h1.j d (by first|simpa using h1.ne K Bc|(simp;omega));have E:=E.j d (by first|simpa using E.ne K Bc|(simp;omega));refine⟨⟨Bp a.1 d a.1.size Bv,a.2.j d Bv⟩,fun a=>?_⟩;refine(Yd∘Lm (w8,S,tb,kb)) ?_;exact⟨a.1,ab,Q,P,T,h1,E⟩
    .refine DK 5 Z Z Z hU BZ Z Z Z X X ?_;rintro kb w5 B E o;have P:=BA a.1.size B;refine⟨⟨a.1.trans o,a.2.a o⟩,fun a=>?_⟩;have K:=K.a o;refine GW.one 1 Bi<|DK 1 Z Z Z ir GY Z Z Z X X ?_;rintro tb w1 L h1 D;have Q:=BA a.1.size L;refine⟨⟨a.1.trans D,a.2.a D⟩,fun a=>?_⟩;have K:=K.a D;have E:=E.a D;refine(Gv [6]∘Ys 8 K) ?_;rintro w8 T d;have E:=E.j d (by first|simpa using E.ne K Bc|(simp;omega));have h1:=h1.j d (by first|simpa using h1.ne K Bc|(simp;omega));refine⟨⟨Bp a.1 d a.1.size Bv,a.2.j d Bv⟩,fun a=>?_⟩;refine(Yd∘Lm (w8,S,tb,kb)) ?_;exact⟨a.1,ab,Q,P,T,h1,E⟩
  .refine(Jn 7) ?_;rintro S w7 N K I;have ab:=BA a.1.size N;refine⟨⟨a.1.trans I,a.2.a I⟩,fun a=>?_⟩;refine Ye 1 4 ?_ ?_
   .refine DK 1 Z Z Z ir GY Z Z Z X X ?_;rintro tb w1 L h1 D;have Q:=BA a.1.size L;refine⟨⟨a.1.trans D,a.2.a D⟩,fun a=>?_⟩;have K:=K.a D;refine(Yc 4 (cg w1)) ?_;rintro _ _⟨rfl,rfl⟩;refine⟨a,fun a=>?_⟩;refine GW.one 5 Bi<|DK 5 Z Z Z hU BZ Z Z Z X X ?_;rintro kb w5 B E o;have P:=BA a.1.size B;refine⟨⟨a.1.trans o,a.2.a o⟩,fun a=>?_⟩;have K:=K.a o;have h1:=h1.a o;refine(Gv [6]∘Ys 8 K) ?_;rintro w8 T d;have h1:=h1.j d (by first|simpa using h1.ne K Bc|(simp;omega));have E:=E.j d (by first|simpa using E.ne K Bc|(simp;omega));refine⟨⟨Bp a.1 d a.1.size Bv,a.2.j d Bv⟩,fun a=>?_⟩;refine(Yd∘Lm (w8,S,tb,kb)) ?_;exact⟨a.1,ab,Q,P,T,h1,E⟩
   .refine(Jc 4 (cg w7)) ?_;rintro _ _⟨rfl,rfl⟩;refine⟨a,fun a=>?_⟩;refine Ye 1 5 ?_ ?_
    .refine DK 1 Z Z Z ir GY Z Z Z X X ?_;rintro tb w1 L h1 D;have Q:=BA a.1.size L;refine⟨⟨a.1.trans D,a.2.a D⟩,fun a=>?_⟩;have K:=K.a D;refine GW.one 5 Bi<|DK 5 Z Z Z hU BZ Z Z Z X X ?_;rintro kb w5 B E o;have P:=BA a.1.size B;refine⟨⟨a.1.trans o,a.2.a o⟩,fun a=>?_⟩;have K:=K.a o;have h1:=h1.a o;refine(Gv [6]∘Ys 8 K) ?_;rintro w8 T d;have h1:=h1.j d (by first|simpa using h1.ne K Bc|(simp;omega));have E:=E.j d (by first|simpa using E.ne K Bc|(simp;omega));refine⟨⟨Bp a.1 d a.1.size Bv,a.2.j d Bv⟩,fun a=>?_⟩;refine(Yd∘Lm (w8,S,tb,kb)) ?_;exact⟨a.1,ab,Q,P,T,h1,E⟩
    .refine DK 5 Z Z Z hU BZ Z Z Z X X ?_;rintro kb w5 B E o;have P:=BA a.1.size B;refine⟨⟨a.1.trans o,a.2.a o⟩,fun a=>?_⟩;have K:=K.a o;refine GW.one 1 Bi<|DK 1 Z Z Z ir GY Z Z Z X X ?_;rintro tb w1 L h1 D;have Q:=BA a.1.size L;refine⟨⟨a.1.trans D,a.2.a D⟩,fun a=>?_⟩;have K:=K.a D;have E:=E.a D;refine(Gv [6]∘Ys 8 K) ?_;rintro w8 T d;have E:=E.j d (by first|simpa using E.ne K Bc|(simp;omega));have h1:=h1.j d (by first|simpa using h1.ne K Bc|(simp;omega));refine⟨⟨Bp a.1 d a.1.size Bv,a.2.j d Bv⟩,fun a=>?_⟩;refine(Yd∘Lm (w8,S,tb,kb)) ?_;exact⟨a.1,ab,Q,P,T,h1,E⟩
 .rintro⟨wr,S,tb,kb⟩⟨c9,ab,Q,P,cn,b1,cw⟩;refine(O 8) ?_;have f1:=c9.size;have b3:S≠tb:=cn.ne b1 Bc;have fn:=cn.lt;have b6:=b1.lt;have fs:=cw.lt;refine Lc (fun((w4,vs):Ad×(Bl))=>(Be w2 w4/\Bk w4 S 260 [.slice (J ⟨tb,0,Aa⟩) many many,.slice (J ⟨kb,0,Aa⟩) G G]/\Bk w4 tb 51 vs/\Bk w4 kb 3 (BH G (Bb 0))/\FV w4 wr.heap.size vs many n (fun i l=>Up 20 l/\l=NF n many i n)/\wr.heap.size<=w4.heap.size,[(1,Bb n),(2,.pointer (J ⟨lb,0,Aa⟩)),(4,.pointer (J ⟨ob,0,Aa⟩)),(5,Bb ((0:Y):H)),(6,Bb many),(8,.pointer (J ⟨S,0,Aa⟩))],w4)) ?_ ?_
  .refine(O 1)<|Lo (fun((t,us,wq):Y×(Bl)×Ad)=>(t<=many/\Bk wq tb 51 (us++BH (many-t) (.slice Aa 0 0))/\FV wq wr.heap.size us t n (fun i l=>Up 20 l/\l=NF n many i n)/\Bk wq S 260 [.slice (J ⟨tb,0,Aa⟩) many many,.slice (J ⟨kb,0,Aa⟩) G G]/\Bk wq kb 3 (BH G (Bb 0))/\wr.heap.size<=wq.heap.size/\Be w2 wq,[(1,Bb n),(2,.pointer (J ⟨lb,0,Aa⟩)),(4,.pointer (J ⟨ob,0,Aa⟩)),(5,Bb ((0:Y):H)),(6,Bb many),(8,.pointer (J ⟨S,0,Aa⟩)),(40,Bb many),(41,Bb t)],wq,many-t)) (0,([]),wr) ?_ ?_
   .exact⟨BC _,b1,FV.nil,cn,cw,Bq _,c9⟩
   .rintro⟨t,us,wq⟩⟨bb,a2,bc,a0,a3,bl,ao⟩;refine(O 5)<|Zi (fun hc=>?_) fun hc=>?_
    .have bx:=bc.1;have el:t<Alz (us++BH (many-t) (Value.slice Aa 0 0)):=by rw[Bx,Cn];omega
     refine(O 9∘Yr 7 (fun w'=>Bk w' S 260 [.slice (J ⟨tb,0,Aa⟩) many many,.slice (J ⟨kb,0,Aa⟩) G G]) a0.drew) fun a=>(Gv [0,1,2,3]) ?_;refine GW.one 4 Bi<|DK 4 Z Z Z hU BZ Z Z Z X X ?_;rintro g w5 B e7 o;refine⟨a.a o,fun a=>?_⟩;refine(Gv [5]∘Yt 6 (a2.drew.a o) (hlt:=el)) ?_;rintro w6 df cp;refine⟨a.j cp (by simpa using b3),fun a=>?_⟩;refine(Yd∘O 6) ?_;rw[Xz hc bx]at df;have xd:Be wq w5:=(Be.drew wq).trans o
     have c1:Bk w6 g 3 (BD .i64 (BH n 0)):=by
      rw[KF];exact e7.j cp (by simp_all;omega)
     have m6:Mo wq w6 [tb]:=(Mo.Akj xd _).trans cp;have B:wq.heap.size<=g:=B;have d7:tb≠g:=by have:=a2.lt;omega
     have ge:S≠g:=by have:=a0.lt;omega
     have b7:((us++[Value.slice (J ⟨g,0,Aa⟩) n n])++BH (many-(t+1)) (Value.slice Aa 0 0))[t]? =J (.slice (J ⟨g,0,Aa⟩) n n):=by
      rw[Cq,Io X,bx,EY];rfl
     refine Lo (fun((s,xs,wi):Y×(Bj)×Ad)=>(s<=n/\(Alz xs=n/\xs=NF n many t s)/\Up 20 xs/\Bk wi g 3 (BD .i64 xs)/\Bk wi tb 51 ((us++[Value.slice (J ⟨g,0,Aa⟩) n n])++BH (many-(t+1)) (Value.slice Aa 0 0))/\Mo wq wi [tb],[(1,Bb n),(2,.pointer (J ⟨lb,0,Aa⟩)),(4,.pointer (J ⟨ob,0,Aa⟩)),(5,Bb ((0:Y):H)),(6,Bb many),(8,.pointer (J ⟨S,0,Aa⟩)),(9,Bb t),(40,Bb many),(41,Bb t),(50,Bb n),(51,Bb s)],wi,n-s)) (0,(BH n 0),w6) ?_ ?_
     .exact⟨BC _,⟨Cn,Z⟩,fun x hx=>by grind,c1,df,m6⟩
     .rintro⟨s,xs,wi⟩⟨f7,⟨cd,c8⟩,db,d9,ba,a5⟩;have bd:=a0.j a5 (by simpa using b3);refine(O 5)<|Zi (fun bh=>?_) fun bh=>?_
      .have f8:s*many<=258*6:=Ot X b9;refine(O 14∘Zv (Bo ba (hi:=b7))∘O 2∘Zt d9 (hlt:=by rw[DO];omega)) ?_;rintro w7 a6 aj;refine(O 11) ?_;replace a6:Bk w7 g 3 (BD .i64 (xs.set s 15)):=by rw[<-IA];exact a6
       have ch:=ba.j aj (by simpa using d7);have c6:=a5.Aku aj B;have c5:=db.set (i:=s) (show 15<=20 by decide);refine Zi (fun fa=>?_) fun fa=>?_
       .refine(O 2∘Zv (Bo (bd.j aj Bf))∘O 2∘Zv (Bo ch (hi:=b7))∘O 2∘Zt a6 (hlt:=by rw[DO,Hg];omega)) ?_;rintro w8 c0 d;refine(O 6) ?_;replace c0:Bk w8 g 3 (BD .i64 ((xs.set s 15).set s 1)):=by rw[<-IA];exact c0
        refine Lb ((s+1),((xs.set s 15).set s 1),w8) ?_;exact⟨bh,⟨Bf,by rw[List.set_set,c8];exact mU bh Bf⟩,c5.set Bc,c0,ch.j d (by simpa using d7),c6.Aku d B⟩
       .refine(O 6)<|Lb ((s+1),(xs.set s 15),w7) ?_;exact⟨bh,⟨Bf,by rw[c8];exact mU bh Bf⟩,c5,a6,ch,c6⟩
      .refine(O 6)<|Lb ((t+1),(us++[.slice (J ⟨g,0,Aa⟩) n n]),wi) ?_
       have ey:CT wi wr.heap.size (.slice (J ⟨g,0,Aa⟩) n n) xs:=by
        have:=Bn.Akk (s:=1) (cap:=n) d9 (BA bl B) (by rw[DO,cd,IX]) CB;unfold CT;rw[cd];exact this
       exact⟨hc,ba,(bc.j a5 b6).snoc ey cd ⟨db,Bf⟩,bd,a3.j a5 (by simpa using(b1.ne cw Bc).symm),BA bl a5.size,Bp ao a5 ao.size Bv⟩
    .obtain rfl:t=many:=X;rw[EY,TY,List.append_nil]at a2;refine(O 1∘Lm (wq,us)) ?_;grind
  .rintro⟨w4,vs⟩⟨ef,et,em,gd,es,ed⟩;refine(O 2∘Zv (by exact FZ Z Z)∘O 8)<|Lo (fun((r,vs,ks,wq):Y×(Bl)×(Bj)×Ad)=>(r<=4/\Bk wq tb 51 vs/\FV wq wr.heap.size vs many n (fun i x=>(Up 20 x/\x=(Eg l n many G r).getD i [])/\(0<r->LOk x))/\Bk wq S 260 [.slice (J ⟨tb,0,Aa⟩) many many,.slice (J ⟨kb,0,Aa⟩) G G]/\Bk wq kb 3 (BD .i64 ks)/\(Alz ks=G/\∀q,r=q+1->ks=QR l n many G q)/\(∀k∈ks,k<many)/\wr.heap.size<=wq.heap.size/\Be w2 wq,[(1,Bb n),(2,.pointer (J ⟨lb,0,Aa⟩)),(4,.pointer (J ⟨ob,0,Aa⟩)),(5,Bb ((0:Y):H)),(6,Bb many),(8,.pointer (J ⟨S,0,Aa⟩)),(11,.func (.func 268) #[] #[.pointer (J ⟨lb,0,Aa⟩),.pointer (J ⟨S,0,Aa⟩)]),(78,Bb r)],wq,4-r)) (0,vs,(BH G 0),w4) ?_ ?_
   .exact⟨BC _,em,es.imp fun i x hi h=>⟨⟨h.1,h.2.trans (Ahh hi).symm⟩,fun q=>by omega⟩,et,by rw[KF];omega,⟨Cn,fun q hq=>by omega⟩,fun k hk=>by grind,ed,ef⟩
   .rintro⟨r,vs,ks,wq⟩⟨hr,a2,bc,a0,a3,⟨bf,e3⟩,ct,bl,ao⟩;have fl:=(hs.a x2).a ao;have d6:=bf;generalize fr:ks=ks0 at d6;refine(O 5)<|Zi (fun hc=>?_) fun hc=>?_
    .refine(O 6∘Gc) ?_;rintro wb w5 B ek o;refine(O 10)<|Lo (fun((t,us,wx):Y×(Bl)×Ad)=>(t<=many/\Bk wx wb 51 (us++BH (many-t) (.slice Aa 0 0))/\Ll wx wq.heap.size us t n (fun _ x=>x=BH n 0)/\Be wq wx,[(1,Bb n),(2,.pointer (J ⟨lb,0,Aa⟩)),(4,.pointer (J ⟨ob,0,Aa⟩)),(5,Bb ((0:Y):H)),(6,Bb many),(8,.pointer (J ⟨S,0,Aa⟩)),(11,.func (.func 268) #[] #[.pointer (J ⟨lb,0,Aa⟩),.pointer (J ⟨S,0,Aa⟩)]),(12,.slice (J ⟨wb,0,Aa⟩) many many),(78,Bb r),(83,Bb many),(84,Bb t)],wx,many-t)) (0,([]),w5) ?_ ?_
     .exact⟨BC _,ek,⟨Z,fun i hi=>by omega,fun i j g hi=>by omega⟩,o⟩
     .rintro⟨t,us,wx⟩⟨bb,bn,b2,a4⟩;refine(O 5)<|Zi (fun al=>?_) fun al=>?_
      .have bx:=b2.1;refine(O 12∘Gc) ?_;rintro g w6 fu c1 a9;refine(O 1) ?_;have b5:=bn.a a9;have f4:=bn.lt;refine(Zt b5 (hlt:=by rw[Bx,Cn];omega)) ?_;rintro w7 bs aj;refine(O 6) ?_;rw[Xz al bx]at bs
       have a6:Bk w7 g 3 (BD .i64 (BH n 0)):=by
        rw[KF];exact c1.j aj Bv
       have f0:=a4.size;refine Lb ((t+1),(us++[.slice (J ⟨g,0,Aa⟩) n n]),w7) ?_;refine⟨al,bs,?_,Bp (a4.trans a9) aj (a4.trans a9).size Bv⟩;exact(b2.keep (w2:=w7) (fun g' l' q1 q2=>(q2.a a9).j aj (by simpa using(q2.a a9).ne b5 Bc)) fun _ _ h=>h).snoc (fun i hi e=>by have:=b2.lt hi e;omega) X a6 Cn Z
      .obtain rfl:many=t:=X;rw[EY,TY,List.append_nil]at bn;refine(O 5∘Zv (Bo (a0.a a4))∘O 4)<|Lo (fun((k,ks,wi):Y×(Bj)×Ad)=>(k<=G/\(Alz ks=G/\ks=Pj (Eg l n many G r) l many ks0 k)/\(∀x∈ks,x<many)/\Bk wi kb 3 (BD .i64 ks)/\Bk wi wb 51 us/\Ll wi wq.heap.size us many n (fun i x=>Up (50*k) x/\x=wK (Eg l n many G r) l n many k i)/\Mo wq wi [kb],[(1,Bb n),(2,.pointer (J ⟨lb,0,Aa⟩)),(4,.pointer (J ⟨ob,0,Aa⟩)),(5,Bb ((0:Y):H)),(6,Bb many),(8,.pointer (J ⟨S,0,Aa⟩)),(11,.func (.func 268) #[] #[.pointer (J ⟨lb,0,Aa⟩),.pointer (J ⟨S,0,Aa⟩)]),(12,.slice (J ⟨wb,0,Aa⟩) many many),(78,Bb r),(95,Bb G),(96,Bb k)],wi,G-k)) (0,ks,wx) ?_ ?_
       .exact⟨BC _,⟨bf,Ck⟩,ct,a3.a a4,bn,b2.keep (fun _ _ _ q=>q) fun i x q=>⟨fun y hy=>by grind,q⟩,Mo.Akj a4 _⟩
       .rintro⟨k,ks,wi⟩⟨gc,⟨bf,d3⟩,ct,cv,da,dn,mi⟩;have bd:=a0.j mi (by simpa using a0.ne a3 Bc);have bb:=a2.j mi (by simpa using a2.ne a3 Bc);have cl:=bc.moS mi Bf;have xi:Be w2 wi:=Bp ao mi ao.size Bv;have e0:=cr.a xi;have en:=(hs.a x2).a xi;refine(O 5)<|Zi (fun a7=>?_) fun a7=>?_
        .have cc:=fun t (ht:t<many)=>tV l n many t k ht (by rw[hG];exact a7) h2 cq A c C lb S tb wr.heap.size _ vs ca wi en e0 bd bb (Eg l n many G r) (cl.imp fun _ _ _ q=>q.1);refine(O 18)<|Lo (fun((t,V):Y×Y)=>(1<=t/\t<=many/\(V<many/\V=JJ (Eg l n many G r) (Ez l k) t),[(1,Bb n),(2,.pointer (J ⟨lb,0,Aa⟩)),(4,.pointer (J ⟨ob,0,Aa⟩)),(5,Bb ((0:Y):H)),(6,Bb many),(8,.pointer (J ⟨S,0,Aa⟩)),(11,.func (.func 268) #[] #[.pointer (J ⟨lb,0,Aa⟩),.pointer (J ⟨S,0,Aa⟩)]),(12,.slice (J ⟨wb,0,Aa⟩) many many),(14,Bb k),(15,Bb V),(16,Bb t),(78,Bb r),(95,Bb G),(96,Bb k)],wi,many-t)) (1,0) ?_ ?_
         .exact⟨Bq _,X,X,(eM _ _).symm⟩
         .rintro⟨t,V⟩⟨f6,f5,b4,c3⟩;refine(O 7)<|Zi (fun al=>?_) fun al=>?_
          .refine(O 8) ?_;have c2:=eO (Eg l n many G r) (Ez l k) t;rw[<-c3]at c2;have ec:=cc t al;have eb:=cc V b4
           have ea:∀t,t<many->Iw ((Eg l n many G r).getD t []) (Ez l k)<=1000:=fun t ht=>by
            obtain⟨_,af,_,_,_,⟨hu,ep⟩,_⟩:=cl.2 t ht;rw[<-ep];exact tT hu (cx k a7).1
           have hx:=ea t al;have hy:=ea V b4;generalize Iw ((Eg l n many G r).getD t []) (Ez l k)=x at c2 ec hx;generalize Iw ((Eg l n many G r).getD V []) (Ez l k)=y at c2 eb hy;refine(Ea ec) ?_;rintro _ _⟨rfl,rfl⟩;refine(O 3∘Ea eb) ?_;rintro _ _⟨rfl,rfl⟩;refine(O 2)<|Zi (fun a1=>?_) fun a1=>?_
           .refine(O 10)<|Lb ((t+1),t) ?_;grind
           .refine(O 7)<|Lb ((t+1),V) ?_;grind
          .obtain rfl:many=t:=X;refine(O 8∘Zt cv (hlt:=by rw[DO];omega)) ?_;rintro w7 d5 aj;refine(O 3) ?_;rw[IA]at d5;have m7:=mi.trans aj;have x7:Be w2 w7:=Bp ao m7 ao.size Bv;have bs:=da.j aj Bf;have er:=dn.keep (w2:=w7) (fun g' l' q1 q2=>q2.j aj Bv) fun _ _ h=>h;have eo:=(hs.a x2).a x7;refine(Zv (Bo (cr.a x7))∘O 1∘Zc (jB l k (by rw[hG];exact a7) X A c C ca w7 eo)) ?_;rintro _ _⟨⟨A',c',rfl,dg⟩,rfl⟩;refine(O 4) ?_;have e6:=(cx k a7).1;have d8:∀x∈Ez l k,x<n:=fun x hx=>cq x (List.mem_of_mem_drop (Kn hx));have e4:=a7
           have d2:ks.set k V=Pj (Eg l n many G r) l many ks0 (k+1):=by
            rw[d3,c3];exact Abb X
           have eh:∀i,wK (Eg l n many G r) l n many (k+1) i=if i=V then Kc (wK (Eg l n many G r) l n many k i) (Ez l k)else wK (Eg l n many G r) l n many k i:=fun i=>by rw[wK,<-c3]
           generalize Ez l k=gl at e6 d8 dg eh;have fd:C<=wq.heap.size:=by have:=x2.size;have:=ao.size;omega
           refine Lo (fun((j,wj):Y×Ad)=>(j<=Alz gl/\Ll wj wq.heap.size us many n (fun i x=>Up (50*k+j) x/\x=if i=V then Kc (wK (Eg l n many G r) l n many k i) (gl.take j)else wK (Eg l n many G r) l n many k i)/\Bk wj wb 51 us/\Below wq.heap.size w7 wj,[(1,Bb n),(2,.pointer (J ⟨lb,0,Aa⟩)),(4,.pointer (J ⟨ob,0,Aa⟩)),(5,Bb ((0:Y):H)),(6,Bb many),(8,.pointer (J ⟨S,0,Aa⟩)),(11,.func (.func 268) #[] #[.pointer (J ⟨lb,0,Aa⟩),.pointer (J ⟨S,0,Aa⟩)]),(12,.slice (J ⟨wb,0,Aa⟩) many many),(15,Bb V),(78,Bb r),(95,Bb G),(96,Bb k),(121,.slice A' (Alz gl) c'),(122,Bb ((Alz gl:Y):H)),(123,Bb j)],wj,Alz gl-j)) (0,w7) ?_ ?_
           .exact⟨BC _,er.keep (fun _ _ _ q=>q) fun i x q=>⟨q.1,by rw[q.2];split<;>rfl⟩,bs,Below.refl _ _⟩
           .rintro⟨j,wj⟩⟨hj,ck,bq,bj⟩;refine(O 5)<|Zi (fun bi=>?_) fun bi=>?_
            .obtain⟨b,f,rfl,_,fb⟩:=(dg.below (bj.mono fd)).Q X;have cb:=fb wj (Be.refl _) j bi;have ee:=d8 _ (BL bi);have cf:=px (row:=wK (Eg l n many G r) l n many k V) bi;generalize gl[j]=y at cb ee cf;obtain⟨g,af,q1,q2,q3,q4,q5,q6⟩:=ck.2.1 V b4;rw[Aj Z]at q6;rw[<-q6,CG X]at cf;have hz:=q5 _ (BL (show y<Alz af by omega));have dk:(BD .i64 af)[y]? =J (Bb ((af[y]:Y):H)):=by rw[FB X,CG X]
             generalize af[y]=z at hz dk cf;refine(O 6∘Zv (BR cb)∘O 6∘Zv (Bo bq (hi:=q1))∘O 2∘Zv (Bo q3 (hi:=dk))∘O 2∘Zt q3 (hlt:=by rw[DO];omega)) ?_;rintro w9 cz ai;refine(O 6) ?_;replace cz:Bk w9 g 3 (BD .i64 (af.set y (z+1))):=by rw[<-IA];exact cz
             refine Lb ((j+1),w9) ?_;exact⟨bi,ck.put b4 q1 ai cz Bf ⟨Up.set (fun x hx=>BA (q5 x hx) X) X,Bf⟩ fun i l' hi h=>⟨fun x hx=>BA (h.1 x hx) X,Bf⟩,bq.j ai (by simpa using bq.ne q3 Bc),Bp bj ai (BA mi.size (BA aj.size bj.size)) (by simp;omega)⟩
            .obtain rfl:j=Alz gl:=X;have P:kb<wq.heap.size:=a3.lt;refine(O 6)<|Lb ((k+1),(ks.set k V),wj) ?_
             exact⟨e4,⟨Bf,d2⟩,fun x hx=>by
              grind,d5.G bj P,bq,ck.keep (fun _ _ _ q=>q) fun i l' h=>⟨fun x hx=>BA (h.1 x hx) X,Bf⟩,m7.G bj⟩
        .obtain rfl:G=k:=X;have fi:wq.heap.size<=wb:=B;refine(O 8)<|Lo (fun((t,a8,wz):Y×(Bl)×Ad)=>(t<=many/\Bk wz tb 51 a8/\FV wz wr.heap.size a8 many n (fun i x=>Up 20 x/\(i<t->LOk x/\x=KK (wK (Eg l n many G r) l n many G i)))/\Mo wi wz [tb],[(1,Bb n),(2,.pointer (J ⟨lb,0,Aa⟩)),(4,.pointer (J ⟨ob,0,Aa⟩)),(5,Bb ((0:Y):H)),(6,Bb many),(8,.pointer (J ⟨S,0,Aa⟩)),(11,.func (.func 268) #[] #[.pointer (J ⟨lb,0,Aa⟩),.pointer (J ⟨S,0,Aa⟩)]),(12,.slice (J ⟨wb,0,Aa⟩) many many),(78,Bb r),(139,Bb many),(140,Bb t)],wz,many-t)) (0,vs,wi) ?_ ?_
         .exact⟨BC _,bb,cl.imp fun i x _ q=>⟨q.1.1,fun z=>by omega⟩,Mo.refl _ _⟩
         .rintro⟨t,a8,wz⟩⟨ht,dc,cj,mz⟩;have dp:=bd.j mz (by simpa using b3);have c7:wr.heap.size<=wz.heap.size:=BA bl (BA mi.size mz.size);have Q:wb≠tb:=X;have eg:=da.j mz (by simpa using Q);refine(O 5)<|Zi (fun al=>?_) fun al=>?_
          .obtain⟨g,af,q1,q2,q3,q4,q5,q6⟩:=dn.2.1 t al;have e5:=q3.j mz Bf;have gf:50*G<=1638350:=X;have cm:=fun W (hb:Bk W g 3 (BD .i64 af))=>yH af X X (fun x hx=>BA (q5 x hx) X) (J ⟨g,0,Aa⟩) n _ W hb.sl;rw[q4]at cm;have c4:=km (w:=af) X X (fun x hx=>BA (q5 x hx) X);refine(O 8∘Yr 13 (fun w'=>Bk w' S 260 [.slice (J ⟨tb,0,Aa⟩) many many,.slice (J ⟨kb,0,Aa⟩) G G]/\Bk w' wb 51 us) (Il dp.drew eg.drew)) fun a=>(Gv [0,1,2,3,4,5]∘Yw 6 (he:=by exact fun _ fc=>Bo fc.2 (hi:=q1))∘Yc 7 (cm _ e5.drew)) ?_;rintro _ w8⟨⟨u,rfl,co⟩,bm⟩;refine⟨⟨a.1.a bm,a.2.a bm⟩,fun a=>?_⟩;refine(Gv [8,9,10,11]) ?_;obtain⟨Au,cu,rfl,_,_⟩:=co.sl;refine(Yt 12 (dc.drew.a bm) (hlt:=by rw[cj.1];omega)) ?_;rintro w9 b0 ai;refine⟨⟨a.1.j ai (by simpa using b3),a.2.j ai (by simpa using Q)⟩,fun a=>?_⟩;refine(Yd∘O 5) ?_;have xd:Be wz w8:=(Be.drew wz).trans bm;have ds:CT w9 wr.heap.size (.slice Au (Alz (KK af)) cu) (KK af):=Bn.l (Bn.j co ai fun k hk=>by have:=(co.lt k hk).1;have:wz.heap.size<=k:=this;simp;omega) c7;refine Lb ((t+1),(a8.set t (.slice Au (Alz (KK af)) cu)),w9) ?_;exact⟨al,b0,((cj.a xd).j ai b6).set al ds (c4.2.trans q4) ⟨fun x hx=>(c4.1.pos x hx).2,fun _=>⟨c4.1,Bf⟩⟩ fun j l' hj q=>⟨q.1,fun z=>q.2 X⟩,mz.trans ((Mo.Akj xd _).trans ai)⟩
          .obtain rfl:many=t:=X;refine(O 6)<|Lb ((r+1),a8,ks,wz) ?_;exact⟨hc,dc,cj.imp fun i l' hi q=>⟨⟨q.1,by rw[Ahm hi];grind⟩,fun _=>(q.2 hi).1⟩,dp,cv.j mz (by simpa using cv.ne bb Bc),⟨bf,fun q hq=>by rw[d3,show q=r by omega];exact Aba d6⟩,ct,c7,Bp xi mz xi.size Bv⟩
    .obtain rfl:r=4:=X;have ew:=dv.a ao;refine(O 3∘Zv (BX a0)∘Zs ew) ?_;rintro w9 ez ai;refine(O 2) ?_;have xw:=x2.trans ao;obtain⟨ls,g1,g2,g3⟩:=(bc.keep (w2:=w9) fun u l' q=>Bn.j q ai fun k hk=>by have:=(q.lt k hk).1;simp;omega).lists;have b0:=a2.j ai Bv;have d4:=a3.j ai Bv;have e1:Alz ls=many:=g1;refine(Dx ez) ?_
     have b8:∀t∈ls,Alz t=n/\LOk t:=fun t ht=>by
      obtain⟨i,hi,rfl⟩:=Hw.1 ht;grind
     have e2:ls=Eg l n many G 4:=MX (by rw[e1,oF]) fun i h1 h2=>by
      grind
     rw[<-e2,<-e3 3 Z];refine⟨⟨_,Z,⟨Bf,Bf,fun t ht=>(b8 t ht).1,⟨n1,n2⟩,fun t ht=>(b8 t ht).2,fun k hk=>by grind⟩,bf,fun W hW=>⟨_,many,_,G,vs,Bf,(b0.of_block (hW tb X b0.lt)).sl,(g2.keep fun u l' q=>Bn.Ala q fun k hk=>hW k (by have:=(q.lt k hk).1;omega) (q.lt k hk).2).rows,(d4.of_block (hW kb X d4.lt)).sl⟩⟩,Bp xw ai xw.size Bv⟩
def QU(p:Pl){n:Y}(a:p.q n)(l:Bj)(f:grpN (Alz l)<=Alz p.C)(hl:∀x∈l,x<n):∀i,i<=Alz l->Alz (Es p (l.take i))<=20*i
 |0,_=>Bq _
 |i+1,h=>by
  have ih:=QU p a l f hl i X;have hid:i/50<Alz p.C:=by unfold grpN at f;omega
  have e:=a.lt _ (BL hid);have j:=hl _ (BL (show i<Alz l by omega));rw[my p l X,Bx,CG hid];generalize p.C[i/50]=k at e;generalize l[i]=x at j;have d:=BL e;rw[show p.v.getD k _=p.v[k]from by grind];have m:=a.len _ d;have g:=(a.ok _ d).pos;generalize p.v[k]=t at m g;unfold Lq;rw[nb_length,CG X];have:=(g _ (BL (show x<Alz t by omega))).2;omega
def Vw(p:Pl){n:Y}(a:p.q n):Alz (planBits p)<=1000000:=by
 have h:=VO _ (BE (Alz p.v)) Bh Bh a.lt;have f:=Ot a.v.2 a.C.2;have k:=a.G;have i:=XV _ fun t d=>⟨by rw[a.len t d];omega,fun e=>by have:=a.len t d;grind,fun x g=>((a.ok t d).pos x g).2⟩;have j:=a.v;unfold planBits;simp only[Bx,nb_length];omega
def Agf(p:Pl)(n:Y)(q:p.q n)(l:Bj)(G:Alz l<=1638350)(k:grpN (Alz l)<=Alz p.C)(m:∀x∈l,x<n)(B:Y)(V:Bl)(A:Av AB)(c:Y)(w:Ad)(h:PlanAt w B V p)(hs:Sl w B A (BD .i64 l))(T:B<=w.heap.size):
 Bm eD 232 [.agg V.toArray,.slice A (Alz l) c] w fun v w'=>v=.tuple #[Bb ((Dk p l:Y):H),Bb ((0:Y):H)]/\Be w w':=by
 have j:=h;have k1:=Vw p q;have W:=QU p q l k m (Alz l) X;rw[DY]at W;obtain⟨A1,c1,A2,c2,vs,rfl,s1,s2,s3⟩:=h;refine Bw Bh Z ntmps232 (by rfl) Z ?_;refine(O 2) ?_;refine Dq Z Z Z ?_;rintro pb w1 S o d;refine(O 5) ?_;have e:=d.mono T;have af:=d.size;refine(Zv (BX o)∘O 1∘Zc (jA p n q l G k m B _ A c _ (j.below e) (hs.below e) X)) ?_;rintro _ w2⟨rfl,C⟩;refine(O 3∘Zn) ?_;rintro bb w3 Q L i;refine(Zs L) ?_;rintro w4 K E;refine(O 8) ?_;have t:Be _ _:=Bp i E i.size Bv;have a:=C.trans t;have N:=d.trans a;refine(Ci 17∘O 4∘Zv (BX (o.a a))∘Zc (jF p n q B _ _ (j.below (e.trans (a.mono X))) (BA T N.size))) ?_;rintro _ w5⟨rfl,y⟩;refine(O 3∘Zn) ?_;rintro ab w6 P I g;refine(Zs I) ?_;rintro w7 ai D;refine(O 5) ?_;have r:Be _ _:=Bp g D g.size Bv;have f:=y.trans r;refine(O 2∘Zv (Bo (K.a f))∘O 4∘BF) ?_;exact⟨Z,N.trans f⟩
def KA(l:Bj)(n:Y):Bj:=Kc (BH n 0) l
def OL(l:Bj)(n:Y):Pl:=⟨[Gp (KA l n),Gp (KA l n)],BH (grpN (Alz l)) 0⟩
def xy(l:Bj)(n:Y)(hn:3<=n/\n<=258)(h1:1<=Alz l)(h2:Alz l<=1638350)(al:∀x∈l,x<n)(A:Av AB)(c C:Y)(w:Ad)(hs:Sl w C A (BD .i64 l)):
 Bm eD 231 [.slice A (Alz l) c,Bb (n:H)] w fun v w'=>(∃cs,v=.tuple #[.agg (LZ cs),Bb ((0:Y):H)]/\Jw w' w.heap.size n (grpN (Alz l)) cs (OL l n))/\Be w w':=by
 unfold OL;have bb:=UY h1;have ba:grpN (Alz l)<=32767:=by unfold grpN;omega
 refine Bw func231 Z ntmps231 Bi Z ?_;refine(O 2∘Zn) ?_;rintro I w1 bj aj r;refine(O 7) ?_;have bl:=r.size;refine(Zc (kJ l n hn h1 h2 al A c C w1 (hs.a r))) ?_;rintro _ _⟨rfl,rfl⟩;refine(O 7) ?_;obtain⟨n1,n2⟩:=hn;refine(Gc) ?_;rintro h w2 bi bm ab;refine(O 9) ?_;have x2:=r.trans ab;have a7:=aj.a ab;have bn:I≠h:=by have:=aj.lt;omega
 refine Lc (fun((a,wr):(Bj)×Ad)=>((Alz a=n/\a=KA l n)/\Up (Alz l) a/\Bk wr h 3 (BD .i64 a)/\Be w wr/\Bk wr I 260 [.slice Aa 0 0,.slice Aa 0 0],[(0,.slice A (Alz l) c),(4,.pointer (J ⟨I,0,Aa⟩)),(6,.slice (J ⟨h,0,Aa⟩) n n)],wr)) ?_ ?_
 .refine(O 1)<|Lo (fun((i,a,wr):Y×(Bj)×Ad)=>(i<=Alz l/\(Alz a=n/\a=Kc (BH n 0) (l.take i))/\Up i a/\Bk wr h 3 (BD .i64 a)/\Mo w2 wr [h],[(0,.slice A (Alz l) c),(4,.pointer (J ⟨I,0,Aa⟩)),(6,.slice (J ⟨h,0,Aa⟩) n n),(20,.slice A (Alz l) c),(21,Bb ((Alz l:Y):H)),(22,Bb i)],wr,Alz l-i)) (0,(BH n 0),w2) ?_ ?_
  .exact⟨BC _,⟨Cn,Z⟩,fun x hx=>by grind,by rw[KF];omega,Mo.refl _ _⟩
  .rintro⟨i,a,wr⟩⟨hi,⟨D,m⟩,g,K,hm⟩;have xr:Be w wr:=Bp x2 hm x2.size Bv;refine(O 5)<|Zi (fun hc=>?_) fun hc=>?_
   .obtain⟨b,f,rfl,_,bd⟩:=hs.Q X;have p:=bd wr xr i hc;have a1:=al _ (BL hc);have d:=px (row:=BH n 0) hc;rw[<-m]at d;generalize l[i]=y at p a1 d;rw[CG X]at d;have hz:=g _ (BL (show y<Alz a by omega));have ai:(BD .i64 a)[y]? =J (Bb ((a[y]:Y):H)):=by rw[FB X,CG X]
    generalize a[y]=z at hz ai d;refine(O 6∘Zv (BR p)∘O 6∘Zv (Bo K (hi:=ai))∘O 2∘Zt K (hlt:=by grind)) ?_;rintro w3 e a8;refine(O 6) ?_;replace e:Bk w3 h 3 (BD .i64 (a.set y (z+1))):=by rw[<-IA];exact e
    refine Lb ((i+1),(a.set y (z+1)),w3) ?_;exact⟨hc,⟨Bf,d.symm⟩,Up.set (fun x hx=>Uf (g x hx)) X,e,hm.trans a8⟩
   .obtain rfl:i=Alz l:=X;refine(O 1∘Lm (a,wr)) ?_;exact⟨⟨D,by rw[m,Dh (Bq _)];rfl⟩,g,K,xr,a7.j hm Bf⟩
 .rintro⟨a,wr⟩⟨⟨D,m⟩,g,K,xr,E⟩;rw[<-m];have hf:=fun W (hb:Bk W h 3 (BD .i64 a))=>vS a X X (fun x hx=>BA (g x hx) X) (J ⟨h,0,Aa⟩) n _ W hb.sl;have bc:=jg (w:=a) X X;have a0:=YM a;rw[D]at hf a0;generalize Gp a=fl at hf bc a0;refine(O 3∘Zc (hf wr K)) ?_;rintro _ w3⟨⟨u1,rfl,Q⟩,j⟩;refine(O 9) ?_;have e:=K.a j;refine(Zc (hf w3 e)) ?_;rintro _ w4⟨⟨u2,rfl,P⟩,V⟩;refine(O 10) ?_;obtain⟨A1,c1,rfl,_,_⟩:=Q.sl;obtain⟨A2,c2,rfl,_,_⟩:=P.sl;refine Ks 2 Z Z ir GY Z Z Z Z (by rfl) Bc ?_;rintro sb w5 bh a3 T;refine(O 2∘Zc (YY (Alz l) X w5)) ?_;rintro _ _⟨rfl,rfl⟩;generalize grpN (Alz l)=G at bb ba;refine(Gc) ?_;rintro kb w6 bf a9 S;refine(O 1) ?_;have L:=T.trans S;have N:=V.trans L;have x6:=j.trans N;have xw:=xr.trans x6;have a5:=E.a x6
  have B:GF w6 (I+1) [.slice A1 (Alz fl) c1,.slice A2 (Alz fl) c2] [fl,fl]:=by
   have e0:GF w6 (I+1) [] []:=⟨Z,fun i hi=>by grind⟩;have ho:=E.lt;have h3:=j.size;exact(e0.snoc (Bn.l (CT.a Q N) X)).snoc (Bn.l (CT.a P L) X)
  have a2:=a3.a S;refine(Zs a5) ?_;rintro w9 a6 o;refine(O 2) ?_;have h4:=V.size;have h3:=j.size;have h5:=T.size;have bq:=E.lt;have af:=a2.j o Bv;have ao:=a9.j o Bv;have a4:=B.j o X;refine(Dx a6) ?_;refine⟨⟨_,Z,⟨⟨Bh,Bh⟩,Bf,fun t ht=>?_,⟨n1,n2⟩,fun t ht=>?_,fun k hk=>?_⟩,Cn,fun W hW=>⟨_,2,_,G,_,by show _=[Value.slice _ 2 _,Value.slice _ (Alz (BH G 0)) _];rw[Cn];rfl,(af.of_block (hW sb X af.lt)).sl,(a4.keep fun u l' q=>Bn.Ala q fun k hk=>hW k (by have:=(q.lt k hk).1;omega) (q.lt k hk).2).rows,by show Sl _ _ _ (BD .i64 (BH G 0));rw[KF];exact(ao.of_block (hW kb X ao.lt)).sl⟩⟩,Bp xw o xw.size Bv⟩
  .grind
  .grind
  .grind
end
end Go.Proofs.YtkmlafmjaeeanaaGreatDoor
