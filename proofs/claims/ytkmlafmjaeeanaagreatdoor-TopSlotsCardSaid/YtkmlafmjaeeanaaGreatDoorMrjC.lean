/- TopSlots, part C: functions from rotations to the choice of tables. -/
import Derived.Test.YtkmlafmjaeeanaaGreatDoorMrjB
set_option linter.all false
set_option maxHeartbeats 2000000
set_option maxRecDepth 20000
open Go Go.RowKit Go.Proofs.Tryz
open _root_ renaming rfl→Z,Nat→Y,Int→H,List→Ae,if_neg→Ag,if_pos→Ai,Array→Ap,congrArg→Ar,Option→Av,Bool→Aw,trivial→AB,UInt8→AH,String→AJ,absurd→AK,decide_eq_true→AM,decide_eq_false→AN,of_decide_eq_true→AO,dif_pos→AQ,of_decide_eq_false→AR
open _root_.And renaming intro→HZ
open _root_.Array renaming replicate→JW
open _root_.Bool renaming true→Af,false→Aj
open _root_.Go renaming World→Ad,Value→Ah,TypeId→Ay,Addr→AC,Operand→AD,Program→AE,Act→AF,Oper→AG,IntKind→AI,Code→AL,Exit→AP
open _root_.List renaming range→BE,replicate→BG,length→DW,Pairwise→GS,range'→GX,toArray→Lg,Perm→Nf,length→Aim
open _root_.Nat renaming blt→BL,log2→DL,beq→Jw,reducePow→Lh,cast→Mf
open _root_.Option renaming some→Ns,some→X,none→Aa
open _root_.Prod renaming mk→Qq
open _root_.UInt8 renaming ofNat→BS
namespace Go.Proofs.YtkmlafmjaeeanaaGreatDoor
section
attribute [local irreducible] OW KW QW EX GW NV
open Bz
def Ir{k:AI}(l:Bi)(i x:Y):(BC k l).set i (.int k (x:H))=BC k (l.set i x):=by
 unfold BC;rw[List.map_set]
def KB(k:AI)(n x:Y):BC k (BG n x)=BG n (.int k (x:H)):=by
 unfold BC;rw[List.map_replicate]
def CF{l:Bi}{i:Y}(h:i<Aim l):l.getD i 0=l[i]:=by
 rw[BX,BN h];rfl
def jG{N:Y}(A:Av AC)(c a:Y)(rank:Bi)(i:Y)(g:Aim rank=N)(hi:i<N)(d:N<=1000000000)(e:a<=1000000000)(C:Y)(w:Ad)(h:Sl w C A (BC .i64 rank)):
 Bn prog 263 [.agg (NO A N c a).toArray,U (i:H)] w fun v w'=>v=.tuple #[U ((rank.getD i 0:Y):H),U ((rank.getD ((i+a)%Aim rank) 0:Y):H)]/\Bf w w':=by
 subst g;exact YV A c a rank i hi d e C w h
def qL{s:Bg}{K b:Y}{rank:Bi}(hk:Key s K rank b)(a0:Aim rank=Aim s)(h0:0<Aim s)(hn:Aim s<=1000000000)(hb:b<=1000000000)(o:Bi)(ho:Sd s K o)(rb g nb T:Y)(w:Ad)(ba:Bk w rb 3 (BC .i64 rank))(hg:Bk w g 3 (BC .i64 o))(a3:Bk w nb 3 [U (Aim s:H)])(a1:Bk w T 51 [.slice (X ⟨g,0,Aa⟩) (Aim s) (Aim s)]):
 Bn prog 262 [.agg (NO (X ⟨rb,0,Aa⟩) (Aim s) (Aim s) b).toArray,.pointer (X ⟨nb,0,Aa⟩),.pointer (X ⟨T,0,Aa⟩)] w fun v w'=>∃vb next,v=.slice (X ⟨vb,0,Aa⟩) (Aim s) (Aim s)/\w.heap.size<=vb/\Bk w' vb 3 (BC .i64 next)/\Aim next=Aim s/\(∀k,k<Aim o->next.getD (o.getD k 0) 0=FD s K o k)/\Bf w w':=by
 have b1:=ho.lng;have m:∀k,k<Aim s->o.getD k 0<Aim s:=fun k hk=>by rw[CF J];exact ho.lt _ (BM _)
 have bh:∀i j,i<Aim s->j<Aim s->o.getD i 0=o.getD j 0->i=j:=fun i j Q hj e=>by
  rw[CF J,CF J]at e;exact(Nl (ho.perm.nodup_iff.2 Nn)).1 e
 refine Bw func262 Z ntmps262 Be Z ?_;refine(O 2) ?_;refine DB Z Z Z ?_;rintro xb w1 b0 a7 E;refine(O 4∘Zv (Bo (a3.ext E))∘Gf) ?_;rintro vb w2 bx bq aj;refine(O 8) ?_;have x2:=E.trans aj;have a8:xb≠vb:=by have:=a7.lt;omega
 have a9:w.heap.size<=vb:=by have:=E.size;omega
 refine Lo (fun((k,r,wr):Y×(Bi)×Ad)=>(1<=k/\k<=Aim s/\Aim r=Aim s/\(∀j,j<k->r.getD (o.getD j 0) 0=FD s K o j)/\Bk wr vb 3 (BC .i64 r)/\Mo w2 wr [vb],[(1,.pointer (X ⟨nb,0,Aa⟩)),(2,.pointer (X ⟨T,0,Aa⟩)),(3,.pointer (X ⟨xb,0,Aa⟩)),(5,.slice (X ⟨vb,0,Aa⟩) (Aim s) (Aim s)),(6,U k)],wr,Aim s-k)) (1,(BG (Aim s) 0),w2) ?_ ?_
 .refine⟨Bq _,h0,Cm,fun j hj=>?_,by rw[KB];exact bq,Mo.refl _ _⟩;obtain rfl:j=0:=J;rw[CF (by rw[Cm];exact m 0 h0),List.getElem_replicate];rfl
 .rintro⟨k,r,wr⟩⟨b5,b4,L,I,hv,N⟩;have V:Bf w wr:=Bv x2 N x2.size Bx;have ab:=(a7.ext aj).mo N (by simpa using a8);have b3:=a3.ext V;have G:=a1.ext V;have S:=hg.ext V;have ao:=ba.ext V;refine(O 7)<|Zi (fun hc=>?_) fun hc=>?_
  .have i1:=m (k-1) J;have i2:=m k hc;refine(O 4∘Yr 12 (fun w'=>Bf wr w') (Bf.drew wr)) fun y=>(Yw 0 (he:=by exact fun _ l=>Cf (ab.ext l))∘Yw 1 (he:=by exact fun _ l=>Bo (G.ext l))∘Gv [2,3,4]∘Yw 5 (he:=by exact fun _ l=>Bo (S.ext l) (hi:=Fw J))∘Yc 6 (jG (X ⟨rb,0,Aa⟩) (Aim s) b rank (o.getD (k-1) 0) a0 i1 hn hb _ wr.drew (ao.ext (Bf.drew wr)).sl)) ?_;rintro _ w5⟨rfl,ai⟩;refine⟨y.trans ai,fun y=>?_⟩;refine(Gv [7,8,9,10,11]∘Yd∘O 1) ?_;have W:=(Bf.drew wr).trans ai;refine(Yr 11 (fun w'=>Bf w5 w') (Bf.drew w5)) fun y=>(Yw 0 (he:=by exact fun _ l=>Cf ((ab.ext W).ext l))∘Yw 1 (he:=by exact fun _ l=>Bo ((G.ext W).ext l))∘Gv [2,3]∘Yw 4 (he:=by exact fun _ l=>Bo ((S.ext W).ext l) (hi:=Fw J))∘Yc 5 (jG (X ⟨rb,0,Aa⟩) (Aim s) b rank (o.getD k 0) a0 i2 hn hb _ w5.drew ((ao.ext W).ext (Bf.drew w5)).sl)) ?_;rintro _ w6⟨rfl,af⟩;refine⟨y.trans af,fun y=>?_⟩;refine(Gv [6,7,8,9,10]∘Yd∘O 1) ?_;have x6:=W.trans ((Bf.drew w5).trans af);have al:=(hv.ext x6).drew;have a2:=(G.ext x6).drew;have a4:=(S.ext x6).drew;have bc:T≠vb:=by have:=a1.lt;omega
   have bj:g≠vb:=by have:=hg.lt;omega
   have h:=hk.same _ _ i1 i2;generalize ha:rank.getD (o.getD (k-1) 0) 0=a at h;generalize b7:rank.getD (o.getD k 0) 0=c at h;generalize b8:rank.getD ((o.getD (k-1) 0+b)%Aim rank) 0=bb at h;generalize b6:rank.getD ((o.getD k 0+b)%Aim rank) 0=d at h;have p:r.getD (o.getD (k-1) 0) 0=FD s K o (k-1):=I (k-1) J;have bm:=Xw s K o (k-1);generalize bn:FD s K o (k-1)=cg at p bm;refine(Yr 15 (fun w'=>Bk w' T 51 [.slice (X ⟨g,0,Aa⟩) (Aim s) (Aim s)]/\Bk w' g 3 (BC .i64 o)) (HZ a2 a4)) fun y=>(Gv [0,1,2,3]∘Yw 4 (he:=by exact fun _ l=>Bo l.2 (hi:=Fw J))∘Gv [5,6,7,8,9]∘Yw 10 (he:=by exact fun _ l=>Bo l.2 (hi:=Fw J))∘Gv [11]∘Yo 12 (he:=by exact Bo al (hi:=Fw J))) fun y=>(Gv [13]∘Yt 14 al (hlt:=by rw[DF];omega)) ?_;rintro w7 C P;refine⟨⟨a2.mo P (by simpa using bc),a4.mo P (by simpa using bj)⟩,fun y=>?_⟩;refine(Yd∘O 1) ?_;rw[p,Ir]at C;have bl:=y.2;have b2:=y.1;have m7:Mo w2 w7 [vb]:=(N.trans (Mo.Age (x6.trans (Bf.drew w6)) _)).trans P
   have B:FD s K o k=cg+if pre s K (o.getD (k-1) 0)≠pre s K (o.getD k 0)then 1 else 0:=by
    obtain⟨j,rfl⟩:∃j,k=j+1:=⟨k-1,J⟩;rw[<-bn];rfl
   have D:∀x,x=FD s K o k->∀j,j<k+1->(r.set (o.getD k 0) x).getD (o.getD j 0) 0=FD s K o j:=fun x hx j hj=>by
    rw[CF (by rw[HG];have:=m j J;omega),RR];by_cases e:o.getD k 0=o.getD j 0
    .rw[Ai e,hx,bh k j hc J e]
    .rw[Ag e,<-CF,I j];rcases Db j k with q|q
     .exact q
     .exact AK (by rw[show j=k by omega]) e
   refine Lc (fun(d8:Aw)=>((d8=Af↔pre s K (o.getD (k-1) 0)≠pre s K (o.getD k 0)),[(1,.pointer (X ⟨nb,0,Aa⟩)),(2,.pointer (X ⟨T,0,Aa⟩)),(3,.pointer (X ⟨xb,0,Aa⟩)),(5,.slice (X ⟨vb,0,Aa⟩) (Aim s) (Aim s)),(6,U k),(58,.bool d8)],w7)) ?_ ?_
   .refine(O 5)<|Zd 54 (fun c1=>?_) fun c1=>?_
    .refine(O 5∘Lm Af) ?_;exact⟨fun _=>h.1 (.inl c1),fun _=>rfl⟩
    .refine(O 5∘Lm (decide (bb≠d))) ?_;rw[decide_eq_true_eq];exact⟨fun q=>h.1 (.inr q),fun q=>(h.2 q).resolve_left c1⟩
   .rintro d8 a5;refine HE Z (fun A=>?_) (fun A=>?_)
    .have bf:=a5.1 A;rw[Ai bf]at B
     have bs:(BC .i64 (r.set (o.getD k 0) cg))[o.getD k 0]? =X (U (cg:H)):=by
      rw[Fw (by rw[HG];omega),CF (by rw[HG];omega),List.getElem_set_self]
     refine(O 5∘Zv (Bo bl (hi:=Fw J))∘O 1∘Zv (Bo C (hi:=bs))∘O 2∘Zt C (hlt:=by rw[DF,HG];omega)) ?_;rintro w8 a6 bi;refine(O 7) ?_;rw[Ir,List.set_set]at a6;refine Lb ((k+1),(r.set (o.getD k 0) (cg+1)),w8) ?_;exact⟨J,hc,by rw[HG];exact L,D _ B.symm,a6,m7.trans bi⟩
    .have t:¬(pre s K (o.getD (k-1) 0)≠pre s K (o.getD k 0)):=fun q=>by rw[a5.2 q]at A;cases A
     rw[Ag t]at B;refine(O 7)<|Lb ((k+1),(r.set (o.getD k 0) cg),w7) ?_;exact⟨J,hc,by rw[HG];exact L,D _ B.symm,C,m7⟩
  .refine(O 6∘Bu) ?_;refine⟨vb,r,Z,a9,hv,L,fun j hj=>I j J,V⟩
def rN{s:Bg}{K:Y}{o next:Bi}(a:Sd s K o)(hl:Aim next=Aim s)(j:∀k,k<Aim o->next.getD (o.getD k 0) 0=FD s K o k)(p:Aim s<=1000000000):∀x∈next,x<=1000000000:=fun x h=>by
 obtain⟨i,m,rfl⟩:=Hm.1 h;have l:i∈o:=a.perm.mem_iff.2 (CQ.2 J);obtain⟨k,d,e⟩:=Hm.1 l;have g:=j k d;rw[CF d,e,CF m]at g;rw[g];have:=Xw s K o k;have:=a.lng;omega
def fill{α:Type}(f:Y->α)(z:α)(n i:Y):Ae α:=(BE i).map f++BG (n-i) z
section
variable{α:Type}{f:Y->α}{z:α}{n i:Y}
def QI(h:i<=n):Aim (fill f z n i)=n:=by simp[fill];omega
def gA:fill f z n 0=BG n z:=by simp[fill]
def QH:fill f z n n=(BE n).map f:=by simp[fill]
def QJ(h:i<n):(fill f z n i).set i (f i)=fill f z n (i+1):=by
 unfold fill;rw[Md _ _ Bl,DQ,GV,EP,show n-i=n-(i+1)+1 by omega,HI,IN,FV,DX,Cq];rfl
end
def jA(n:Y):(BE n).map (fun(j:Y)=>Value.int .i64 (j:H))=BC .i64 (BE n):=rfl
def vz(s:Bg):(BE (Aim s)).map (fun(j:Y)=>Value.int .i64 (((s.getD j 0).toNat:Y):H))=BC .i64 (s.map fun b=>b.toNat):=by
 unfold BC;apply Ni Bl;intro i a d;simp only[DQ,GV]at a;simp[BN a]
def yA(s:Bg)(hs:Aim s<=1000000)(w:Ad):
 Bn prog 226 [Bj s] w fun v w'=>Bf w w'/\∃g o,v=.slice (X ⟨g,0,Aa⟩) (Aim s) (Aim s)/\w.heap.size<=g/\Bk w' g 3 (BC .i64 o)/\IsOrd s o:=by
 refine Bw func226 Z ntmps226 Be Z ?_;refine(O 8∘Ml) ?_;rintro nb w1 A ct l;refine(Zt ct) ?_;rintro w2 a3 ck;refine(O 2) ?_;have x2:Bf w w2:=Bv l ck l.size Bx;have c1:=a3.lt;refine Lc (fun((wr,g,y,G):Ad×Y×Y×Y)=>(Bf w2 wr/\w2.heap.size<=g/\w2.heap.size<=y/\w2.heap.size<=G/\g≠y/\Bk wr g 3 (BG (Aim s) (U 0))/\Bk wr y 3 (BG (Aim s) (U 0))/\Bk wr G 51 [.slice (X ⟨g,0,Aa⟩) (Aim s) (Aim s)],[(0,Bj (s)),(3,.pointer (X ⟨nb,0,Aa⟩)),(4,.pointer (X ⟨G,0,Aa⟩)),(5,.slice (X ⟨y,0,Aa⟩) (Aim s) (Aim s))],wr)) ?_ ?_
 .skip
  refine(Yr 7 (fun w'=>Bf w2 w'/\Bk w' nb 3 [U (Aim s:H)]) ⟨Bf.drew w2,a3.drew⟩) fun a=>(Gv [0,2]) ?_;refine Wn 1 3 4 Be ?_ ?_ ?_
  .refine DK 1 Z Z Z underlying51 BU Z Z Z J J ?_;rintro g w1 A h l;have E:=BF a.1.size A
   try have m:g≠y:=(by have:=k.lt;omega)
   refine⟨⟨a.1.trans l,a.2.ext l⟩,fun a=>?_⟩;refine Ye 3 4 ?_ ?_
   .refine DK 3 Z Z Z underlying51 BU Z Z Z J J ?_;rintro y V p k e;have B:=BF a.1.size p
    try have m:g≠y:=(by have:=h.lt;omega)
    refine⟨⟨a.1.trans e,a.2.ext e⟩,fun a=>?_⟩;have h:=h.ext e;refine(Ym 4) ?_;rintro G w4 C t r;have D:=BF a.1.size C;refine⟨⟨a.1.trans r,a.2.ext r⟩,fun a=>?_⟩;have h:=h.ext r;have k:=k.ext r;refine(Yt 5 t) ?_;rintro I q d;have h:=h.mo d (by first|simpa using h.ne t Bc|(simp;omega));have k:=k.mo d (by first|simpa using k.ne t Bc|(simp;omega));refine⟨⟨Bv a.1 d a.1.size Bx,a.2.mo d Bx⟩,fun a=>?_⟩;refine(Gv [6]∘Yd∘Lm (I,g,y,G)) ?_;exact⟨a.1,E,B,D,m,h,k,q⟩
   .refine(Jm 4) ?_;rintro G w4 C t r;have D:=BF a.1.size C;refine⟨⟨a.1.trans r,a.2.ext r⟩,fun a=>?_⟩;have h:=h.ext r;refine Ye 3 5 ?_ ?_
    .refine DK 3 Z Z Z underlying51 BU Z Z Z J J ?_;rintro y V p k e;have B:=BF a.1.size p
     try have m:g≠y:=(by have:=h.lt;omega)
     refine⟨⟨a.1.trans e,a.2.ext e⟩,fun a=>?_⟩;have h:=h.ext e;have t:=t.ext e;refine(Yt 5 t) ?_;rintro I q d;have h:=h.mo d (by first|simpa using h.ne t Bc|(simp;omega));have k:=k.mo d (by first|simpa using k.ne t Bc|(simp;omega));refine⟨⟨Bv a.1 d a.1.size Bx,a.2.mo d Bx⟩,fun a=>?_⟩;refine(Gv [6]∘Yd∘Lm (I,g,y,G)) ?_;exact⟨a.1,E,B,D,m,h,k,q⟩
    .refine cP 5 Z Z GP Z Z (by first|rfl|assumption) (t) Bl ?_;rintro I q d;have h:=h.mo d (by first|simpa using h.ne t Bc|(simp;omega));refine⟨⟨Bv a.1 d a.1.size Bx,a.2.mo d Bx⟩,fun a=>?_⟩;refine GW.one 3 Be<|DK 3 Z Z Z underlying51 BU Z Z Z J J ?_;rintro y V p k e;have B:=BF a.1.size p
     try have m:g≠y:=(by have:=h.lt;omega)
     refine⟨⟨a.1.trans e,a.2.ext e⟩,fun a=>?_⟩;have h:=h.ext e;have q:=q.ext e;refine(Gv [6]∘Yd∘Lm (V,g,y,G)) ?_;exact⟨a.1,E,B,D,m,h,k,q⟩
  .refine DK 3 Z Z Z underlying51 BU Z Z Z J J ?_;rintro y V p k e;have B:=BF a.1.size p
   try have m:g≠y:=(by have:=h.lt;omega)
   refine⟨⟨a.1.trans e,a.2.ext e⟩,fun a=>?_⟩;refine Ye 1 4 ?_ ?_
   .refine DK 1 Z Z Z underlying51 BU Z Z Z J J ?_;rintro g w1 A h l;have E:=BF a.1.size A
    try have m:g≠y:=(by have:=k.lt;omega)
    refine⟨⟨a.1.trans l,a.2.ext l⟩,fun a=>?_⟩;have k:=k.ext l;refine(Ym 4) ?_;rintro G w4 C t r;have D:=BF a.1.size C;refine⟨⟨a.1.trans r,a.2.ext r⟩,fun a=>?_⟩;have k:=k.ext r;have h:=h.ext r;refine(Yt 5 t) ?_;rintro I q d;have k:=k.mo d (by first|simpa using k.ne t Bc|(simp;omega));have h:=h.mo d (by first|simpa using h.ne t Bc|(simp;omega));refine⟨⟨Bv a.1 d a.1.size Bx,a.2.mo d Bx⟩,fun a=>?_⟩;refine(Gv [6]∘Yd∘Lm (I,g,y,G)) ?_;exact⟨a.1,E,B,D,m,h,k,q⟩
   .refine(Jm 4) ?_;rintro G w4 C t r;have D:=BF a.1.size C;refine⟨⟨a.1.trans r,a.2.ext r⟩,fun a=>?_⟩;have k:=k.ext r;refine GW.one 1 Be<|DK 1 Z Z Z underlying51 BU Z Z Z J J ?_;rintro g w1 A h l;have E:=BF a.1.size A
    try have m:g≠y:=(by have:=k.lt;omega)
    refine⟨⟨a.1.trans l,a.2.ext l⟩,fun a=>?_⟩;have k:=k.ext l;have t:=t.ext l;refine(Yt 5 t) ?_;rintro I q d;have k:=k.mo d (by first|simpa using k.ne t Bc|(simp;omega));have h:=h.mo d (by first|simpa using h.ne t Bc|(simp;omega));refine⟨⟨Bv a.1 d a.1.size Bx,a.2.mo d Bx⟩,fun a=>?_⟩;refine(Gv [6]∘Yd∘Lm (I,g,y,G)) ?_;exact⟨a.1,E,B,D,m,h,k,q⟩
  .refine(Jm 4) ?_;rintro G w4 C t r;have D:=BF a.1.size C;refine⟨⟨a.1.trans r,a.2.ext r⟩,fun a=>?_⟩;refine Ye 1 3 ?_ ?_
   .refine DK 1 Z Z Z underlying51 BU Z Z Z J J ?_;rintro g w1 A h l;have E:=BF a.1.size A
    try have m:g≠y:=(by have:=k.lt;omega)
    refine⟨⟨a.1.trans l,a.2.ext l⟩,fun a=>?_⟩;have t:=t.ext l;refine Ye 3 5 ?_ ?_
    .refine DK 3 Z Z Z underlying51 BU Z Z Z J J ?_;rintro y V p k e;have B:=BF a.1.size p
     try have m:g≠y:=(by have:=h.lt;omega)
     refine⟨⟨a.1.trans e,a.2.ext e⟩,fun a=>?_⟩;have t:=t.ext e;have h:=h.ext e;refine(Yt 5 t) ?_;rintro I q d;have h:=h.mo d (by first|simpa using h.ne t Bc|(simp;omega));have k:=k.mo d (by first|simpa using k.ne t Bc|(simp;omega));refine⟨⟨Bv a.1 d a.1.size Bx,a.2.mo d Bx⟩,fun a=>?_⟩;refine(Gv [6]∘Yd∘Lm (I,g,y,G)) ?_;exact⟨a.1,E,B,D,m,h,k,q⟩
    .refine cP 5 Z Z GP Z Z (by first|rfl|assumption) (t) Bl ?_;rintro I q d;have h:=h.mo d (by first|simpa using h.ne t Bc|(simp;omega));refine⟨⟨Bv a.1 d a.1.size Bx,a.2.mo d Bx⟩,fun a=>?_⟩;refine GW.one 3 Be<|DK 3 Z Z Z underlying51 BU Z Z Z J J ?_;rintro y V p k e;have B:=BF a.1.size p
     try have m:g≠y:=(by have:=h.lt;omega)
     refine⟨⟨a.1.trans e,a.2.ext e⟩,fun a=>?_⟩;have h:=h.ext e;have q:=q.ext e;refine(Gv [6]∘Yd∘Lm (V,g,y,G)) ?_;exact⟨a.1,E,B,D,m,h,k,q⟩
   .refine DK 3 Z Z Z underlying51 BU Z Z Z J J ?_;rintro y V p k e;have B:=BF a.1.size p
    try have m:g≠y:=(by have:=h.lt;omega)
    refine⟨⟨a.1.trans e,a.2.ext e⟩,fun a=>?_⟩;have t:=t.ext e;refine GW.one 1 Be<|DK 1 Z Z Z underlying51 BU Z Z Z J J ?_;rintro g w1 A h l;have E:=BF a.1.size A
    try have m:g≠y:=(by have:=k.lt;omega)
    refine⟨⟨a.1.trans l,a.2.ext l⟩,fun a=>?_⟩;have t:=t.ext l;have k:=k.ext l;refine(Yt 5 t) ?_;rintro I q d;have k:=k.mo d (by first|simpa using k.ne t Bc|(simp;omega));have h:=h.mo d (by first|simpa using h.ne t Bc|(simp;omega));refine⟨⟨Bv a.1 d a.1.size Bx,a.2.mo d Bx⟩,fun a=>?_⟩;refine(Gv [6]∘Yd∘Lm (I,g,y,G)) ?_;exact⟨a.1,E,B,D,m,h,k,q⟩
 .rintro⟨wr,g,y,G⟩⟨xr,E,B,D,m,hg,hf,a0⟩;have cf:=a3.ext xr;have cx:=x2.size;have W:=(hg.ne a0 Bc).symm;have bh:=(hf.ne a0 Bc).symm;refine(O 7)<|Lo (fun((i,wi):Y×Ad)=>(i<=Aim s/\Bk wi g 3 (fill (fun(j:Y)=>Value.int .i64 (j:H)) (U 0) (Aim s) i)/\Bk wi y 3 (fill (fun(j:Y)=>Value.int .i64 (((s.getD j 0).toNat:Y):H)) (U 0) (Aim s) i)/\Mo wr wi [g,y],[(0,Bj (s)),(3,.pointer (X ⟨nb,0,Aa⟩)),(4,.pointer (X ⟨G,0,Aa⟩)),(5,.slice (X ⟨y,0,Aa⟩) (Aim s) (Aim s)),(16,U ((Aim s:Y):H)),(17,U i)],wi,Aim s-i)) (0,wr) ?_ ?_
  .exact⟨BD _,by rw[gA];exact hg,by rw[gA];exact hf,Mo.refl _ _⟩
  .rintro⟨i,wi⟩⟨hi,S,ai,af⟩;have bf:=a0.mo af (by simp;exact⟨W,bh⟩);have bq:=cf.mo af Bx;refine(O 5)<|Zi (fun hc=>?_) fun hc=>?_
   .have cn:s.getD i 0=s[i]:=by rw[BX,BN hc];rfl
    have c2:=(s[i]).toNat_lt;have bi:=bf.drew;have b2:=S.drew;have cp:=ai.drew;refine(O 2) ?_;refine KW.block<|(O 2) ?_;refine OW.val Z Z (EX.move Z)<|(O 2∘Yr 13 (fun w'=>Bk w' G 51 [.slice (X ⟨g,0,Aa⟩) (Aim s) (Aim s)]/\Mo wr w' [g,y]) (HZ bi (af.trans (Mo.Age (Bf.drew wi) [g,y])))) fun a=>(Gv [0,1,2,3,4,5,6]) ?_;refine GW.val 7 Z Be Be Be Z Z a (fun w' c4=>EW underlying9 Z Z (BN J))<|(Gv [8,9]∘Yt 10 b2 (hlt:=by rw[QI hi];omega)) ?_;rintro I q d;refine⟨⟨bi.mo d (by simpa using W),a.2.trans (d.mono Bl)⟩,fun a=>?_⟩;refine(Gv [11]) ?_;have cq:=cp.mo d (by simpa using m.symm);refine(Yt 12 cq (hlt:=by rw[QI hi];omega)) ?_;rintro w6 b7 a1;refine⟨⟨a.1.mo a1 (by simpa using bh),a.2.trans (a1.mono Bl)⟩,fun a=>?_⟩;refine(Yd∘O 5) ?_;have b4:=q.mo a1 (by simpa using m);rw[QJ (f:=fun(j:Y)=>Value.int .i64 (j:H)) hc]at b4;rw[<-cn,QJ (f:=fun(j:Y)=>Value.int .i64 (((s.getD j 0).toNat:Y):H)) hc]at b7;refine Lb ((i+1),w6) ?_;exact⟨J,b4,b7,a.2⟩
   .obtain rfl:i=Aim s:=J;rw[QH,jA]at S;rw[QH,vz]at ai;have xi:Bf w wi:=Bv (x2.trans xr) af (x2.trans xr).size Bx;refine(O 7)<|Zi (fun hz=>?_) fun hz=>?_
    .refine(O 5∘Bu) ?_;refine⟨xi,g,BE (Aim s),Z,J,S,?_⟩;obtain rfl:s=[]:=Gx hz;exact⟨Nf.refl _,GS.nil⟩
    .have h0:0<Aim s:=J;refine(O 3∘Zv (by exact Gc Z Z)∘O 6∘Zn) ?_;rintro xb V p cs e;refine(Zs cs) ?_;rintro w4 b8 cj;refine(O 6) ?_;have x4:Bf wi w4:=Bv e cj e.size Bx;have cu:=xi.size;have b1:=S.ext x4;have b5:=ai.ext x4;have aj:=bf.ext x4;have bn:=bq.ext x4;have b9:=(aj.ne b8 Bc).symm;have ca:xb≠nb:=by have:=bq.lt;omega
     have a6:xb≠g:=by have:=S.lt;omega
     refine Lo (fun((K,b,rank,rb,o,T):Y×Y×(Bi)×Y×(Bi)×Ad)=>(1<=K/\K<=2*Aim s/\b<=K/\Key s K rank b/\Aim rank=Aim s/\(∀x∈rank,x<=1000000000)/\o.Perm (BE (Aim s))/\rb≠g/\rb≠xb/\Bk T nb 3 [U (Aim s:H)]/\Bk T G 51 [.slice (X ⟨g,0,Aa⟩) (Aim s) (Aim s)]/\Bk T g 3 (BC .i64 o)/\Bk T xb 351 (NO (X ⟨rb,0,Aa⟩) (Aim s) (Aim s) b)/\Bk T rb 3 (BC .i64 rank)/\Bf w T,[(3,.pointer (X ⟨nb,0,Aa⟩)),(4,.pointer (X ⟨G,0,Aa⟩)),(7,.func (.func 262) #[] #[.pointer (X ⟨nb,0,Aa⟩),.pointer (X ⟨G,0,Aa⟩)]),(8,.pointer (X ⟨xb,0,Aa⟩)),(9,U K)],T,2*Aim s-K)) (1,0,(s.map (fun b=>b.toNat)),y,(BE (Aim s)),w4) ?_ ?_
     .refine⟨Bq _,J,J,(Aaf s).key0,Bl,fun x hx=>?_,Nf.refl _,m.symm,?_,bn,aj,b1,b8,b5,xi.trans x4⟩
      .obtain⟨c,_,rfl⟩:=Ck.1 hx;have:=c.toNat_lt;omega
      .have:=ai.lt;omega
     .rintro⟨K,b,rank,rb,o,T⟩⟨c6,c5,c3,al,a9,cb,cd,bb,cz,cg,ce,cl,a5,ba,xk⟩;refine(O 5∘Zv (Cf a5)∘Zv (by exact Gc Z Z)∘Zc (mv al a9 h0 J J cb g rb bb o cd T cl ba)) ?_;rintro _ I⟨rfl,o',P,a2,d⟩;refine(O 4) ?_;have ao:=a5.mo d (by simpa using a6);have cc:=ba.mo d (by simpa using bb);have bs:=cg.mo d Bx;have bl:=ce.mo d (by simpa using W);have x5:Bf w I:=Bv xk d xk.size Bx;refine(Zv (Cf ao)∘Ea (qL al a9 h0 J J o' P rb g nb G I cc a2 bs bl)) ?_;rintro _ w6⟨vb,next,rfl,cw,cr,ab,bm,N⟩;refine(O 2∘Zs (ao.ext N) (hlt:=by simp[NO])) ?_;rintro w7 b6 Q;refine(O 4) ?_;have cv:=x5.size;have a4:vb≠xb:=by have:=ao.lt;omega
      have b0:vb≠g:=by have:=a2.lt;omega
      have ch:=(bs.ext N).mo Q (by simpa using ca.symm);have bj:=(bl.ext N).mo Q (by simpa using b9.symm);have b3:=(a2.ext N).mo Q (by simpa using a6.symm);have a7:=cr.mo Q (by simpa using a4);have x7:Bf w w7:=Bv (x5.trans N) Q (x5.trans N).size Bx;have L:=(Aae P ab bm).key2;have bc:=rN P ab bm J;refine(O 3)<|Zi (fun cm=>?_) fun cm=>?_
      .refine(O 3∘Zv (Cf b6)∘Zv (by exact Gc Z Z)∘Zc (mv L ab h0 J J bc g vb b0 o' P.perm w7 b3 a7)) ?_;rintro _ w8⟨rfl,o2,a8,co,bx⟩;refine(O 3) ?_;have c0:=bj.mo bx (by simpa using W);have x8:Bf w w8:=Bv x7 bx x7.size Bx;refine(O 3∘Bu) ?_;exact⟨x8,g,o2,Z,J,co,vG a8 J⟩
      .refine(O 7)<|Lb ((K*2),K,next,vb,o',w7) ?_;rw[<-Nat.mul_two]at L;exact⟨J,J,J,L,ab,bc,P.perm,b0,a4,ch,bj,b3,b6,a7,x7⟩
end
section
def HY:Y->Y->Y->Y
 |0,_,out=>out
 |n+1,v,out=>HY n (v/2) ((out*2)%4294967296|||v%2)
def Qy(r:Y):Y:=if r &&& 2147483648≠0 then(r*2%4294967296) ^^^ 79764919 else r*2%4294967296
def Sk:Y->Y->Y
 |0,r=>r
 |k+1,r=>Qy (Sk k r)
def eL(k r:Y):Sk (k+1) r=Qy (Sk k r):=rfl
def Sq(i:Y):Y:=Sk 8 (i*16777216)
def OP(r b:Y):Y:=(r*256%4294967296) ^^^ Sq ((r/16777216) ^^^ b)
def Ny(r:Y)(s:Bg):Y:=s.foldl (fun r c=>OP r c.toNat) r
def Em(s:Bg):Y:=4294967295-Ny 4294967295 s
def Sj(s:Bg):Y:=s.foldl (fun r c=>OP r (HY 8 c.toNat 0)) 4294967295
def Fc(s:Bg):Y:=HY 32 (4294967295-Sj s) 0
def NA(c x:Y):Y:=((c*2%4294967296)|||c/2147483648) ^^^ x
def Hc(l:Bi):Y:=l.foldl NA 0
def aS{α:Type}(l:Ae α)(k:Y)(h:k<Aim l):l.take (k+1)=l.take k++[l[k]]:=by
 simp
def sB(r:Y):Qy r<4294967296:=by
 unfold Qy;split
 .exact OG (n:=32) J J
 .omega
def XH(i:Y):Sq i<4294967296:=sB _
def XD(r b:Y):OP r b<4294967296:=OG (n:=32) J (XH _)
def rX(r:Y)(s:Bg)(h:r<4294967296):Ny r s<4294967296:=by
 unfold Ny
 induction s generalizing r with
 |nil=>grind
 |cons c s ih=>exact ih _ (XD _ _)
def rY(r:Y)(s:Bg)(c:AH):Ny r (s++[c])=OP (Ny r s) c.toNat:=by simp[Ny]
def br:∀n v o,o<4294967296->HY n v o<4294967296
 |0,_,_,h=>h
 |n+1,v,o,h=>by
  unfold HY;exact br n _ _ (Mg (n:=32) J J)
def oy:∀n v o j,o<2 ^ j->j+n<=32->HY n v o<2 ^ (j+n)
 |0,_,_,_,h,_=>h
 |n+1,v,o,j,h,hj=>by
  unfold HY;have hp:2 ^ (j+1)<=2 ^ 32:=FN Bl J;have h2:2 ^ (j+1)=2*2 ^ j:=by rw[IQ,OD]
  have a:o*2%4294967296<2 ^ (j+1):=by
   have:=Nat.mod_le (o*2) 4294967296;omega
  have d:1<=2 ^ j:=Nat.one_le_two_pow;have:=oy n (v/2) (o*2%4294967296|||v%2) (j+1) (Mg a J) J;grind
def Aem(v:Y):HY 8 v 0<256:=oy 8 v 0 0 Bc Bc
def rQ(s:Bg)(c:AH):Sj (s++[c])=OP (Sj s) (HY 8 c.toNat 0):=by simp[Sj]
def Ut(c x:Y)(hx:x<4294967296)(hc:c<4294967296):NA c x<4294967296:=
 OG (n:=32) (Mg (n:=32) J J) hx
def sC(l:Bi)(x:Y):Hc (l++[x])=NA (Hc l) x:=by simp[Hc]
def Uu(l:Bi)(h:∀x∈l,x<4294967296):Hc l<4294967296:=by
 unfold Hc
 have:∀(l:Bi) (c:Y),c<4294967296->(∀x∈l,x<4294967296)->l.foldl NA c<4294967296:=by
  intro l
  induction l with
  |nil=>simp
  |cons x l ih=>intro c a h;exact ih _ (Ut c x (h x Bl) a) (fun y d=>h y Bh)
 grind
end
namespace Bz
def Da(u:By)(i:Y):Bs:=(BE 16).map fun k=>decide (BS (16*i+k)∈u)
def DC(u:By)(i:Y):Aw:=(Da u i).any id
def JT(u:By):Bs:=(BE 16).map (DC u)++(BE 16).flatMap fun i=>if DC u i then Da u i else[]
def MM(l:Bs)(i:Y):By:=((BE 16).filter fun k=>l.getD k Aj).map fun k=>BS (16*i+k)
def IB(s:By)(all:Bs):Bi->Y->By->Av (By×Y)
 |[],p,acc=>X (acc,p)
 |i::is,p,acc=>
  if all.getD i Aj=Aj then IB s all is p acc
  else if 8*Aim s<p+16 then Aa
  else IB s all is (p+16) (acc++MM (BW s p 16) i)
def MS(s:By)(p:Y):Av (By×Y):=
 if 8*Aim s<p+16 then Aa
 else match IB s (BW s p 16) (BE 16) (p+16) []with
  |none=>Aa
  |some (u,q)=>if u=[]then Aa else X (u,q)
def JQ(u:By)(i:Y):Aim (Da u i)=16:=by rfl
def am(u:By)(i k:Y)(h:k<16):(Da u i).getD k Aj=decide (BS (16*i+k)∈u):=by
 unfold Da;grind
def aR{s:By}{u:By}{all:Bs}:∀(is:Bi) (p:Y) (acc:By),(∀i∈is,all.getD i Aj=DC u i)->Dt s p (is.flatMap fun i=>if DC u i then Da u i else[])->IB s all is p acc=X (acc++is.flatMap (fun i=>MM (Da u i) i),p+Aim (is.flatMap fun i=>if DC u i then Da u i else[]))
 |[],p,acc,_,_=>by simp[IB]
 |i::is,p,acc,ha,hs=>by
  have h1:=ha i Bl;rw[EY]at hs;rw[IB,h1,EY,EY];by_cases hb:DC u i=Af
  .rw[hb]at hs ⊢;rw[Ai Z]at hs;have hl:=hs.left;have hr:=hs.right;rw[JQ]at hr;have h2:=hl.1;rw[JQ]at h2;have h3:=hl.bits;rw[JQ]at h3;rw[Ag Bc,Ag J,h3,aR is _ _ (fun j hj=>ha j (by simp[hj])) hr,Ai Z,BA,JQ,Cq,No]
  .have hb':DC u i=Aj:=by simpa using hb
   rw[hb']at hs ⊢;rw[Ag Bc,Ev]at hs
   have e:MM (Da u i) i=[]:=by
    unfold MM;rw[List.map_eq_nil_iff,List.filter_eq_nil_iff];intro k d;have a:=CQ.1 d;unfold DC at hb';rw[List.any_eq_false]at hb'
    have:=hb' ((Da u i).getD k Aj) (by
     rw[BX,BN (by rw[JQ];exact a)];exact BM _)
    simpa using this
   rw[Ai Z,aR is p acc (fun j hj=>ha j (by simp[hj])) hs,e];simp
def zy:BE 256=(BE 16).flatMap fun i=>(BE 16).map fun k=>16*i+k:=by decide+kernel
def Adv{s:By}{p:Y}{t:By}(h:t≠[])(d:Dt s p (JT (used t))):MS s p=X (used t,p+Aim (JT (used t))):=by
 unfold JT at d ⊢;have j:=d.left;have g:=d.right;have a:Aim ((BE 16).map (DC (used t)))=16:=Bl;rw[a]at g;have o:=j.1;rw[a]at o;have l:=j.bits;rw[a]at l
 have n:∀i∈BE 16,((BE 16).map (DC (used t))).getD i Aj=DC (used t) i:=fun i q=>by
  grind
 have e:(BE 16).flatMap (fun i=>MM (Da (used t) i) i)=used t:=by
  conv=>rhs;unfold used
  rw[zy,List.filter_flatMap,List.map_flatMap];congr 1;funext i;unfold MM;rw[List.filter_map,EE];congr 1;apply List.filter_congr;intro k m;have f:=CQ.1 m;rw[am _ _ _ f];exact decide_eq_decide.2 (mem_used t _)
 unfold MS;rw[Ag J,l,aR (u:=used t) _ _ _ n g];simp only[Ev];rw[e,Ag (used_may h).1,BA,a,No]
open Classical in
noncomputable def Gp(s:By):Bi:=if h:∃o,IsOrd s o then h.choose else[]
def ly{s:By}{o:Bi}(h:IsOrd s o):Gp s=o:=by
 have a:∃o,IsOrd s o:=⟨o,h⟩;unfold Gp;rw[AQ a];exact a.choose_spec.one h
def IsOrd.ex(s:By):∃o,IsOrd s o:=by
 let le:Y->Y->Prop:=fun i j=>i=j∨(Ed (Cu s i) (Cu s j)/\(Cu s i=Cu s j->i<j))
 have g:∀a b c,le a b->le b c->le a c:=fun a b c f d=>by
  rcases f with rfl|⟨f,n⟩
  .exact d
  .rcases d with rfl|⟨d,m⟩
   .grind
   .refine .inr ⟨YY f d,fun e=>?_⟩;have p:Cu s a=Cu s b:=Pe f Bh;grind
 have h:∀a b,le a b∨le b a:=fun a b=>by
  rcases TZ a b with q|q|q
  .rcases US (Cu s a) (Cu s b)with z|z
   .grind
   .grind
  .omega
  .rcases US (Cu s b) (Cu s a)with z|z
   .grind
   .grind
 classical
 refine⟨(BE (Aim s)).mergeSort fun i j=>decide (le i j),TS _ _,?_⟩
 have k:=de (le:=fun i j=>decide (le i j)) (fun a b c f d=>by
  grind) (fun a b=>by
  grind) (BE (Aim s))
 have l:((BE (Aim s)).mergeSort fun i j=>decide (le i j)).Nodup:=(TS _ _).nodup_iff.2 Nn;refine GS.imp₂ ?_ k l;grind
def ZK(s:By):IsOrd s (Gp s):=by
 obtain⟨o,h⟩:=IsOrd.ex s;rw[ly h];omega
noncomputable def MF(t:By):Bi:=(front (used t) (FG t (Gp t))).getD []
noncomputable def listOf(t:By):Bi:=Fp (Aim (used t)) 0 (MF t)
noncomputable def blkB(s:By)(pl:Pl):Bs:=nb 48 54156738319193++(nb 32 (Em s)++(Aj::(nb 24 (Iz (Gp (enc s)))++(JT (used (enc s))++(planBits pl++Ej pl (listOf (enc s)))))))
def Qp(s:By)(pl:Pl):Prop:=s≠[]->pl.Ok (Aim (used (enc s))+2)/\Aim pl.picks=grpN (Aim (listOf (enc s)))
def JU(u:By)(l:Bi)(row most:Y):Av By:=
 match Fo (Aim u) most [] 0 1 l with
 |none=>Aa
 |some ps=>match GC u ps with
  |none=>Aa
  |some c=>if row<Aim c then(if(dec 0 [] (back c row)).2=0 then X (dec 0 [] (back c row)).1 else Aa)else Aa
noncomputable def NW(s:By)(p most:Y):Av (By×Y×Y):=
 if 8*Aim s<p+48 then Aa
 else if num (BW s p 48)≠54156738319193 then Aa
 else if 8*Aim s<p+80 then Aa
 else if 8*Aim s<p+81 then Aa
 else if Co s (p+80)=Af then Aa
 else if 8*Aim s<p+105 then Aa
 else match MS s (p+105)with
  |none=>Aa
  |some (u,q)=>match MR s q (Aim u+2)with
   |none=>Aa
   |some (pl,q2)=>match Ip pl.tabs s (Aim u+1) pl.picks q2 []with
    |none=>Aa
    |some (l,q3)=>match JU u l (num (BW s (p+81) 24)) most with
     |none=>Aa
     |some t=>if Em t=num (BW s (p+48) 32)then X (t,Em t,q3)else Aa
def Qw(s:By):Em s<4294967296:=by unfold Em;omega
def VT{t:By}(h:t≠[]):1<=Aim (used t):=Kg.2 (used_may h).1
structure Parts(t:By):Prop where
 front:front (used t) (FG t (Gp t))=X (MF t)
 len:Aim (MF t)=Aim t
 back:GC (used t) (MF t)=X (FG t (Gp t))
 lt:∀p∈MF t,p<Aim (used t)
def ZQ(t:By)(h0:t≠[]):Parts t:=by
 have d:=ZK t
 have a:∀b∈FG t (Gp t),b∈used t:=fun b e=>by
  unfold FG at e;obtain⟨i,h,rfl⟩:=Ck.1 e;rw[mem_used];have g:=CQ.1 (d.perm.subset h);grind
 obtain⟨f,k,o,n,m⟩:=gV (FG t (Gp t)) (used t) a;have l:MF t=f:=by unfold MF;rw[k];rfl
 have j:Aim (FG t (Gp t))=Aim t:=by unfold FG;rw[DQ,d.lng]
 exact⟨Bh,Bh,Bh,Bh⟩
def listOf_len(t:By)(h0:t≠[]):1<=Aim (listOf t)/\Aim (listOf t)<=Aim t+1/\(∀x∈listOf t,x<Aim (used t)+2)/\∃r,listOf t=r++[Aim (used t)+1]/\∀x∈r,x≠Aim (used t)+1:=by
 have a:=ZQ t h0;obtain⟨k,f,g,d⟩:=VX (Aim (used t)) (VT h0) (MF t) 0 a.lt;have e:listOf t=k++[Aim (used t)+1]:=f;rw[a.len]at d;grind
def Adl{s text:By}{pl:Pl}{p most:Y}(h0:s≠[])(f:Qp s pl)(hl:Aim s<=8192)(hm:20000<=most/\most<=262144)(e:Dt text p (blkB s pl)):NW text p most=X (s,Em s,p+Aim (blkB s pl)):=by
 have a:=enc_ne h0;have A:=enc_len (Aim s) s (Bq _);have d:=Aah s J;obtain⟨j,P⟩:=f h0;unfold blkB at e ⊢;generalize k:enc s=t at*;have g:=ZQ t a;obtain⟨N,L,y,x⟩:=listOf_len t a;obtain⟨K,I,w⟩:=dK (ZK t) a;obtain⟨a1,W⟩:=PC e.left (show(54156738319193:Y)<2 ^ 48 by decide);have i:=e.right;rw[nb_length]at i;obtain⟨V,G⟩:=PC i.left (show Em s<2 ^ 32 from Qw s);have o:=i.right;rw[nb_length]at o;obtain⟨T,S,m⟩:=NT o;have D:(2:Y) ^ 24=16777216:=by decide
 obtain⟨Q,E⟩:=PC m.left (show Iz (Gp t)<2 ^ 24 by omega);have h:=m.right;rw[nb_length]at h;have v:=Adv a h.left;have l:=h.right;have r:=Ads j l.left;have B:=l.right;have q:=uJ j (s:=text) (fin:=Aim (used t)+1) y x J B
 have C:JU (used t) (listOf t) (Iz (Gp t)) most=X s:=by
  unfold JU;have z:=Afx (n:=Aim (used t)) (most:=most) (VT a) g.lt (by rw[g.len];omega);rw[show Fo (Aim (used t)) most [] 0 1 (listOf t)=X (MF t)from z];simp only;rw[g.back];simp only;rw[Ai J,w,d];rfl
 unfold NW;rw[show p+48+32+1+24=p+105 by omega]at v r q;rw[Ag J,Ag J,Ag J,Ag J,Ag Bh,Ag J,v];simp only;rw[r];simp only;rw[q];simp only;rw[show p+81=p+48+32+1 by omega,E,C];simp only;rw[Ai G.symm];simp only[BA,nb_length,Cv];grind
def Ut{c x:Y}(e:c<4294967296)(hx:x<4294967296):NA c x<4294967296:=by
 unfold NA;have d:c*2%4294967296<2 ^ 32:=Kk _ Bl
 have a:c/2147483648<2 ^ 32:=by
  have:c/2147483648<2:=J;omega
 exact OG (n:=32) (Mg d a) hx
def Uu(l:Bi)(h:∀x∈l,x<4294967296):Hc l<4294967296:=by
 have:∀(l:Bi) (c:Y),(∀x∈l,x<4294967296)->c<4294967296->l.foldl NA c<4294967296:=fun l=>by
  induction l with
  |nil=>simp
  |cons x l ih=>
   intro c h a;rw[LZ];exact ih _ (fun y d=>h y Bh) (Ut a (h x Bl))
 exact this l 0 h Bl
def magicT:By:=[66,90,104,49]
noncomputable def blocksB(s:By)(pl:Pl):Bs:=if s=[]then[]else blkB s pl
def HU(s:By):Bi:=if s=[]then[]else[Em s]
noncomputable def Jg(s:By)(pl:Pl):Bs:=bitsOf magicT++(blocksB s pl++(nb 48 25779555029136++nb 32 (Hc (HU s))))
noncomputable def packS(s:By)(pl:Pl):By:=pack (Jg s pl)
noncomputable def KJ(s:By)(room:Y):Y->Y->By->Bi->Av (By×Y)
 |0,_,_,_=>Aa
 |f+1,bit,out,sums=>
  if 8*Aim s<bit+48 then Aa
  else if num (BW s bit 48)=25779555029136 then
   (if 8*Aim s<bit+80 then Aa else if num (BW s (bit+48) 32)=Hc sums then X (out,(bit+87)/8)else Aa)
  else if num (BW s bit 48)=54156738319193 then
   match NW s bit room with
   |none=>Aa
   |some (x,sum,q)=>if 262144<Aim out+Aim x then Aa else KJ s room f q (out++x) (sums++[sum])
  else Aa
def headT(s:By)(at_:Y):Av Y:=
 if at_+4<=Aim s/\s.getD at_ 0=66/\s.getD (at_+1) 0=90/\s.getD (at_+2) 0=104/\49<=(s.getD (at_+3) 0).toNat/\(s.getD (at_+3) 0).toNat<=57 then X ((s.getD (at_+3) 0).toNat-48)else Aa
noncomputable def takeS(s:By)(at_:Y):Av (By×Y):=match headT s at_ with
 |none=>Aa
 |some level=>KJ s (min (level*100000) 262144) (8*Aim s+1) (8*(at_+4)) [] []
def streamB_length(s:By)(pl:Pl):Aim (Jg s pl)=32+(Aim (blocksB s pl)+80):=by
 unfold Jg;rw[BA,BA,BA,nb_length,nb_length,bitsOf_length];rfl
def ZB{s:By}{p n v:Y}(h:Dt s p (nb n v))(hv:v<2 ^ n):¬8*Aim s<p+n/\num (BW s p n)=v:=by
 obtain⟨a,b⟩:=PC h hv;omega
def Adn{s text:By}{pl:Pl}{p room:Y}(l:Qp s pl)(hl:Aim s<=8192)(hm:20000<=room/\room<=262144)(i:Dt text p (blocksB s pl++(nb 48 25779555029136++nb 32 (Hc (HU s)))))(f:Y):KJ text room (f+2) p [] []=X (s,(p+Aim (blocksB s pl)+87)/8):=by
 have m:∀(f d:Y) (g:By) (a:Bi),(∀x∈a,x<4294967296)->Dt text d (nb 48 25779555029136++nb 32 (Hc a))->KJ text room (f+1) d g a=X (g,(d+87)/8):=fun f d g a k h=>by
  obtain⟨o,n⟩:=ZB h.left (show(25779555029136:Y)<2 ^ 48 by decide);have q:=h.right;rw[nb_length]at q;obtain⟨w,v⟩:=ZB q (show Hc a<2 ^ 32 from Uu a k);rw[KJ,Ag o,Ai n,Ag J,Ai v]
 by_cases j:s=[]
 .subst j;unfold blocksB HU at*;grind
 .have r:blocksB s pl=blkB s pl:=Ag j;have t:HU s=[Em s]:=Ag j;rw[r,t]at i;rw[r];have e:=Adl j l hl hm i.left
  have k:Dt text p (nb 48 54156738319193):=by
   have:=i.left;unfold blkB at this;exact this.left
  obtain⟨o,n⟩:=ZB k Bc;rw[KJ,Ag o,Ag J,Ai n,e];simp only[Ev];rw[Ag Bh,m f _ s [Em s] (by simp;exact Qw s) i.right]
def takeS_pack{s:By}{pl:Pl}(e:Qp s pl)(hl:Aim s<=8192)(pre suf:By):takeS (pre++packS s pl++suf) (Aim pre)=X (s,Aim pre+Aim (packS s pl)):=by
 have d:=((Dt.pack (Jg s pl)).behind pre).more suf;rw[Jv]at d
 have h:Aim (packS s pl)=Aim (Jg s pl)/8+if Aim (Jg s pl)%8=0 then 0 else 1:=by
  unfold packS;rw[pack_length];split<;>omega
 have o:=streamB_length s pl;have q:Aim (packS s pl)=(Aim (Jg s pl)+7)/8:=pack_length _;have t:Dt (pre++packS s pl++suf) (8*Aim pre) (bitsOf magicT):=by unfold Jg at d;exact d.left
 have a:∀j,j<4->(pre++packS s pl++suf).getD (Aim pre+j) 0=magicT.getD j 0:=fun j E=>by
  have G:Aim (bitsOf magicT)=32:=by rw[bitsOf_length];rfl
  have v:∀k,k<8->Co (pre++packS s pl++suf) (8*Aim pre+(8*j+k))=Co magicT (8*j+k):=fun k D=>by
   rw[t.2 _ J,BX,ru (by show 8*j+k<8*4;omega)];rfl
  apply Ll.1;apply TV;intro i;rcases Db i 8 with l|l
  .have:=v (7-i) J;unfold Co at this;rw[show(8*Aim pre+(8*j+(7-i)))/8=Aim pre+j by omega,show(8*Aim pre+(8*j+(7-i)))%8=7-i by omega,show(8*j+(7-i))/8=j by omega,show(8*j+(7-i))%8=7-i by omega,show 7-(7-i)=i by omega]at this;exact this
  .have C:(256:Y)<=2 ^ i:=by
    have:=FN (n:=2) Bc l;omega
   have B:=((pre++packS s pl++suf).getD (Aim pre+j) 0).toNat_lt;have A:=(magicT.getD j 0).toNat_lt;rw[Qm J,Qm J]
 have m:=a 0 Bc;have y:=a 1 Bc;have x:=a 2 Bc;have w:=a 3 Bc;rw[Jv]at m
 have r:headT (pre++packS s pl++suf) (Aim pre)=X 1:=by
  unfold headT;rw[m,y,x,w,Ai]
  .rfl
  .refine⟨?_,Z,Z,Z,Bc,Bc⟩;grind
 unfold takeS;rw[r];simp only
 have p:Dt (pre++packS s pl++suf) (8*(Aim pre+4)) (blocksB s pl++(nb 48 25779555029136++nb 32 (Hc (HU s)))):=by
  unfold Jg at d;have:=d.right;rw[bitsOf_length,show 8*Aim pre+8*Aim magicT=8*(Aim pre+4) by rfl]at this;exact this
 have g:∃f,8*Aim (pre++packS s pl++suf)+1=f+2:=⟨8*Aim (pre++packS s pl++suf)-1,Bh⟩;obtain⟨f,g⟩:=g;rw[g,Adn e hl Bc p f];simp;omega
end Bz
namespace Bz
def FF(L:By)(i b:Y):Y:=Aim ((BE i).filter fun j=>decide ((L.getD j 0).toNat=b))
def Fx(L:By):Y->Y
 |0=>0
 |b+1=>Fx L b+FF L (Aim L) b
def IY(L:By)(i:Y):Y:=Fx L (L.getD i 0).toNat+FF L i (L.getD i 0).toNat
def XE(L:By)(i b:Y):FF L (i+1) b=FF L i b+if(L.getD i 0).toNat=b then 1 else 0:=by
 unfold FF;rw[FV,KY,BA];grind
def ff(L:By)(b:Y):∀i,FF L i b<=i
 |0=>Bq _
 |i+1=>by
  have:=ff L b i;rw[XE];grind
def lU{i n:Y}(h:i<n):BE n=BE i++i::(BE (n-i-1)).map (i+1+·):=by
 have e:n=i+(n-i-1+1):=J
 conv=>lhs;rw[e]
 rw[List.range_add,List.range_succ_eq_map,Cp,EE,Jv];simp;omega
def ui{p:Y->Aw}{i n:Y}(h:i<n)(a:p i=Af):((BE n).filter p)[Aim ((BE i).filter p)]? =X i:=by
 rw[lU h,KY,Hl (Bq _),EP,List.filter_cons_of_pos a];rfl
def ut{α:Type}(f:Y->Ae α){b m k:Y}(h:b<m)(hk:k<Aim (f b)):((BE m).flatMap f)[Aim ((BE b).flatMap f)+k]? =(f b)[k]?:=by
 rw[lU h,Ia,Hl J,Ki,EY,FA hk]
def aK(L:By):∀b,Fx L b=Aim ((BE b).flatMap fun b=>(BE (Aim L)).filter fun i=>decide ((L.getD i 0).toNat=b))
 |0=>rfl
 |b+1=>by
  rw[Fx,aK L b,FV,Ia,BA,EY,RQ,List.append_nil];rfl
def VD{L:By}{i:Y}(h:i<Aim L):(Ee L)[IY L i]? =X i:=by
 unfold IY;rw[aK];have a:=ui (p:=fun j=>decide ((L.getD j 0).toNat=(L.getD i 0).toNat)) h Bl;have d:=(HF.1 a).1;have:=ut (fun b=>(BE (Aim L)).filter fun i=>decide ((L.getD i 0).toNat=b)) (m:=256) (L.getD i 0).toNat_lt d;exact this.trans a
def Acr(L:By):Fx L 256=Aim L:=by rw[aK];exact Th L
def nv(L:By)(b:Y):∀d,Fx L b<=Fx L (b+d)
 |0=>Bq _
 |d+1=>by
  have:=nv L b d;show _<=Fx L (b+d)+_;omega
def nu(L:By){b:Y}(h:b<=256):Fx L b<=Aim L:=by
 have:=nv L b (256-b);rwa[show b+(256-b)=256 by omega,Acr]at this
def lH{L:By}{i:Y}(h:i<Aim L):IY L i<Aim L:=by
 have:=(HF.1 (VD h)).1;rwa[Th]at this
def zg{L:By}{i j:Y}(hi:i<Aim L)(a:j<Aim L)(e:IY L i=IY L j):i=j:=by
 have d:=VD hi;rw[e,VD a]at d;grind
def Acs{L:By}{P:Bi}(hl:Aim P=Aim L)(h:∀i,i<Aim L->P.getD (IY L i) 0=i):P=Ee L:=by
 have f:=Th L;have a:(Ee L).Nodup:=(Ti L).nodup_iff.2 Nn;apply Ni J;intro p l j;have g:(Ee L)[p]<Aim L:=CQ.1 ((Ti L).subset (BM j));obtain⟨k,d⟩:=HF.1 (VD g);have e:=(Nl a).1 d;grind
end Bz
section
attribute [local irreducible] OW KW QW EX GW NV
open Bz
def ej(l:Bg):(BE (Aim l)).map (fun(j:Y)=>Value.int .u8 (((l.getD j 0).toNat:Y):H))=BI l:=by
 unfold BI;apply Ni Bl;grind
def EL(k:AI)(n:Y)(F:Y->Y):Bm:=(BE n).map fun b=>Value.int k (F b:H)
section
variable{k:AI}{n i x:Y}{F G:Y->Y}
def Gq:Aim (EL k n F)=n:=by simp[EL]
def MP(h:i<n):(EL k n F)[i]? =X (.int k (F i:H)):=by simp[EL,h]
def PE(h:i<n)(d:∀b,b<n->G b=if b=i then x else F b):(EL k n F).set i (.int k (x:H))=EL k n G:=by
 apply Ni (by simp[EL]);intro j e a;rw[Gq]at a;rw[RR];simp only[EL,Ou,List.getElem_range];grind
def Adg:BG n (Value.int k 0)=EL k n (fun _=>0):=by
 apply Ni (by simp[EL]);intro j d a;simp[EL]
def nG(h:∀b,b<n->F b=G b):EL k n F=EL k n G:=Ju fun b hb=>by grind
end
def Aat{o:Bi}{k:Y}(hnd:o.Nodup)(hk:k<Aim o){r:Y}(a:r=if 0∈o.take k then o.idxOf 0 else 0):(if o.getD k 0=0 then k else r)=if 0∈o.take (k+1)then o.idxOf 0 else 0:=by
 have e:o.getD k 0=o[k]:=CF hk;have d:o.take (k+1)=o.take k++[o[k]]:=(CR hk).symm;grind
def uy(s:Bg)(h0:s≠[])(hs:Aim s<=262144)(w:Ad):
 Bn prog 173 [Bj s] w fun v w'=>v=.tuple #[Bj (FG s (Gp s)),U ((Iz (Gp s):Y):H),U ((0:Y):H)]/\Bf w w':=by
 have hp:0<Aim s:=Kg.2 h0;refine Bw func173 Z ntmps173 (by rfl) Z ?_;refine(O 10∘Zv (by exact HD (r:=[]) Z Z)∘O 1∘Cd 10 (e:=h0)∘O 9)<|Zi (fun hb=>?_) fun hb=>?_
 .omega
 .refine(O 5∘Gf) ?_;rintro l w1 aj E L;refine(O 7∘Zc (yA s J w1)) ?_;rintro _ w2⟨m,g,o,rfl,a0,hg,a⟩;refine(O 4) ?_;have eo:=ly a;rw[eo];have q:=a.lng;have ai:=E.ext m;have x2:=L.trans m;have af:g≠l:=by have:=E.lt;omega
  have B:Aim (FG s o)=Aim s:=by unfold FG;rw[DQ,q]
  have P:o.Nodup:=a.perm.nodup_iff.2 Nn;have t:∀k,k<Aim s->o.getD k 0<Aim s:=fun k T=>by rw[CF J];exact CQ.1 (a.perm.subset (BM _))
  have A:∀k,k<Aim s->(FG s o).getD k 0=s.getD ((if o.getD k 0=0 then Aim s else o.getD k 0)-1) 0:=fun k T=>by
   unfold FG;simp_all
  refine Lo (fun((k,r,wr):Y×Y×Ad)=>(k<=Aim s/\r<=k/\(r=if 0∈o.take k then o.idxOf 0 else 0)/\Bk wr l 5 (fill (fun(j:Y)=>Value.int .u8 ((((FG s o).getD j 0).toNat:Y):H)) (.int .u8 0) (Aim s) k)/\Mo w2 wr [l],[(0,Bj (s)),(5,.slice (X ⟨l,0,Aa⟩) (Aim s) (Aim s)),(6,U r),(18,.slice (X ⟨g,0,Aa⟩) (Aim s) (Aim s)),(19,U ((Aim s:Y):H)),(20,U k)],wr,Aim s-k)) (0,0,w2) ?_ ?_
  .exact⟨BD _,Bq _,Bl,Cr,Mo.refl _ _⟩
  .rintro⟨k,r,wr⟩⟨T,al,hr,h,S⟩;have V:=hg.mo S Bh;refine(O 5)<|Zi (fun K=>?_) fun K=>?_
   .have hl:=t k K;have p:=Aat P J hr;have C:=A k K;refine(O 7∘Zv (Bo V (hi:=Fw J))∘O 5)<|Ld (fun((d,I):Y×Y)=>(d=(if o.getD k 0=0 then Aim s else o.getD k 0)/\I=(if o.getD k 0=0 then k else r),[(0,Bj (s)),(5,.slice (X ⟨l,0,Aa⟩) (Aim s) (Aim s)),(6,U I),(7,U k),(8,U d),(18,.slice (X ⟨g,0,Aa⟩) (Aim s) (Aim s)),(19,U ((Aim s:Y):H)),(20,U k)],wr)) ?_ ?_
    .refine(O 4)<|Zi (fun hz=>?_) fun hz=>?_
     .refine(O 10∘Lm (Aim s,k)) ?_;grind
     .refine(O 1∘Lm ((o.getD k 0),r)) ?_;grind
    .rintro⟨d,I⟩⟨e2,er⟩;rw[<-e2]at C;rw[<-er]at p;have ao:1<=d:=by rw[e2];split<;>omega
     have y:d-1<Aim s:=by rw[e2];split<;>omega
     have W:s.getD (d-1) 0=s[d-1]:=by rw[BX,BN y];rfl
     refine(O 6∘Zv (by exact EW underlying9 Z Z (BN (y)))∘O 1∘Zt h (hlt:=by rw[QI T];omega)) ?_;rintro w3 D Q;refine(O 6) ?_;rw[<-W,<-C,QJ (f:=fun(j:Y)=>Value.int .u8 ((((FG s o).getD j 0).toNat:Y):H)) K]at D;refine Lb ((k+1),I,w3) ?_;exact⟨J,by rw[er];split<;>omega,p,D,S.trans Q⟩
   .obtain rfl:k=Aim s:=J;rw[QH,<-B,ej]at h;have xr:Bf w wr:=Bv x2 S x2.size Bh;have N:=h.sl
    have ab:r=Iz o:=by
     rw[hr,Ai]
     .rfl
     .rw[<-q,DY];exact a.perm.mem_iff.2 (CQ.2 hp)
    refine(O 4∘Zv (DZ N (hl:=B))∘O 5∘CS) ?_;grind
def yZ(a g c:Y)(P:Bi)(p:Y)(d:p<Aim P)(e:Aim P<=1000000000)(w:Ad)(h1:Bk w a 51 [.slice (X ⟨g,0,Aa⟩) (Aim P) c])(h2:Bk w g 3 (BC .i64 P)):
 Bn prog 254 [U (p:H),.pointer (X ⟨a,0,Aa⟩)] w fun v w'=>v=U ((P.getD p 0:Y):H)/\w=w':=by
 refine Bw func254 Z ntmps254 (by rfl) Z ?_;refine(O 9∘Zv (Bo h2 (hi:=Fw d))∘O 2∘Bu) ?_;simp
def Ly(P:Bi):Y->Y->Y
 |p,0=>p
 |p,i+1=>Ly P (P.getD p 0) i
def YT(P:Bi):∀i p,Ly P p (i+1)=P.getD (Ly P p i) 0
 |0,p=>rfl
 |i+1,p=>by
  show Ly P (P.getD p 0) (i+1)=_;rw[YT P i];rfl
def dS(P:Bi)(L:Bg):∀t i p,i<t->(bk P L t p).getD i 0=L.getD (Ly P p (i+1)) 0
 |0,i,p,h=>by omega
 |t+1,0,p,h=>by rfl
 |t+1,i+1,p,h=>by
  rw[bk,List.getD_cons_succ,dS P L t i _ J];rfl
def Rw(pb p:Y):Bm:=[.func (.func 254) #[] #[.pointer (X ⟨pb,0,Aa⟩)],U (p:H)]
def Acy(wb e g c:Y)(P:Bi)(p:Y)(k:p<Aim P)(l:Aim P<=1000000000)(w:Ad)(h:Bk w wb 345 (Rw e p))(h1:Bk w e 51 [.slice (X ⟨g,0,Aa⟩) (Aim P) c])(h2:Bk w g 3 (BC .i64 P)):
 Bn prog 255 [.pointer (X ⟨wb,0,Aa⟩)] w fun v w'=>v=U ((P.getD p 0:Y):H)/\Bk w' wb 345 (Rw e (P.getD p 0))/\Mo w w' [wb]:=by
 refine Bw func255 Z ntmps255 Be Z ?_;refine Ek (KW.region ?_);refine OW.val Z Z (CI Z) ?_;refine OW.nil ?_;refine Ek ?_;refine Qb (N:=13) (fun w'=>∃u,Bk w' wb 345 (Rw e u)) Be Z ?_;have d:=show ∃u,Bk w.drew wb 345 (Rw e u)from⟨p,h.drew⟩;refine GW.val 0 Z Be Be Be Z Z d (fun w' a=>EX.move Z) ?_;refine GW.val 1 Z Be Be Be Z Z d (fun w' a=>EX.move Z) ?_;refine GW.val 2 Z Be Be Be Z Z d (fun w' a=>DV Z) ?_;refine GW.val 3 Z Be Be Be Z Z d (fun w' a=>Dn (off:=0) underlying345 Z Z nZ Z Z) ?_;refine GW.val 4 Z Be Be Be Z Z d (fun w' a=>Cg underlying196 Z Z (by obtain⟨u,j⟩:=a;exact j.cell_of Z)) ?_;refine GW.val 5 Z Be Be Be Z Z d (fun w' a=>EX.move Z) ?_;refine GW.val 6 Z Be Be Be Z Z d (fun w' a=>DV Z) ?_;refine GW.val 7 Z Be Be Be Z Z d (fun w' a=>Dn (off:=1) underlying345 Z Z BU Z Z) ?_;refine GW.new 8 Z Be Z Z (Cg underlying3 Z Z (h.drew.cell_of Z)) ⟨d,fun d=>?_⟩;refine GR 9 Z Be Z Z Z Z Z (yZ e g c P p k l w.drew h1.drew h2.drew) ?_;rintro _ _⟨rfl,rfl⟩;refine⟨d,fun d=>?_⟩;refine(Gv [10,11]∘Yt 12 h.drew (hlt:=by simp[Rw])) ?_;rintro m f i;refine⟨⟨_,f⟩,fun d=>?_⟩;refine(Yd∘O 8∘Bu) ?_;exact⟨Z,f,(Mo.Age (Bf.drew w) _).trans i⟩
def ra(l:Bg)(row:Y)(hl:Aim l<=262144)(hr:row<=1000000000)(w:Ad):
 Bn prog 208 [Bj l,U (row:H)] w fun v w'=>v=(if row<Aim l then .tuple #[Bj (back l row),U ((0:Y):H)]else .tuple #[Bj [],U ((50:Y):H)])/\Bf w w':=by
 refine Bw func208 Z ntmps208 Be Z ?_;refine(O 12)<|Zi (fun hb=>?_) fun hb=>?_
 .omega
 .refine(O 3)<|Lc (fun(d3:Aw)=>(d3=decide (Aim l<=row),[(0,Bj (l)),(1,U row),(26,.bool d3)],w)) ?_ ?_
  .refine(O 4)<|Zd 21 (fun c1=>?_) fun c1=>?_
   .omega
   .refine(O 6∘Lm (decide (row≥Aim l))) ?_;rfl
  .rintro d3 cb;subst cb;refine Zi (fun ca=>?_) fun ca=>?_
   .refine(O 5∘BH) ?_;rw[Ag J];exact⟨Z,Bf.refl _⟩
   .have d:row<Aim l:=J;rw[Ai d];have m:∀i (h:i<Aim l),l.getD i 0=l[i]:=fun i h=>by grind
    have bn:∀i,(l.getD i 0).toNat<256:=fun i=>(l.getD i 0).toNat_lt;refine(O 3∘Zn) ?_;rintro o w1 ck bh aj;refine(O 9) ?_;rw[Adg]at bh;refine Lo (fun((i,wr):Y×Ad)=>(i<=Aim l/\Bk wr o 343 (EL .i64 256 (FF l i))/\Mo w1 wr [o],[(0,Bj (l)),(1,U row),(6,.pointer (X ⟨o,0,Aa⟩)),(28,U ((Aim l:Y):H)),(29,U i)],wr,Aim l-i)) (0,w1) ?_ ?_
    .exact⟨BD _,bh,Mo.refl _ _⟩
    .rintro⟨i,wr⟩⟨hi,hf,hm⟩;refine(O 5)<|Zi (fun k=>?_) fun k=>?_
     .have h8:=bn i;have bi:=ff l (l.getD i 0).toNat i;rw[m i k]at h8 bi
      have hG:∀b,b<256->FF l (i+1) b=if b=l[i].toNat then FF l i l[i].toNat+1 else FF l i b:=fun b _=>by
       rw[XE,m i k];grind
      refine(O 11∘Zv (by exact EW underlying9 Z Z (BN (k)))∘O 1∘Zv (Bo hf (hi:=MP h8))∘O 2∘Zt hf (hlt:=by rw[Gq];omega)) ?_;rintro w3 bf b6;refine(O 6) ?_;rw[PE h8 hG]at bf;refine Lb ((i+1),w3) ?_;exact⟨J,bf,hm.trans b6⟩
     .obtain rfl:i=Aim l:=J;refine(O 8∘Zv (by exact Jl underlying343 Z oi Z (hf) (by rw[Gq]))∘O 3)<|Lo (fun((b,K):Y×Ad)=>(b<=256/\Bk K o 343 (EL .i64 256 fun c=>if c<b then Fx l c else FF l (Aim l) c)/\Mo w1 K [o],[(0,Bj (l)),(1,U row),(6,.pointer (X ⟨o,0,Aa⟩)),(8,U (((Fx l b):Y):H)),(40,.agg (EL .i64 256 (FF l (Aim l))).toArray),(41,U b)],K,256-b)) (0,wr) ?_ ?_
      .grind
      .rintro⟨b,K⟩⟨ce,a9,a0⟩;have cp:=nu l ce;refine(O 5)<|Zi (fun V=>?_) fun V=>?_
       .have co:=nu l (show b+1<=256 by omega);have e2:Fx l (b+1)=Fx l b+FF l (Aim l) b:=rfl
        have hG:∀c,c<256->(if c<b+1 then Fx l c else FF l (Aim l) c)=if c=b then Fx l b else if c<b then Fx l c else FF l (Aim l) c:=fun c _=>by
         grind
        refine(O 6∘Zv (by exact Ty underlying343 underlying3 Z BU Z Z J (by rw[MP V]))∘O 8∘Zt a9 (hlt:=by rw[Gq];omega)) ?_;rintro w4 bc b5;refine(O 12) ?_;rw[PE V hG]at bc;refine Lb ((b+1),w4) ?_;exact⟨J,bc,a0.trans b5⟩
       .obtain rfl:b=256:=J
        have E:Bk K o 343 (EL .i64 256 fun c=>Fx l c+FF l 0 c):=by
         rw[<-nG (F:=fun c=>if c<256 then Fx l c else FF l (Aim l) c) (fun c k=>by rw[Ai k];rfl)];exact a9
        refine(O 5∘Gf) ?_;rintro g w5 cj a6 Q;refine(Ml) ?_;rintro N w6 ch cd ai;refine(Zt cd) ?_;rintro w7 cc a2;refine(O 9) ?_;have xb:Bf w K:=Bv aj a0 aj.size Bx;have x6:=Q.trans ai;have x7:Bf K w7:=Bv x6 a2 x6.size (by have:=Q.size;simp;omega);have cx:g≠N:=by have:=a6.lt;omega
        have c0:=E.lt;have a5:=(a6.ext ai).mo a2 Bh;rw[show BG (Aim l) (Value.int .i64 0)=BC .i64 (BG (Aim l) 0)from(KB _ _ _).symm]at a5;have cn:=Q.size;refine Lo (fun((i,P,A):Y×(Bi)×Ad)=>(i<=Aim l/\Aim P=Aim l/\(∀j,j<i->P.getD (IY l j) 0=j)/\Bk A o 343 (EL .i64 256 fun c=>Fx l c+FF l i c)/\Bk A g 3 (BC .i64 P)/\Mo w7 A [o,g],[(0,Bj (l)),(1,U row),(6,.pointer (X ⟨o,0,Aa⟩)),(11,.pointer (X ⟨N,0,Aa⟩)),(56,U ((Aim l:Y):H)),(57,U i)],A,Aim l-i)) (0,(BG (Aim l) 0),w7) ?_ ?_
        .exact⟨BD _,Bl,fun j hj=>by omega,E.ext x7,a5,Mo.refl _ _⟩
        .rintro⟨i,P,A⟩⟨hi,bs,hP,a7,y,T⟩;have r:=cc.mo T Bx;refine(O 5)<|Zi (fun k=>?_) fun k=>?_
         .have cr:=lH k;have h8:=bn i
          have bq:(EL .i64 256 fun c=>Fx l c+FF l i c)[l[i].toNat]? =X (U ((IY l i:Y):H)):=by
           rw[<-m i k,MP h8];rfl
          have bi:Fx l l[i].toNat+FF l i l[i].toNat=IY l i:=by rw[<-m i k];rfl
          rw[m i k]at h8
          have hG:∀b,b<256->Fx l b+FF l (i+1) b=if b=l[i].toNat then IY l i+1 else Fx l b+FF l i b:=fun b _=>by
           rw[XE,m i k];grind
          refine(O 9) ?_;refine Kf 8 Be Be<|HW.val Z Z (Cg underlying51 Z Z (r.drew.cell_of Z))<|HW.val Z Z (EX.move Z)<|HW.val Z Z (EX.move Z)<|HW.val Z Z (EW underlying9 Z Z (BN (k)))<|HW.val Z Z (by first|exact LU underlying343 BU Z Z J|exact LV underlying343 BU Z Z J)<|HW.val Z Z (Cg underlying3 Z Z (a7.drew.cell_of bq))<|HW.val Z Z (EX.move Z)<|HW.val Z Z (by first|exact KQ underlying51 BU Z Z J|exact KS underlying51 BU Z Z J)<|HW.tail<|(Zt y.drew (hlt:=by rw[DF];omega)) ?_;rintro w8 a4 a1;refine(O 6) ?_;rw[Ir]at a4;have a8:o≠g:=J;have bb:=a7.drew.mo a1 (by simpa using a8);refine(Zv (Bo bb (hi:=bq))∘O 2∘Zt bb (hlt:=by rw[Gq];omega)) ?_;rintro w9 ba t;refine(O 6) ?_;rw[PE h8 hG]at ba;refine Lb ((i+1),(P.set (IY l i) i),w9) ?_;refine⟨J,Bh,fun j hj=>?_,ba,a4.mo t Bh,((T.trans (Mo.Age (Bf.drew A) _)).trans (a1.mono Bl)).trans (t.mono Bl)⟩;have cw:=lH (L:=l) (i:=j) J;rw[CF Bh,RR];by_cases e:IY l i=IY l j
          .rw[Ai e];exact zg k J e
          .grind
         .obtain rfl:i=Aim l:=J;have eP:=Acs bs hP;subst eP;have a8:o≠g:=J;have xi:Bf w A:=Bv (xb.trans x7) T (xb.trans x7).size Bh;refine(O 3∘Zv (by exact Gc Z Z)∘O 2∘Zn) ?_;rintro I w8 cg bm af;refine(Zs bm) ?_;rintro w9 bl t;refine(O 5) ?_;have x9:Bf A w9:=Bv af t af.size Bx;refine(Gf) ?_;rintro ob p b9 cl n;refine(O 10) ?_;have b4:=r.ext (x9.trans n);have b8:=y.ext (x9.trans n);have b0:=bl.ext n;have ct:I≠N:=by have:=r.lt;omega
          have cv:I≠g:=by have:=y.lt;omega
          have cs:=bl.lt;have cu:I≠ob:=J;have cq:N≠ob:=by have:=(r.ext x9).lt;omega
          have cz:g≠ob:=by have:=(y.ext x9).lt;omega
          have ab:Bf w p:=xi.trans (x9.trans n);have cf:=xi.size;have b2:=x9.size
          have a3:∀i,Ly (Ee l) row i<Aim l:=fun i=>by
           induction i with
           |zero=>exact d
           |succ i ih=>rw[YT];exact nw ih
          have al:Bk p N 51 [.slice (X ⟨g,0,Aa⟩) (Aim (Ee l)) (Aim l)]:=by rw[bs];exact b4
          refine Lo (fun((i,a):Y×Ad)=>(i<=Aim l/\Bk a I 345 (Rw N (Ly (Ee l) row i))/\Bk a ob 5 (fill (fun(j:Y)=>Value.int .u8 ((((back l row).getD j 0).toNat:Y):H)) (.int .u8 0) (Aim l) i)/\Mo p a [I,ob],[(0,Bj (l)),(13,.pointer (X ⟨I,0,Aa⟩)),(14,.slice (X ⟨ob,0,Aa⟩) (Aim l) (Aim l)),(83,U ((Aim l:Y):H)),(84,U i)],a,Aim l-i)) (0,p) ?_ ?_
          .exact⟨BD _,b0,Cr,Mo.refl _ _⟩
          .rintro⟨i,a⟩⟨b7,b1,S,x⟩;refine(O 5)<|Zi (fun W=>?_) fun W=>?_
           .have h1:=a3 i;have h2:=a3 (i+1);have e1:=YT (Ee l) i row;have e2:(back l row).getD i 0=l.getD (Ly (Ee l) row (i+1)) 0:=dS (Ee l) l (Aim l) i row W;rw[e1]at h2 e2;generalize hq:(Ee l).getD (Ly (Ee l) row i) 0=q at h2 e1 e2;refine(O 12∘Zc (Acy I N g (Aim l) (Ee l) (Ly (Ee l) row i) J J a b1 (al.mo x Bx) (b8.mo x Bx))) ?_;rintro _ cm⟨rfl,B,D⟩;rw[hq]at B ⊢;refine(Zv (by exact EW underlying9 Z Z (BN (h2)))∘O 1) ?_;have ao:=S.mo D Bx;refine(Zt ao (hlt:=by rw[QI b7];omega)) ?_;rintro bx G C;refine(O 6) ?_;rw[<-m q h2,<-e2,QJ (f:=fun(j:Y)=>Value.int .u8 ((((back l row).getD j 0).toNat:Y):H)) W]at G;refine Lb ((i+1),bx) ?_;dsimp only;rw[e1];exact⟨J,B.mo C Bx,G,(x.trans (D.mono Bl)).trans (C.mono Bl)⟩
           .obtain rfl:i=Aim l:=J;have bj:Aim (back l row)=Aim l:=Xl _ _ _ _;rw[QH,<-bj,ej]at S;have b3:=S.sl;have xe:Bf w a:=Bv ab x ab.size Bx;refine(O 4∘Zv (DZ b3 (hl:=bj))∘O 3∘BH) ?_;grind
def KC{k:AI}(l:Bi)(x:Y):BC k l++[.int k (x:H)]=BC k (l++[x]):=by rw[UQ];rfl
def vD(k:AI)(l:Bi)(n:Y):BC k l++BG n (.int k 0)=BC k (l++BG n 0):=by
 rw[UQ,KB];rfl
def CV(w:Ad)(B:Y)(v:Ah)(l:Bi):Prop:=Bp w B 3 1 v (Aim l) (BC .i64 l)
def CV.ext{w w':Ad}{B:Y}{v:Ah}{l:Bi}(h:CV w B v l)(hx:Bf w w'):CV w' B v l:=Bp.ext h hx
def CV.sl{w:Ad}{B:Y}{v:Ah}{l:Bi}(h:CV w B v l):∃A c,v=.slice A (Aim l) c/\Aim l<=c/\Sl w w.heap.size A (BC .i64 l):=Bp.slice h
def CV.nil(w:Ad)(B:Y):CV w B (.slice Aa 0 0) []:=Bp.nil w B _ _
def Afw(k:Y)(hk:k<=1000000000)(w:Ad):
 Bn prog 229 [U (k:H)] w fun v w'=>CV w' w.heap.size v (DM k)/\Bf w w':=by
 refine Bw func229 Z ntmps229 (by rfl) Z ?_;refine(O 10)<|Lo (fun((j,o,e,wr):Y×(Bi)×Ah×Ad)=>(j<=k/\Aim o+j<=k/\o++DM j=DM k/\Bp wr w.heap.size 3 1 e (Aim o) (BC .i64 o)/\Bf w wr,[(0,U j),(3,e)],wr,j)) (k,([]),(.slice Aa 0 0),w) ?_ ?_
 .exact⟨Bq _,Bl,Z,Bp.nil _ _ _ _,Bf.refl _⟩
 .rintro⟨j,o,e,wr⟩⟨r,q,f,a,g⟩;refine(O 6)<|Zi (fun h=>?_) fun h=>?_
  .rw[UB h]at f;refine(O 12∘Zv (by exact Nb (b:=1) (j:=1) (p:=2) (m:=9223372036854775807) Z Z Bc Bc Z J)∘GZ g a) ?_;rintro _ l i d n _ _;refine(O 4) ?_;refine OW.val Z Z (by first|exact IG (s:=1) (p:=2) Z Z Bc Bc|exact EX.shrZ (s:=1) (p:=2) Z Z Bc Bc)<|(O 3)<|Lb (((j-1)/2),(o++[(j-1)%2]),l,i) ?_;rw[KC]at d;grind
  .obtain rfl:j=0:=J;rw[OS,List.append_nil]at f;subst f;refine(O 6∘Bu) ?_;exact⟨a,g⟩
def oY{n:Y}{l:Bi}{j r:Y}(h:j<Aim l):Fp n r (l.drop j)=if l[j]=0 then Fp n (r+1) (l.drop (j+1))else DM r++(l[j]+1)::Fp n 0 (l.drop (j+1)):=by
 rw[Ds h];generalize l[j]=x;cases x with
 |zero=>rfl
 |succ x=>rfl
def Sl.intAt{w:Ad}{B:Y}{A:Av AC}{l:Bi}(h:Sl w B A (BC .i64 l))(h0:0<Aim l):∃b o,A=X ⟨b,o,Aa⟩/\b<B/\∀W,Bf w W->∀j (hj:j<Aim l),W.cell? ⟨b,o+j,Aa⟩=X (U (l[j]:Y)):=by
 obtain⟨b,o,rfl,d,a⟩:=h.at2 (by rw[DF];omega);exact⟨b,o,Z,d,fun W e j hj=>a W e j _ (by rw[Fw hj,CF hj])⟩
def Afy(n:Y)(hn:1<=n/\n<=256)(l:Bi)(hl:Aim l<=1000000)(hp:∀p∈l,p<n)(A:Av AC)(c C:Y)(w:Ad)(hs:Sl w C A (BC .i64 l)):
 Bn prog 176 [U (n:H),.slice A (Aim l) c] w fun v w'=>(∃u,v=.tuple #[u,U ((0:Y):H)]/\CV w' w.heap.size u (Fp n 0 l))/\Bf w w':=by
 obtain⟨ai,af⟩:=hn;refine Bw func176 Z ntmps176 (by rfl) Z ?_;refine(O 11)<|Zd 11 (fun c1=>?_) fun c1=>?_
 .omega
 .refine(O 4)<|Zi (fun c2=>?_) fun c2=>?_
  .omega
  .refine(O 11)<|Lo (fun((i,o,t,wr):Y×(Bi)×Ah×Ad)=>(i<=Aim l/\Aim o<=2*i/\o++Fp n 0 (l.drop i)=Fp n 0 l/\Bp wr w.heap.size 3 1 t (Aim o) (BC .i64 o)/\Bf w wr,[(0,U n),(1,.slice A (Aim l) c),(6,t),(7,U i)],wr,Aim l-i)) (0,([]),(.slice Aa 0 0),w) ?_ ?_
   .exact⟨BD _,BD _,Z,Bp.nil _ _ _ _,Bf.refl _⟩
   .rintro⟨i,o,t,wr⟩⟨hi,ab,he,m,N⟩;refine(O 8)<|Zi (fun hc=>?_) fun hc=>?_
    .obtain⟨b,f,rfl,_,k⟩:=hs.intAt J;refine(O 10)<|Lc (fun((j,r):Y×Y)=>(i<=j/\j<=Aim l/\r+i=j/\o++Fp n r (l.drop j)=Fp n 0 l/\(j<Aim l->l.getD j 0≠0),[(0,U n),(1,.slice (X ⟨b,f,Aa⟩) (Aim l) c),(6,t),(7,U j),(8,U r)],wr)) ?_ ?_
     .refine(O 1)<|Lo (fun((j,r):Y×Y)=>(i<=j/\j<=Aim l/\r+i=j/\o++Fp n r (l.drop j)=Fp n 0 l,[(0,U n),(1,.slice (X ⟨b,f,Aa⟩) (Aim l) c),(6,t),(7,U j),(8,U r)],wr,Aim l-j)) (i,0) ?_ ?_
      .grind
      .rintro⟨j,r⟩⟨W,V,T,K⟩;refine(O 8)<|Zi (fun G=>?_) fun G=>?_
       .refine(O 8∘Zv (BZ (k wr N j G))∘O 2)<|Zi (fun P=>?_) fun P=>?_
        .refine(O 1∘Lm (j,r)) ?_;grind
        .rw[oY G,Ai (Dm.1 P)]at K;refine(O 13)<|Lb ((j+1),(r+1)) ?_;grind
       .refine(O 1∘Lm (j,r)) ?_;grind
     .rintro⟨j,r⟩⟨W,V,T,K,S⟩;have al:=XR r r (Bq _);refine(O 4∘Zc (Afw r J wr)) ?_;rintro _ w2⟨y,B⟩;obtain⟨A2,ao,rfl,_,D⟩:=y.sl;refine Ie Z Z underlying51 BU Z Bc Z Z (N.trans B) (m.ext B) (Src.Agh underlying51 D (by rw[DF,Ic]) Lx Bc) CE J ?_;rintro Q I e g _ _;refine(O 10) ?_;rw[<-UQ]at e;refine Zi (fun G=>?_) fun G=>?_
      .obtain rfl:j=Aim l:=J;rw[IK,Fp]at K;refine(O 6∘GZ g e) ?_;rintro _ x L a h _ _;refine(O 3∘BH) ?_;rw[KC]at a;refine⟨⟨x,Z,?_⟩,h⟩;unfold CV;grind
      .have d:j<Aim l:=J;have E:=S d;rw[CF d]at E;rw[oY d,Ag E]at K;have aj:=hp _ (BM d);refine(O 3)<|Lc (fun(q:Aw)=>(q=Aj,[(0,U n),(1,.slice (X ⟨b,f,Aa⟩) (Aim l) c),(6,Q),(7,U j),(52,.bool q)],I)) ?_ ?_
       .refine(O 4∘Zv (BZ (k I g j d))∘O 2)<|Zd 45 (fun d1=>?_) fun d1=>?_
        .omega
        .refine(O 3∘Zv (BZ (k I g j d))∘O 4∘Lm (decide (l[j]≥n))) ?_;grind
       .rintro q rfl;refine(O 8∘Zv (BZ (k I g j d))∘O 1∘GZ g e) ?_;rintro _ x L a h _ _;refine(O 8)<|Lb ((j+1),((o++DM r)++[l[j]+1]),x,L) ?_;rw[KC]at a;grind
    .obtain rfl:i=Aim l:=J;rw[IK,Fp,OS,Ev]at he;refine(O 6∘GZ N m) ?_;rintro _ x L a h _ _;refine(O 3∘BH) ?_;rw[KC]at a;refine⟨⟨x,Z,?_⟩,h⟩;unfold CV;grind
def ri(n s:Y)(g:n<=256)(f:s<=1000000000)(w:Ad):Bn prog 253 [U (n:H),U (s:H)] w fun v w'=>(∃e:Y,1<=e/\e<=400/\v=U (e:H))/\w=w':=by
 refine Bw func253 Z ntmps253 (by rfl) Z ?_;refine(O 10)<|Zd 7 (fun d=>?_) fun d=>?_
 .omega
 .refine(O 6)<|Zi (fun a=>?_) fun a=>?_
  .refine(O 4∘Bu) ?_;exact⟨⟨60,Bc,Bc,Z⟩,Z⟩
  .refine(O 5∘Bu) ?_;exact⟨⟨70,Bc,Bc,Z⟩,Z⟩
def GQ(e:Y):Prop:=1<=e/\e<=400
def Afu(n most:Y)(hn:1<=n/\n<=256)(hm:most<=262144)(l:Bi)(hl:Aim l<=1000000000)(V:∀p∈l,p<=1000000000)(A:Av AC)(c C:Y)(w:Ad)(hs:Sl w C A (BC .i64 l)):
 Bn prog 206 [U (n:H),U (most:H),.slice A (Aim l) c] w fun v w'=>((∃u p,Fo n most [] 0 1 l=X p/\Aim p<=most/\v=.tuple #[u,U ((0:Y):H)]/\CV w' w.heap.size u p)∨(Fo n most [] 0 1 l=Aa/\∃e:Y,GQ e/\v=.tuple #[.slice Aa 0 0,U (e:H)]))/\Bf w w':=by
 obtain⟨ao,L⟩:=hn;refine Bw func206 Z ntmps206 (by rfl) Z ?_;refine(O 7)<|Lc (fun(S:Aw)=>(S=Aj,[(0,U n),(1,U most),(2,.slice A (Aim l) c),(26,.bool S)],w)) ?_ ?_
 .refine(O 4)<|Zd 15 (fun G=>?_) fun G=>?_
  .omega
  .refine(O 4)<|Zd 19 (fun c2=>?_) fun c2=>?_
   .omega
   .refine(O 4)<|Zd 23 (fun c3=>?_) fun c3=>?_
    .omega
    .refine(O 4∘Lm (decide (262144<most))) ?_;grind
 .rintro S rfl;refine(O 19)<|Lo (fun((i,r,wt,o,x,wr):Y×Y×Y×(Bi)×Ah×Ad)=>(i<=Aim l/\Aim o+r<=most/\1<=wt/\wt<=2*most+1/\Fo n most o r wt (l.drop i)=Fo n most [] 0 1 l/\Bp wr w.heap.size 3 1 x (Aim o) (BC .i64 o)/\Bf w wr,[(0,U n),(1,U most),(2,.slice A (Aim l) c),(8,x),(9,U r),(10,U wt),(27,.slice A (Aim l) c),(28,U ((Aim l:Y):H)),(29,U i)],wr,Aim l-i)) (0,0,1,([]),(.slice Aa 0 0),w) ?_ ?_
  .exact⟨BD _,BD _,Bq _,J,Z,Bp.nil _ _ _ _,Bf.refl _⟩
  .rintro⟨i,r,wt,o,x,wr⟩⟨hi,al,ai,af,a,h,B⟩;refine(O 5)<|Zi (fun I=>?_) fun I=>?_
   .obtain⟨b,f,rfl,_,E⟩:=hs.intAt J;rw[Ds I,Fo]at a;have K:=V _ (BM I);have j:=E wr B i I;generalize aj:l[i]=s at a K j;refine(O 7∘Zv (BZ j)∘O 5)<|Lc (fun(Q:Aw)=>(Q=decide (n+1<s),[(0,U n),(1,U most),(2,.slice (X ⟨b,f,Aa⟩) (Aim l) c),(8,x),(9,U r),(10,U wt),(11,U i),(12,U s),(27,.slice (X ⟨b,f,Aa⟩) (Aim l) c),(28,U ((Aim l:Y):H)),(29,U i),(41,.bool Q)],wr)) ?_ ?_
    .refine(O 4)<|Zd 36 (fun G=>?_) fun G=>?_
     .omega
     .refine(O 6∘Lm (decide (s>n+1))) ?_;rfl
    .rintro Q rfl;refine Zi (fun P=>?_) fun P=>?_
     .rw[Ai P]at a;refine(O 5∘BH) ?_;exact⟨.inr ⟨a.symm,60,⟨Bc,Bc⟩,Z⟩,B⟩
     .rw[Ag P]at a;refine(O 7)<|Zi (fun N=>?_) fun N=>?_
      .rw[Ai N]at a;have a1:(s+1)*wt<=2*wt:=OF _ J;have a0:wt<=(s+1)*wt:=Nat.le_mul_of_pos_left _ J;refine(O 2)<|Lc (fun(t:Aw)=>(t=decide (most<wt∨most<Aim o+r+(s+1)*wt),[(0,U n),(1,U most),(2,.slice (X ⟨b,f,Aa⟩) (Aim l) c),(8,x),(9,U r),(10,U wt),(11,U i),(12,U s),(27,.slice (X ⟨b,f,Aa⟩) (Aim l) c),(28,U ((Aim l:Y):H)),(29,U i),(59,.bool t)],wr)) ?_ ?_
       .obtain⟨A0,c0,rfl,_,_⟩:=h.slice;refine(O 5)<|Zd 47 (fun G=>?_) fun G=>?_
        .refine(O 13∘Lm Af) ?_;grind
        .refine(O 13∘Lm (decide (r+(s+1)*wt>most-Aim o))) ?_;grind
       .rintro t rfl;refine Zi (fun m=>?_) fun m=>?_
        .rw[Ai m]at a;refine(O 5∘BH) ?_;exact⟨.inr ⟨a.symm,3,⟨Bc,Bc⟩,Z⟩,B⟩
        .rw[Ag m]at a;refine(O 22)<|Lb ((i+1),(r+(s+1)*wt),(wt*2),o,x,wr) ?_;grind
      .rw[Ag N]at a;refine(O 5) ?_;refine qt Z Z underlying51 underlying3 BU Z Z Z (B) (h) CE J ?_;rintro v2 T d g;refine(O 15) ?_;rw[vD]at d;refine Zi (fun m=>?_) fun m=>?_
       .rw[Ai m]at a;refine(O 9)<|Zi (fun k=>?_) fun k=>?_
        .rw[Ag (fun q=>by simp_all;omega)]at a;have D:=V _ (BM k);refine(O 7∘Zv (BZ (E T g (i+1) k))∘Zc (ri n l[i+1] L D T)) ?_;rintro _ _⟨⟨e,e1,e2,rfl⟩,rfl⟩;refine(O 3∘BH) ?_;exact⟨.inr ⟨a.symm,e,⟨e1,e2⟩,Z⟩,g⟩
        .rw[Ai (KX J)]at a;refine(O 7∘BH) ?_;refine⟨.inl ⟨v2,_,a.symm,Bh,Z,?_⟩,g⟩;unfold CV;grind
       .obtain⟨A0,c0,rfl,_,_⟩:=d.slice;rw[Ag m,BA,Cm]at a;refine(O 9)<|Zi (fun k=>?_) fun k=>?_
        .rw[Ai k]at a;refine(O 5∘BH) ?_;exact⟨.inr ⟨a.symm,3,⟨Bc,Bc⟩,Z⟩,g⟩
        .rw[Ag k]at a;refine(O 5∘GZ g d) ?_;rintro _ v3 W y ab _ _;refine(O 7)<|Lb ((i+1),0,1,((o++BG r 0)++[s-1]),v3,W) ?_;rw[KC]at y;grind
   .obtain rfl:i=Aim l:=J;rw[IK,Fo]at a;refine(O 6∘BH) ?_;exact⟨.inr ⟨a.symm,70,⟨Bc,Bc⟩,Z⟩,B⟩
def MQ(n:Y)(F:Y->Ah):Bm:=(BE n).map F
section
variable{n i:Y}{F G:Y->Ah}{x:Ah}
def Adi:Aim (MQ n F)=n:=by simp[MQ]
def Adh(h:i<n):(MQ n F)[i]? =X (F i):=by simp[MQ,h]
def Adj(h:i<n)(d:∀b,b<n->G b=if b=i then x else F b):(MQ n F).set i x=MQ n G:=by
 apply Ni (by simp[MQ]);intro j e a;rw[Adi]at a;rw[RR];simp only[MQ,Ou,List.getElem_range];grind
end
def PJ(s:Bg)(b:Y):Bg:=((BE b).filter fun c=>decide (BS c∈s)).map BS
def oI(s:Bg)(b:Y):PJ s (b+1)=if BS b∈s then PJ s b++[BS b]else PJ s b:=by
 unfold PJ;rw[FV,KY,DX];grind
def oH(s:Bg):∀b,Aim (PJ s b)<=b
 |0=>Bq _
 |b+1=>by
  have:=oH s b;rw[oI];grind
def of_s(s:Bg)(hs:Aim s<=1000000)(w:Ad):Bn prog 174 [Bj s] w fun v w'=>v=Bj (used s)/\Bf w w':=by
 refine Bw func174 Z ntmps174 (by rfl) Z ?_;refine(O 6∘Zn) ?_;rintro p P S af j;refine(O 9)<|Lo (fun((i,wr):Y×Ad)=>(i<=Aim s/\Bk wr p 321 (MQ 256 fun b=>.bool (decide (BS b∈s.take i)))/\Mo P wr [p],[(0,Bj (s)),(3,.pointer (X ⟨p,0,Aa⟩)),(8,U ((Aim s:Y):H)),(9,U i)],wr,Aim s-i)) (0,P) ?_ ?_
 .refine⟨BD _,?_,Mo.refl _ _⟩;assumption
 .rintro⟨i,wr⟩⟨hi,D,Q⟩;refine(O 5)<|Zi (fun g=>?_) fun g=>?_
  .have h8:=(s[i]).toNat_lt
   have hG:∀b,b<256->Value.bool (decide (BS b∈s.take (i+1)))=if b=s[i].toNat then .bool Af else .bool (decide (BS b∈s.take i)):=fun b T=>by
    rw[<-CR g];by_cases e:b=s[i].toNat
    .have e8:BS s[i].toNat=s[i]:=Bl;grind
    .have:BS b≠s[i]:=fun q=>e (by rw[<-q,Bz.toNat_ofNat T]);grind
   refine(O 11∘Zv (by exact EW underlying9 Z Z (BN (g)))∘O 1∘Zt D (hlt:=by assumption)) ?_;rintro y k I;refine(O 6) ?_;rw[Adj h8 hG]at k;refine Lb ((i+1),y) ?_;exact⟨J,k,Q.trans I⟩
  .obtain rfl:i=Aim s:=J;rw[DY]at D;have V:Bf w wr:=Bv j Q j.size Bh;refine(O 3) ?_;refine Li 0 Z Z underlying23 CD Z Z Z Z (by rfl) Bc ?_;rintro ob y m N C;refine(O 8)<|Lo (fun((b,o,h):Y×Ah×Ad)=>(b<=256/\Bp h wr.heap.size 5 1 o (Aim (PJ s b)) (BI (PJ s b))/\Bf wr h,[(3,.pointer (X ⟨p,0,Aa⟩)),(5,o),(18,U b)],h,256-b)) (0,(.slice (X ⟨ob,0,Aa⟩) 0 0),y) ?_ ?_
   .exact⟨BD _,Bp.Agf (l:=[]) N m Z Bc,C⟩
   .rintro⟨b,o,h⟩⟨T,a,r⟩;have ab:=oH s b;refine(O 5)<|Zi (fun g=>?_) fun g=>?_
    .have t:=oI s b;have K:=Bz.toNat_ofNat g;have L:((b:Y):H)=((BS b).toNat:H):=Ar Mf K.symm;refine(O 12∘Zv (Bo (D.ext r) (hi:=Adh g))∘O 1)<|Zi (fun f=>?_) fun f=>?_
     .rw[Ai f]at t;refine(O 4∘GZ r a) ?_;rintro _ v3 W d B _ _;refine(O 7)<|Lb ((b+1),v3,W) ?_;rw[L,<-Qv]at d;dsimp only;rw[t,BA];exact⟨J,d,B⟩
     .rw[Ag f]at t;refine(O 6)<|Lb ((b+1),o,h) ?_;dsimp only;rw[t];exact⟨J,a,r⟩
    .obtain rfl:b=256:=J;obtain⟨A,c,rfl,_,E⟩:=a.slice;refine(O 4∘Zv (DZ E)∘O 2∘Bu) ?_;exact⟨Z,V.trans r⟩
def Aab{u:Bg}{i:Y}(h1:1<=i)(hi:i<Aim u)(h:(u.take i).Pairwise fun a b=>a.toNat<b.toNat)(hlt:u[i-1].toNat<u[i].toNat):(u.take (i+1)).Pairwise fun a b=>a.toNat<b.toNat:=by
 rw[<-CR hi,Mb];refine⟨h,List.pairwise_singleton _ _,fun a f b e=>?_⟩;rw[CG.1 e];obtain⟨j,d,rfl⟩:=Hm.1 f;rw[BY]at d;rw[List.getElem_take];rcases Db j (i-1)with q|q
 .have:=Ib.1 h j (i-1) (by rw[BY];omega) (by rw[BY];omega) q;grind
 .grind
def aF(u:Bg)(m:Aim u<=1000000)(w:Ad):Bn prog 227 [Bj u] w fun v w'=>(∃d,v=.bool d/\(d=Af↔Pk u))/\Bf w w':=by
 refine Bw func227 Z ntmps227 Be Z ?_;refine(O 10)<|Lo (fun((i,wr):Y×Ad)=>(1<=i/\(i<=Aim u∨i=1)/\(u.take i).Pairwise (fun a b=>a.toNat<b.toNat)/\Bf w wr,[(0,Bj (u)),(3,U i)],wr,Aim u-i)) (1,w) ?_ ?_
 .refine⟨Bq _,.inr Z,?_,Bf.refl _⟩;cases u with
  |nil=>simp
  |cons a r=>simp
 .rintro⟨i,wr⟩⟨k,o,j,g⟩;refine(O 8)<|Zi (fun f=>?_) fun f=>?_
  .have e:i-1<Aim u:=J;refine(O 7∘Zq (by exact fun _=>EW underlying9 Z Z (BN (f)))∘O 3∘Zq (by exact fun _=>EW underlying9 Z Z (BN (e)))∘O 1∘QW.nil) fun l=>Zi (fun h=>?_) fun h=>?_
   .refine(O 4∘Bu) ?_;refine⟨⟨Aj,Z,fun q=>Bh,fun q=>?_⟩,g.trans (Bf.drewN _ _)⟩;have:=Ib.1 q.2 (i-1) i e f J;omega
   .refine(O 7)<|Lb ((i+1),_) ?_;exact⟨J,J,Aab k f j J,g.trans (Bf.drewN _ _)⟩
  .rw[DA J]at j;refine(O 4∘Zv (by exact Nc (r:=[]) Z Z)∘O 2∘Bu) ?_;refine⟨⟨_,Z,?_⟩,g⟩;rw[decide_eq_true_eq];exact⟨fun q=>⟨q,j⟩,fun q=>q.1⟩
def Bk.push{w w':Ad}{b:Y}{T:Ay}{l:Bm}{v:Ah}(h:Bk w b T l)(hg:w.grownBy w' v.ownBlock)(hne:∀k,v.ownBlock=X k->b≠k):Bk w' b T l:=
 h.mo (Mo.grown hg (S:=v.ownBlock.toList) (fun k e=>by grind)) (fun q=>by
  grind)
def rK{l:Bg}{rest:Bm}{k:Y}(h:k<Aim l):(BI l++rest)[k]? =X (.int .u8 (((l.getD k 0).toNat:Y):H)):=by
 rw[FA (by rw[EF];omega)];unfold BI;grind
def rL{l:Bg}{k:Y}(h:k<Aim l)(rest:Bm):Value.int .u8 ((l[k].toNat:Y):H)::(BI l++rest).eraseIdx k=BI (Ey l k)++rest:=by
 rw[List.eraseIdx_append_of_lt_length (by rw[EF];omega)];unfold Ey BI;rw[Cp,BX,BN h,Wv,Wv,DX,TP,WC];rfl
def kG(l:Bg)(rest:Bm)(k g cap:Y)(hk:k<Aim l)(y:Aim l<=cap)(p:Aim l+Aim rest=cap)(E:Aim l<=1000000000)(w:Ad)(h:Bk w g 5 (BI l++rest)):
 Bn prog 228 [.slice (X ⟨g,0,Aa⟩) (Aim l) cap,U (k:H)] w fun v w'=>v=.int .u8 ((l[k].toNat:Y):H)/\Bk w' g 5 (BI (Ey l k)++rest)/\Mo w w' [g]:=by
 have j:(BI l++rest)[k]? =X (.int .u8 ((l[k].toNat:Y):H)):=by
  rw[FA (by rw[EF];omega)];unfold BI;rw[DP,BN hk];rfl
 have I:Aim (BI l++rest)=cap:=by rw[BA,EF,p]
 have A:Aim ((BI l++rest).take k)=k:=by rw[BY];omega
 have e:=kI (cap:=cap) j Z (fun q=>by omega);rw[rL hk]at e
 have d:∀u∈(BI l++rest).take k,u.oneCell'=Af:=fun u t=>by
  rw[WK (by rw[EF];omega)]at t;exact Uo u (HH t)
 refine Bw func228 Z ntmps228 Be Z ?_;refine(O 9∘Zv (Bo h (hi:=j))∘O 3∘Yr 8 (fun w'=>True) AB) fun B=>(Gv [0,1,2]∘Yw 3 (he:=by exact fun _ _=>cG underlying23 CD Z (i:=1) Z Z ⟨J,J,y⟩)∘Gv [4,5]∘Yw 6 (he:=by exact fun _ _=>Wg underlying23 CD Z Z ⟨J,y⟩)) ?_;have a:=h.drew.Agv 0 k;rw[Nh]at a;refine Wl 7 _ Z Be Z Z underlying23 underlying23 CD Z Z (a) J (d) (h.drew) Bh ?_;rintro D r o;refine⟨AB,fun B=>?_⟩;refine(Yd∘O 5∘Zt r (hlt:=by grind)) ?_;rintro C f m;refine(O 6∘Bu) ?_;rw[e]at f;exact⟨Z,f,((Mo.Age (Bf.drew w) _).trans o).trans m⟩
def ve{l:Bg}{b:AH}{k:Y}(hk:k<Aim l)(a:l[k]=b)(d:∀j (hj:j<k),l[j]'J≠b):l.idxOf b=k:=by
 have e:l=l.take k++b::l.drop (k+1):=by rw[<-a,List.getElem_cons_drop,Ho]
 grind
def uA{L s:Bg}{i:Y}{ps:Bi}(hi:i<Aim s)(h:front L (s.drop i)=X ps):s[i]∈L/\∃ps',ps=L.idxOf s[i]::ps'/\front (Ey L (L.idxOf s[i])) (s.drop (i+1))=X ps':=by
 rw[Ds hi,front]at h;split at h
 .rename_i a;obtain⟨q,d,rfl⟩:=Nq.1 h;grind
 .grind
def uB(s u:Bg)(ps:Bi)(hs:Aim s<=1000000)(hu:Aim u<=256)(Q:Pk u)(hf:front u s=X ps)(w:Ad):
 Bn prog 175 [Bj s,Bj u] w fun v w'=>(∃x,v=.tuple #[x,U ((0:Y):H)]/\CV w' w.heap.size x ps)/\Bf w w':=by
 refine Bw func175 Z ntmps175 Be Z ?_;refine(O 9∘Zc (aF u J w)) ?_;rintro _ p⟨⟨d,rfl,hd⟩,K⟩;obtain rfl:=hd.2 Q;refine(O 2∘Cw 12 (.bool Aj)∘O 5) ?_;refine OW.bytesOf Z Z underlying9 underlying23 underlying5 Z J ?_;rintro l rs w2 ao a7 a3 a4 I;refine(O 6) ?_;refine WU (len:=0) Z Z underlying51 BU Z Z Z J J CE ?_;rintro v3 w3 D E;refine(O 10) ?_;have V:=I.size;refine Lo (fun((i,L,o,qs,A,wr):Y×(Bg)×(Bi)×(Bi)×Ah×Ad)=>(i<=Aim s/\Aim L=Aim u/\front L (s.drop i)=X qs/\o++qs=ps/\Aim o=i/\Bp wr p.heap.size 3 1 A (Aim o) (BC .i64 o)/\Bk wr p.heap.size 5 (BI L++rs)/\Bf p wr,[(0,Bj (s)),(6,.slice (X ⟨p.heap.size,0,Aa⟩) (Aim u) l),(7,A),(19,U ((Aim s:Y):H)),(20,U i)],wr,Aim s-i)) (0,u,([]),ps,v3,w3) ?_ ?_
 .exact⟨BD _,Z,hf,Z,Z,D.more V,ao.ext E,I.trans E⟩
 .rintro⟨i,L,o,qs,A,wr⟩⟨hi,a0,g,t,a2,f,h,hx⟩;refine(O 5)<|Zi (fun hc=>?_) fun hc=>?_
  .obtain⟨a1,ab,rfl,r⟩:=uA hc g;refine(O 13)<|Lc (fun((k,m):Y×Ad)=>(k<Aim u/\L.getD k 0=s[i]/\(∀j,j<k->L.getD j 0≠s[i])/\Bf wr m,[(0,Bj (s)),(6,.slice (X ⟨p.heap.size,0,Aa⟩) (Aim u) l),(7,A),(8,U i),(9,U k),(19,U ((Aim s:Y):H)),(20,U i)],m)) ?_ ?_
   .refine(O 1)<|Lo (fun((k,m):Y×Ad)=>(k<=Aim u/\(∀j,j<k->L.getD j 0≠(s[i]'hc))/\Bf wr m,[(0,Bj (s)),(6,.slice (X ⟨p.heap.size,0,Aa⟩) (Aim u) l),(7,A),(8,U i),(9,U k),(19,U ((Aim s:Y):H)),(20,U i)],m,Aim u-k)) (0,wr) ?_ ?_
    .exact⟨BD _,fun j W=>by omega,Bf.refl _⟩
    .rintro⟨k,m⟩⟨hk,N,a⟩;refine(O 8)<|Nw 27 (fun c1=>?_) fun c1=>?_
     .skip
      refine(O 3∘Zq (by exact fun _=>Bo ((h.ext a).drewN _) (hi:=rK J))∘O 2∘Zq (by exact fun _=>EW underlying9 Z Z (BN (hc)))∘O 2∘QW.nil) fun nq=>Zi (fun h2=>?_) fun h2=>?_
      .refine(O 8) ?_;refine Lb ((k+1),_) ?_;refine⟨J,fun j W=>?_,a.trans (Bf.drewN _ _)⟩;grind
      .have e:=Ll.1 (Dm.1 h2);refine(O 1∘Lm (k,_)) ?_;exact⟨c1,e,N,a.trans (Bf.drewN _ _)⟩
     .exfalso;grind
   .rintro⟨k,m⟩⟨hk,a5,N,a⟩;have y:k<Aim L:=J;have a6:∀j (W:j<Aim L),L.getD j 0=L[j]:=fun j W=>by grind
    have T:L.idxOf s[i]=k:=ve y Bh (fun j W=>by grind);rw[T]at r t;have P:=kG L rs k p.heap.size l y J J J m (h.ext a);rw[a0]at P;refine(O 8)<|Zi (fun hz=>?_) fun hz=>?_
    .omega
    .refine(O 5∘Zc P) ?_;rintro _ w5⟨rfl,al,S⟩;refine(O 4) ?_;have C:=(f.ext a).mo S (fun q hq=>by simp;exact fun z=>f.ne h Bc q hq z.symm);have x5:Bf p w5:=Bv (hx.trans a) S (hx.trans a).size Bl;refine(GZ x5 C) ?_;rintro _ v6 w6 B af ai _;refine(O 7) ?_;have aj:=al.push ai (f.ne h Bc);refine Lb ((i+1),(Ey L k),(o++[k]),ab,v6,w6) ?_;rw[KC]at B;exact⟨J,by rw[Pm y];omega,r,Bh,Bh,Bh,aj,af⟩
  .obtain rfl:i=Aim s:=J;rw[IK,front]at g;injection g with g;subst g;rw[List.append_nil]at t;subst t;refine(O 7∘BH) ?_;exact⟨⟨A,Z,f.more K.size⟩,K.trans hx⟩
def qY{L:Bg}{k:Y}{ps:Bi}:GC L (k::ps)=if k<Aim L then(GC (Ey L k) ps).map (L.getD k 0::·)else Aa:=by rfl
def Abo(ps:Bi)(u:Bg)(a7:Aim ps<=1000000)(hp:∀p∈ps,p<=1000000000)(hu:Aim u<=256)(Q:Pk u)(A:Av AC)(c C:Y)(w:Ad)(hs:Sl w C A (BC .i64 ps)):
 Bn prog 207 [.slice A (Aim ps) c,Bj u] w fun v w'=>((∃x,GC u ps=X x/\v=.tuple #[Bj x,U ((0:Y):H)])∨(GC u ps=Aa/\∃e:Y,GQ e/\v=.tuple #[Bj [],U (e:H)]))/\Bf w w':=by
 refine Bw func207 Z ntmps207 (by rfl) Z ?_;refine(O 9∘Zc (aF u J w)) ?_;rintro _ j⟨⟨d,rfl,hd⟩,t⟩;obtain rfl:=hd.2 Q;refine(O 2∘Cw 12 (.bool Aj)∘O 5) ?_;refine OW.bytesOf Z Z underlying9 underlying23 underlying5 Z J ?_;rintro y rs w2 af bb a9 ba K;refine(O 6) ?_;refine WU (len:=0) Z Z underlying23 CD Z Z Z J J CE ?_;rintro v3 w3 l I;refine(O 10) ?_;have V:=K.size;have a6:=af.lt;refine Lo (fun((i,L,o,B,wr):Y×(Bg)×(Bg)×Ah×Ad)=>(i<=Aim ps/\Aim L=Aim u/\(GC L (ps.drop i)).map (o++·)=GC u ps/\Aim o=i/\Bp wr j.heap.size 5 1 B (Aim o) (BI o)/\(∀k,B.ownBlock=X k->j.heap.size≠k)/\Bk wr j.heap.size 5 (BI L++rs)/\Bf j wr,[(0,.slice A (Aim ps) c),(6,.slice (X ⟨j.heap.size,0,Aa⟩) (Aim u) y),(7,B),(18,.slice A (Aim ps) c),(19,U ((Aim ps:Y):H)),(20,U i)],wr,Aim ps-i)) (0,u,([]),v3,w3) ?_ ?_
 .refine⟨BD _,Z,?_,Z,l.more V,fun k T=>?_,af.ext I,K.trans I⟩
  .simp
  .have:=(l.lt k T).1;omega
 .rintro⟨i,L,o,B,wr⟩⟨hi,ai,a,a8,m,a0,a3,N⟩;refine(O 5)<|Zi (fun hc=>?_) fun hc=>?_
  .obtain⟨b,f,rfl,_,a5⟩:=hs.intAt J;have ao:=hp _ (BM hc);have r:=a5 wr (t.trans N) i hc;rw[Ds hc,qY]at a;generalize ps[i]=p at ao r a;refine(O 6∘Zv (BZ r)∘O 4)<|Lc (fun(d8:Aw)=>(d8=decide (Aim L<=p),[(0,.slice (X ⟨b,f,Aa⟩) (Aim ps) c),(6,.slice (X ⟨j.heap.size,0,Aa⟩) (Aim u) y),(7,B),(9,U p),(18,.slice (X ⟨b,f,Aa⟩) (Aim ps) c),(19,U ((Aim ps:Y):H)),(20,U i),(31,.bool d8)],wr)) ?_ ?_
   .refine(O 4)<|Zd 26 (fun c1=>?_) fun c1=>?_
    .omega
    .refine(O 6∘Lm (decide (p≥Aim u))) ?_;rw[ai]
   .rintro d8 rfl;refine Zi (fun h1=>?_) fun h1=>?_
    .rw[Ag J]at a;refine(O 5∘BH) ?_;exact⟨.inr ⟨a.symm,60,⟨Bc,Bc⟩,Z⟩,t.trans N⟩
    .have h:p<Aim L:=J;rw[Ai h]at a;have a1:L.getD p 0=L[p]:=by rw[BX,BN h];rfl
     have P:=kG L rs p j.heap.size y h J J J wr a3;rw[ai]at P;refine(O 5∘Zc P) ?_;rintro _ w5⟨rfl,ab,S⟩;have E:=m.mo S (fun q hq=>by grind);have x5:Bf j w5:=Bv N S N.size Bl;refine(GZ x5 E) ?_;rintro _ v6 w6 D aj a2 W;refine(O 7) ?_;have a4:=ab.push a2 a0;refine Lb ((i+1),(Ey L p),(o++[L[p]]),v6,w6) ?_;rw[<-Qv]at D;refine⟨J,by rw[Pm h];omega,?_,Bh,Bh,fun k T=>?_,a4,aj⟩
     .rw[<-a,a1,Option.map_map];congr 1;grind
     .rcases W with q|⟨g,q,hg⟩
      .grind
      .rw[q]at T;injection T with T;have:=ab.lt;omega
  .obtain rfl:i=Aim ps:=J;rw[IK,GC]at a;obtain⟨A0,c0,rfl,_,al⟩:=m.slice;refine(O 4∘Zv (DZ al)∘O 3∘BH) ?_;refine⟨.inl ⟨o,?_,Z⟩,t.trans N⟩;grind
def ZD{l:Bs}{v:Y}(hv:v<2 ^ Aim l)(h:∀k,k<Aim l->v.testBit k=l.getD (Aim l-1-k) Aj):num l=v:=by
 apply TV;intro k;rw[QR];by_cases a:k<Aim l
 .grind
 .rw[BX,IM Bh,Qm (Kj hv (FN Bl J))];rfl
def ZC{l:Bs}{k:Y}(hk:k<Aim l):(num l).testBit k=l.getD (Aim l-1-k) Aj:=by
 rw[QR,BX,BX,TM hk]
def rp(m k:Y):(1*2 ^ m).testBit k=decide (m=k):=by
 grind
def Aaw{u:Bg}{i:Y}(hi:i<Aim u):num (Da (u.take (i+1)) (u[i].toNat/16))=num (Da (u.take i) (u[i].toNat/16))|||(1*2 ^ (15-u[i].toNat%16)):=by
 have g:=(u[i]).toNat_lt;have a:=JQ;refine ZD ?_ fun k d=>?_
 .rw[a];refine Mg ?_ ?_
  .have:=Pq (Da (u.take i) (u[i].toNat/16));grind
  .rw[Nat.one_mul];exact Nat.pow_lt_pow_right Bc J
 .rw[a]at d;rw[Nat.testBit_or,ZC Bh,rp,a,a,am _ _ _ J,am _ _ _ J,<-CR hi];rw[RA,PP,decide_eq_true_eq,decide_eq_true_eq,decide_eq_true_eq,Dz,CG];refine or_congr Iff.rfl ⟨fun e=>?_,fun e=>?_⟩
  .apply Ll.1;simp;omega
  .have f:=Ar UInt8.toNat e;rw[Bz.toNat_ofNat J]at f;omega
def Aax{u:Bg}{i r:Y}(hi:i<Aim u)(g:r<16)(d:r≠u[i].toNat/16):num (Da (u.take (i+1)) r)=num (Da (u.take i) r):=by
 have h:=(u[i]).toNat_lt;congr 1;unfold Da;apply Ju;intro k a;have a:=CQ.1 a;rw[<-CR hi,decide_eq_decide,Dz,CG];refine⟨fun q=>q.resolve_right fun e=>?_,.inl⟩;have f:=Ar UInt8.toNat e;rw[Bz.toNat_ofNat J]at f;omega
def mB(u:Bg)(r:Y):num (Da u r)<65536:=by
 have:=Pq (Da u r);rwa[JQ]at this
def SZ(u:Bg)(r:Y):num (Da u r)=0↔DC u r=Aj:=by
 constructor
 .intro h;unfold DC;rw[List.any_eq_false];intro b d;obtain⟨j,a,rfl⟩:=Hm.1 d;have:=ZC (l:=Da u r) (k:=15-j) (by rw[JQ]at*;omega);rw[h,Nat.zero_testBit,JQ]at this;rw[JQ]at a;grind
 .intro h;refine ZD (Uc _) fun k e=>?_;unfold DC at h;rw[List.any_eq_false]at h;have a:Aim (Da u r)-1-k<Aim (Da u r):=J;have:=h _ (BM a);grind
def GA(u:Bg)(i:Y):Bs:=(BE 16).map fun r=>decide (r<i) && DC u r
def Xd(u:Bg)(i:Y):Aim (GA u i)=16:=by rfl
def dB(u:Bg)(i k:Y)(h:k<16):(GA u i).getD k Aj=(decide (k<i) && DC u k):=by
 unfold GA;grind
def qR{u:Bg}{i:Y}(hi:i<16):num (GA u (i+1))=if DC u i=Af then num (GA u i)|||(1*2 ^ (15-i))else num (GA u i):=by
 have a:=Xd u
 have d:num (GA u i)<2 ^ 16:=by
  have:=Pq (GA u i);rwa[a]at this
 refine ZD ?_ fun k f=>?_
 .rw[a];split
  .refine Mg d ?_;rw[Nat.one_mul];exact Nat.pow_lt_pow_right Bc J
  .omega
 .rw[a]at f;rw[a,dB _ _ _ J]
  have e:(num (GA u i)).testBit k=(decide (16-1-k<i) && DC u (16-1-k)):=by
   rw[ZC Bh,a,dB _ _ _ J]
  grind
def qN(u:Bg):GA u 16=(BE 16).map (DC u):=by
 rfl
def dC(u:Bg)(i:Y):num (GA u i)<65536:=by
 have:=Pq (GA u i);rwa[Xd]at this
def lI{m:Y}(h:m<=15):(2:Y) ^ m<=32768:=FN Bl h
def xI(u:Bg)(r:Y):nb 16 (num (Da u r))=Da u r:=by
 have:=kK (Da u r);assumption
def Aar(r:Y):num (Da [] r)=0:=(SZ [] r).2 (by rfl)
def Acq(u:Bg)(hu:Aim u<=256)(af:Pk u)(w:Ad):
 Bn prog 178 [Bj u] w fun v w'=>v=.tuple #[.agg (DT (JT u)).toArray,U ((0:Y):H)]/\Bf w w':=by
 refine Bw func178 Z ntmps178 Be Z ?_;refine(O 2∘Zn) ?_;rintro ob w0 a8 a3 L;refine(O 6∘Zc (aF u J w0)) ?_;rintro _ w1⟨⟨d,rfl,hd⟩,K⟩;obtain rfl:=hd.2 af;refine(O 2∘Cw 14 (.bool Aj)∘O 4∘Zn) ?_;rintro G w2 a7 ao I;refine(O 9) ?_
 have W:Bk w2 G 324 (EL .u64 16 fun r=>num (Da (u.take 0) r)):=by
  rw[Ox,<-nG (F:=fun _=>0) (fun r _=>(Aar r).symm)];exact ao
 refine Lo (fun((i,wr):Y×Ad)=>(i<=Aim u/\Bk wr G 324 (EL .u64 16 fun r=>num (Da (u.take i) r))/\Mo w2 wr [G],[(0,Bj (u)),(2,.pointer (X ⟨ob,0,Aa⟩)),(4,.pointer (X ⟨G,0,Aa⟩)),(17,U ((Aim u:Y):H)),(18,U i)],wr,Aim u-i)) (0,w2) ?_ ?_
 .exact⟨BD _,W,Mo.refl _ _⟩
 .rintro⟨i,wr⟩⟨hi,D,hm⟩;refine(O 5)<|Zi (fun hc=>?_) fun hc=>?_
  .have h8:=(u[i]).toNat_lt;have y:u[i].toNat/16<16:=J;have S:=mB (u.take i) (u[i].toNat/16);have ab:=lI (show 15-u[i].toNat%16<=15 by omega)
   have hG:∀r,r<16->num (Da (u.take (i+1)) r)=if r=u[i].toNat/16 then num (Da (u.take i) (u[i].toNat/16))|||(1*2 ^ (15-u[i].toNat%16))else num (Da (u.take i) r):=fun r D=>by
    by_cases e:r=u[i].toNat/16
    .rw[Ai e,e,Aaw hc]
    .rw[Ag e,Aax hc D e]
   refine(O 8) ?_;refine Kf 14 Be Be<|HW.val Z Z (EX.move Z)<|HW.val Z Z (EX.move Z)<|HW.val Z Z (EW underlying9 Z Z (BN (hc)))<|HW.val Z Z (IG (s:=4) (p:=16) Z Z Bc Bc)<|HW.val Z Z (by first|exact LU underlying324 PF Z Z J|exact LV underlying324 PF Z Z J)<|HW.val Z Z (Cg underlying211 Z Z (D.drew.cell_of (MP y)))<|HW.val Z Z (EX.move Z)<|HW.val Z Z (EX.move Z)<|HW.val Z Z (EW underlying9 Z Z (BN (hc)))<|HW.val Z Z (Nb (b:=15) (j:=4) (p:=16) (m:=255) Z Z Bc Bc Z J)<|HW.val Z Z (Kb (a:=15) (m:=255) Z Z Z J)<|HW.val Z Z (On (a:=1) (m:=18446744073709551615) Z Z (by show _<=64;omega) Z J)<|HW.val Z Z (Ol (m:=18446744073709551615) Z Z Z J)<|HW.val Z Z (by first|exact LU underlying324 PF Z Z J|exact LV underlying324 PF Z Z J)<|HW.tail<|(Zt D.drew (hlt:=by assumption)) ?_;rintro w3 V a6;refine(O 6) ?_;rw[PE y hG]at V;refine Lb ((i+1),w3) ?_;exact⟨J,V,(hm.trans (Mo.Age (Bf.drew wr) _)).trans a6⟩
  .obtain rfl:i=Aim u:=J;rw[DY]at D;have x1:=L.trans K;have E:Bf w1 wr:=Bv I hm I.size Bx;have a0:=(a3.ext K).ext E;refine(O 3∘Zc (Pp wr)) ?_;rintro _ w4⟨A,rfl,Q,l⟩;refine(O 6) ?_;have T:=D.ext l;have a2:=a0.ext l;refine(Zv (by exact Jl underlying324 Z bo Z (T) (by rw[Gq]))∘O 3)<|Lo (fun(i:Y)=>(i<=16,[(2,.pointer (X ⟨ob,0,Aa⟩)),(4,.pointer (X ⟨G,0,Aa⟩)),(6,.pointer (X ⟨A,0,Aa⟩)),(7,.int .u64 (((num (GA u i)):Y):H)),(37,.agg (EL .u64 16 fun r=>num (Da u r)).toArray),(38,U i)],w4,16-i)) 0 ?_ ?_
   .simp
   .rintro i hi;refine(O 5)<|Zi (fun h=>?_) fun h=>?_
    .have aj:=dC u i;have ab:=lI (show 15-i<=15 by omega);have g:=qR (u:=u) h;refine(O 6∘Zv (by exact Ty underlying324 underlying211 Z PF Z Z J (MP h))∘O 8)<|Zi (fun f=>?_) fun f=>?_
     .have C:DC u i=Af:=by
       rcases hb:DC u i with _|_
       .exact AK ((SZ u i).2 hb) f
       .rfl
      rw[Ai C]at g;refine(O 5∘Zv (by exact On (a:=1) (m:=18446744073709551615) Z Z (by show _<=64;omega) Z J)∘Zv (by exact Ol (m:=18446744073709551615) Z Z Z J)∘O 7∘Cw 7 (.int .u64 (((num (GA u (i+1))):Y):H)) (e:=by rw[g]))<|Lb (i+1) ?_;exact h
     .have C:¬DC u i=Af:=fun q=>by
       have:=(SZ u i).1 (Dm.1 f);grind
      rw[Ag C]at g;refine(O 6∘Cw 7 (.int .u64 (((num (GA u (i+1))):Y):H)) (e:=by rw[g]))<|Lb (i+1) ?_;exact h
    .obtain rfl:i=16:=J;have aj:=dC u 16
     have a4:nb 16 (num (GA u 16))=(BE 16).map (DC u):=by
      have:=kK (GA u 16);rwa[Xd,qN]at this
     refine(O 5∘Zc (GJ wr.heap.size A [] (num (GA u 16)) 16 J Bc aj Bc w4 Q)) ?_;rintro _ w5⟨rfl,P,t5⟩;refine(O 4) ?_;rw[Ev,a4]at P;have x5:Bf w1 w5:=t5.below (E.trans l) (E.trans l).size E.size;have al:=t5.bk T Z;have ba:=t5.bk a2 Z;refine(Zv (by exact Jl underlying324 Z bo Z (al) (by rw[Gq]))∘O 3)<|Lo (fun((i,k):Y×Ad)=>(i<=16/\FB k wr.heap.size A ((BE 16).map (DC u)++(BE i).flatMap fun r=>if DC u r then Da u r else[])/\Bk k ob 226 [Bj [],U 0]/\Bf w1 k,[(2,.pointer (X ⟨ob,0,Aa⟩)),(6,.pointer (X ⟨A,0,Aa⟩)),(54,.agg (EL .u64 16 fun r=>num (Da u r)).toArray),(55,U i)],k,16-i)) (0,w5) ?_ ?_
     .grind
     .rintro⟨i,k⟩⟨hi,n,B,N⟩
      have ai:∀i,Aim ((BE i).flatMap fun r=>if DC u r then Da u r else[])<=16*i:=fun i=>by
       induction i with
       |zero=>simp
       |succ i ih=>
        rw[FV,Ia,BA,EY,RQ,List.append_nil];split
        .rw[JQ];omega
        .grind
      have bb:=ai i;have bc:Aim ((BE 16).map (DC u))=16:=Bl;refine(O 5)<|Zi (fun t=>?_) fun t=>?_
      .have S:=mB u i
       have o:(BE (i+1)).flatMap (fun r=>if DC u r then Da u r else[])=(BE i).flatMap (fun r=>if DC u r then Da u r else[])++if DC u i then Da u i else[]:=by
        rw[FV,Ia,EY,RQ,List.append_nil]
       refine(O 5∘Zv (by exact Ty underlying324 underlying211 Z PF Z Z J (MP t))∘O 7)<|Zi (fun f=>?_) fun f=>?_
       .have C:DC u i=Af:=by
         rcases hb:DC u i with _|_
         .exact AK ((SZ u i).2 hb) f
         .rfl
        rw[Ai C]at o;refine(O 3∘Zc (GJ wr.heap.size A _ (num (Da u i)) 16 J Bc S Bh k n)) ?_;rintro _ w6⟨rfl,x,t6⟩;refine(O 6)<|Lb ((i+1),w6) ?_;rw[xI,Cq,<-o]at x;have:=E.size;exact⟨t,x,t6.bk B Z,t6.below N N.size J⟩
       .have C:¬DC u i=Af:=fun q=>by
         have:=(SZ u i).1 (Dm.1 f);grind
        rw[Ag C,List.append_nil]at o;refine(O 6)<|Lb ((i+1),k) ?_;dsimp only;rw[o];exact⟨t,n,B,N⟩
      .obtain rfl:i=16:=J;refine(O 4∘Zc (Oa wr.heap.size A _ k n)) ?_;rintro _ _⟨rfl,rfl⟩;refine(O 1∘Zc (MW wr.heap.size A _ k n)) ?_;rintro _ _⟨rfl,rfl⟩;refine(O 1∘Zs B) ?_;rintro w7 a1 a5;refine(O 2) ?_;have hz:=L.size;have a9:=x1.size;have x7:Bf w w7:=Bv (x1.trans N) a5 (x1.trans N).size Bx;refine(Du a1) ?_;exact⟨Z,x7⟩
end
namespace Bz
abbrev Vw(l:By):Prop:=l.Pairwise fun a b=>a.toNat<b.toNat
def Aau(l:Bs){i:Y}(hi:i<16):Vw (MM l i)/\∀b∈MM l i,16*i<=b.toNat/\b.toNat<16*(i+1):=by
 have e:∀k∈(BE 16).filter (fun k=>l.getD k Aj),k<16:=fun k a=>CQ.1 (Le.1 a).1;unfold MM;refine⟨?_,fun b d=>?_⟩
 .refine Mc.2 (GS.imp_of_mem ?_ (GS.filter _ WG));simp;omega
 .obtain⟨k,a,rfl⟩:=Ck.1 d;simp_all;omega
def aQ{s:By}{all:Bs}:∀(n a p:Y) (acc u:By) (q:Y),p<=8*Aim s->Vw acc->(∀b∈acc,b.toNat<16*a)->a+n<=16->IB s all (GX a n) p acc=X (u,q)->Vw u/\q<=8*Aim s
 |0,a,p,acc,u,q,hp,hr,hl,ha,h=>by
  simp only[List.range'_zero,IB,Ns.injEq,Qq.injEq]at h;grind
 |n+1,a,p,acc,u,q,hp,hr,hl,ha,h=>by
  rw[WI,IB]at h;split at h
  .exact aQ n (a+1) p acc u q hp hr (fun b hb=>by grind) J h
  .split at h
   .grind
   .obtain⟨r1,r2⟩:=Aau (BW s p 16) (show a<16 by omega);refine aQ n (a+1) (p+16) _ u q J ?_ (fun b hb=>?_) J h
    .grind
    .grind
def mn:∀(l:By) (k:Y),Vw l->(∀b∈l,k<=b.toNat)->k<=256->Aim l+k<=256
 |[],k,_,_,h=>by grind
 |a::l,k,hr,hk,h=>by
  have h1:=hk a Bl;have h2:=a.toNat_lt;obtain⟨r1,r2⟩:=Hn.1 hr;have:=mn l (a.toNat+1) r2 (fun b hb=>r1 b hb) J;grind
def Adu{s u:By}{p q:Y}(h:MS s p=X (u,q)):Pk u/\Aim u<=256/\q<=8*Aim s:=by
 unfold MS at h;split at h
 .cases h
 .rename_i j;split at h
  .cases h
  .rename_i d i f;split at h
   .cases h
   .rename_i a;injection h with h;injection h with e1 e2;subst e1 e2;rw[Qh]at f;obtain⟨e,g⟩:=aQ 16 0 (p+16) [] d i J GS.nil Bl J f;have:=mn d 0 e (fun b _=>BD _) Bl;exact⟨⟨a,e⟩,J,g⟩
def kT{l:Bs}{i:Y}(h:i<Aim l):num l/2 ^ (Aim l-1-i)%2=(l.getD i Aj).toNat:=by
 have a:(num l).testBit (Aim l-1-i)=l.getD i Aj:=by
  rw[QR,BX,BX,TM J,show Aim l-1-(Aim l-1-i)=i by omega]
 grind
def LJ(l:Bs)(i n:Y):By:=((BE n).filter fun k=>l.getD k Aj).map fun k=>BS (16*i+k)
def mA(l:Bs)(i n:Y):LJ l i (n+1)=if l.getD n Aj=Af then LJ l i n++[BS (16*i+n)]else LJ l i n:=by
 unfold LJ;rw[FV,KY,DX];grind
def my(l:Bs)(i:Y):∀n,Aim (LJ l i n)<=n
 |0=>Bq _
 |n+1=>by
  have:=my l i n;rw[mA];grind
end Bz
section
attribute [local irreducible] OW KW QW EX GW NV
open Bz
def MJ(s:Bg)(p n:Y):∃v e q,Iy s p n=(v,e,q)/\((8*Aim s<p+n/\v=0/\e=10/\q=p)∨(p+n<=8*Aim s/\v=num (BW s p n)/\e=0/\q=p+n)):=by
 rcases Db (8*Aim s) (p+n)with h|h
 .exact⟨0,10,p,Ai h,.inl ⟨h,Z,Z,Z⟩⟩
 .exact⟨_,0,p+n,Ag J,.inr ⟨h,Z,Z,Z⟩⟩
def Kq(s:Bg)(p n:Y):num (BW s p n)<2 ^ n:=by
 have:=Pq (BW s p n);rwa[Sf]at this
def Acv(s:Bg)(p:Y)(hp:p<=8*Aim s)(hs:Aim s<=1000000000)(w:Ad):
 Bn prog 160 [Bj s,U (p:H)] w fun v w'=>((∃u q,MS s p=X (u,q)/\v=.tuple #[Bj u,U (q:H),U ((0:Y):H)])∨(MS s p=Aa/\∃e:Y,GQ e/\v=.tuple #[Bj [],U ((0:Y):H),U (e:H)]))/\Bf w w':=by
 obtain⟨v0,e0,q0,a4,ao⟩:=MJ s p 16;refine Bw func160 Z ntmps160 Be Z ?_;refine(O 10∘Zc (Po s p hp J w)) ?_;rintro _ w1⟨C,rfl,n,V⟩;refine(O 13) ?_;have c1:=MT w.heap.size C s p 16 Bc hp J w1 n;rw[a4]at c1;refine(Zc c1) ?_;rintro _ w2⟨rfl,ai,t2⟩;refine(O 12) ?_;have x2:Bf w w2:=t2.below V V.size (Bq _);refine Zi (fun he=>?_) fun he=>?_
 .rcases ao with⟨h,rfl,rfl,rfl⟩|⟨h,rfl,rfl,rfl⟩
  .refine(O 7∘CS) ?_;refine⟨.inr ⟨Ai h,10,⟨Bc,Bc⟩,Z⟩,x2⟩
  .exact AK Z he
 .rcases ao with⟨h,rfl,rfl,rfl⟩|⟨h,rfl,rfl,rfl⟩
  .exact AK (show(10:Y)≠0 by decide) he
  .have E:MS s p=match IB s (BW s p 16) (BE 16) (p+16) []with
    |none=>Aa
    |some (u,q)=>if u=[]then Aa else X (u,q):=Ag J
   have bb:=Kq s p 16;have A:=Sf s p 16;generalize BW s p 16=all at E bb A;generalize W:IB s all (BE 16) (p+16) []=T at E;rw[Qh]at W;refine(O 3) ?_;refine Li 0 Z Z underlying23 CD Z Z Z Z (by rfl) Bc ?_;rintro ob w3 bf ba S;refine(O 8) ?_;have bj:=x2.size;refine Lo (fun((i,q,a,N,wr):Y×Y×(Bg)×Ah×Ad)=>(i<=16/\q<=8*Aim s/\Aim a<=16*i/\IB s all (GX i (16-i)) q a=T/\Bp wr w.heap.size 5 1 N (Aim a) (BI a)/\RdAt wr w.heap.size C s q/\Bf w wr,[(0,Bj (s)),(7,.pointer (X ⟨C,0,Aa⟩)),(8,.int .u64 (((num all):Y):H)),(10,N),(29,U i)],wr,16-i)) (0,(p+16),([]),(.slice (X ⟨ob,0,Aa⟩) 0 0),w3) ?_ ?_
   .exact⟨BD _,h,BD _,W,Bp.Agf (l:=[]) ba J Z Bc,ai.ext S,x2.trans S⟩
   .rintro⟨i,q,a,N,wr⟩⟨hi,hq,bh,o,y,n,hx⟩;refine(O 5)<|Zi (fun hc=>?_) fun hc=>?_
    .rw[show 16-i=(16-(i+1))+1 by omega,WI,IB]at o;have I:=kT (l:=all) (i:=i) J;rw[A,show 16-1-i=15-i by omega]at I;have bm:=Oz (num all) (2 ^ (15-i));refine(O 15∘Zv (by exact PV Z Z (by show _<=64;omega))∘Zv (by exact Nb (b:=1) (j:=1) (p:=2) (m:=18446744073709551615) Z Z Bc Bc Z J)∘O 2)<|Zi (fun x=>?_) fun x=>?_
     .rw[I]at x
      have K:all.getD i Aj=Aj:=by
       cases hb:all.getD i Aj
       .rfl
       .grind
      rw[Ai K]at o;refine(O 5)<|Lb ((i+1),q,a,N,wr) ?_;grind
     .rw[I]at x;have K:¬all.getD i Aj=Aj:=fun q=>x (by rw[q];rfl);rw[Ag K]at o;obtain⟨v1,e1,q1,a3,al⟩:=MJ s q 16;have c1:=MT w.heap.size C s q 16 Bc hq J wr n;rw[a3]at c1;refine(O 4∘Zc c1) ?_;rintro _ w4⟨rfl,af,t4⟩;refine(O 12) ?_;have x4:Bf w w4:=t4.below hx hx.size (Bq _);have Q:=t4.own y Z;refine Zi (fun L=>?_) fun L=>?_
      .rcases al with⟨h1,rfl,rfl,rfl⟩|⟨h1,rfl,rfl,rfl⟩
       .rw[Ai h1]at o;refine(O 7∘CS) ?_;refine⟨.inr ⟨Bh,10,⟨Bc,Bc⟩,Z⟩,x4⟩
       .exact AK Z L
      .rcases al with⟨h1,rfl,rfl,rfl⟩|⟨h1,rfl,rfl,rfl⟩
       .exact AK (show(10:Y)≠0 by decide) L
       .rw[Ag J]at o;have a2:=Kq s q 16;have ab:=Sf s q 16;generalize BW s q 16=row at o a2 ab;refine(O 6)<|Lo (fun((k,P,B):Y×Ah×Ad)=>(k<=16/\Bp B w.heap.size 5 1 P (Aim (a++LJ row i k)) (BI (a++LJ row i k))/\RdAt B w.heap.size C s (q+16)/\Bf w B,[(0,Bj (s)),(7,.pointer (X ⟨C,0,Aa⟩)),(8,.int .u64 (((num all):Y):H)),(10,P),(11,U i),(12,.int .u64 (((num row):Y):H)),(29,U i),(47,U k)],B,16-k)) (0,N,w4) ?_ ?_
        .exact⟨BD _,by simpa[LJ]using Q,af,x4⟩
        .rintro⟨k,P,B⟩⟨hk,d,f,D⟩;have bi:=my row i k;refine(O 5)<|Zi (fun a7=>?_) fun a7=>?_
         .have g:=mA row i k;have G:=kT (l:=row) (i:=k) J;rw[ab,show 16-1-k=15-k by omega]at G;have bl:=Oz (num row) (2 ^ (15-k));have a8:=Bz.toNat_ofNat (show 16*i+k<256 by omega);have a9:((16*i+k:Y):H)=((BS (16*i+k)).toNat:H):=Ar Mf a8.symm;refine(O 14∘Zv (by exact PV Z Z (by show _<=64;omega))∘Zv (by exact Nb (b:=1) (j:=1) (p:=2) (m:=18446744073709551615) Z Z Bc Bc Z J)∘O 2)<|Zi (fun r=>?_) fun r=>?_
          .rw[G]at r
           have K:row.getD k Aj=Af:=by
            cases hb:row.getD k Aj
            .grind
            .rfl
           rw[Ai K]at g;have a5:Aim (a++LJ row i k)<=256:=by rw[BA];omega
           refine(O 7∘GZ D d) ?_;rintro _ v5 w5 t a0 a6 _;refine(O 7)<|Lb ((k+1),v5,w5) ?_;rw[a9,<-Qv]at t;dsimp only;rw[g,<-Cq,BA (bs:=[BS (16*i+k)])];exact⟨J,t,f.tm (Tm.grown d a6) Z Z,a0⟩
          .rw[G]at r;have K:¬row.getD k Aj=Af:=fun q=>r (by rw[q];rfl);rw[Ag K]at g;refine(O 6)<|Lb ((k+1),P,B) ?_;dsimp only;rw[g];exact⟨J,d,f,D⟩
         .obtain rfl:k=16:=J;refine(O 6)<|Lb ((i+1),(q+16),(a++LJ row i 16),P,B) ?_;exact⟨J,h1,by rw[BA];omega,o,d,f,D⟩
    .obtain rfl:i=16:=J;rw[EP,List.range'_zero,IB]at o;rw[<-o]at E;obtain⟨A0,c0,rfl,_,a1⟩:=y.slice;refine(O 8)<|Zi (fun x=>?_) fun x=>?_
     .have aj:a=[]:=Gx x;refine(O 6∘CS) ?_;exact⟨.inr ⟨Bh,60,⟨Bc,Bc⟩,Z⟩,hx⟩
     .have aj:a≠[]:=fun q=>x (by rw[q];rfl);refine(O 2∘Yr 7 (fun w'=>Bf wr w') (Bf.drew wr)) fun hS=>(Gv [0]∘Yw 1 (he:=by exact fun _ bc=>DZ (a1.ext bc))∘Gv [2]∘Yc 3 (SS w.heap.size C s q wr.drew (n.ext (Bf.drew wr)))) ?_;rintro _ _⟨rfl,rfl⟩;refine⟨hS,fun hS=>?_⟩;refine(Gv [4,5,6]∘Yd∘CS) ?_;exact⟨.inl ⟨a,q,Bh,Z⟩,hx.trans (Bf.drew wr)⟩
def km(l:Bi)(h0:0<Aim l)(n:Aim l<=1000000000)(A:Av AC)(c C:Y)(w:Ad)(j:Sl w C A (BC .i64 l)):
 Bn prog 286 [.slice A (Aim l) c] w fun v w'=>(∃m:Y,m∈l/\(∀x∈l,x<=m)/\v=U (m:H))/\w=w':=by
 obtain⟨b,f,rfl,_,d⟩:=j.intAt h0;refine Bw func286 Z ntmps286 (by rfl) Z ?_;refine(O 11)<|Zi (fun h=>?_) fun h=>?_
 .omega
 .refine(O 5∘Zv (BZ (d w (Bf.refl _) 0 h0))∘O 8)<|Lo (fun((i,m):Y×Y)=>((1<=i/\i<=Aim l/\m∈l/\∀x∈l.take i,x<=m),[(0,.slice (X ⟨b,f,Aa⟩) (Aim l) c),(3,U m),(4,U i)],w,Aim l-i)) (1,(l[0])) ?_ ?_
  .refine⟨Bq _,h0,BM _,fun x g=>?_⟩;cases l with
   |nil=>grind
   |cons a r=>
    grind
  .rintro⟨i,m⟩⟨q,p,o,k⟩;refine(O 8)<|Zi (fun e=>?_) fun e=>?_
   .refine(O 8∘Zv (BZ (d w (Bf.refl _) i e))∘O 9)<|Lb ((i+1),(max m l[i])) ?_;refine⟨J,e,?_,fun x g=>?_⟩
    .grind
    .rw[<-CR e,Dz,CG]at g;grind
   .obtain rfl:i=Aim l:=J;rw[DY]at k;refine(O 6∘Bu) ?_;grind
def min_s(l:Bi)(h0:0<Aim l)(h:Aim l<=1000000000)(A:Av AC)(c C:Y)(w:Ad)(g:Sl w C A (BC .i64 l)):
 Bn prog 302 [.slice A (Aim l) c] w fun v w'=>(∃m:Y,v=U (m:H))/\w=w':=by
 obtain⟨b,f,rfl,_,a⟩:=g.intAt h0;refine Bw func302 Z ntmps302 (by rfl) Z ?_;refine(O 11)<|Zi (fun e=>?_) fun e=>?_
 .omega
 .refine(O 5∘Zv (BZ (a w (Bf.refl _) 0 h0))∘O 8)<|Lo (fun((i,m):Y×Y)=>(1<=i/\i<=Aim l,[(0,.slice (X ⟨b,f,Aa⟩) (Aim l) c),(3,U m),(4,U i)],w,Aim l-i)) (1,(l[0])) ?_ ?_
  .omega
  .rintro⟨i,m⟩⟨k,j⟩;refine(O 8)<|Zi (fun d=>?_) fun d=>?_
   .refine(O 8∘Zv (BZ (a w (Bf.refl _) i d))∘O 9)<|Lb ((i+1),(min m l[i])) ?_;omega
   .refine(O 6∘Bu) ?_;grind
def jQ(l:Bi)(h2:2<=Aim l/\Aim l<=258)(a:∀x∈l,x<=1073741824)(A:Av AC)(c C:Y)(w:Ad)(d:Sl w C A (BC .i64 l)):
 Bn prog 283 [.slice A (Aim l) c] w fun v w'=>v=.bool Af/\w=w':=by
 obtain⟨h2,i⟩:=h2;refine Bw func283 Z ntmps283 (by rfl) Z ?_;refine(O 10)<|Zd 6 (fun h=>?_) fun h=>?_
 .refine(O 5)<|Zd 11 (fun g=>?_) fun g=>?_
  .refine(O 1∘Zc (min_s l J J A c C w d)) ?_;rintro _ _⟨⟨m,rfl⟩,rfl⟩;refine(O 3)<|Zd 16 (fun f=>?_) fun f=>?_
   .refine(O 1∘Zc (km l J J A c C w d)) ?_;rintro _ _⟨⟨M,e,_,rfl⟩,rfl⟩;have e:=a M e;refine(O 4∘Bu) ?_;grind
   .omega
  .omega
 .omega
def Ja(l:Bi):Y:=CU (l.map fun x=>2 ^ (20-x))
def Aaj(l:Bi)(x:Y):Ja (l++[x])=Ja l+2 ^ (20-x):=by
 unfold Ja;rw[DX,Tj,Cp,EO,Ga];rfl
def mr(l:Bi):Ja l<=Aim l*1048576:=by
 unfold Ja
 have:=VF (l:=l.map fun x=>2 ^ (20-x)) (m:=1048576) (fun x a=>by
  obtain⟨y,_,rfl⟩:=Ck.1 a;exact FN (n:=2) Bl (show 20-y<=20 by omega))
 grind
open Classical in
noncomputable def HA(l:Bi):Y:=if 2<=Aim l/\Aim l<=258/\∀x∈l,1<=x/\x<=20 then Ja l else 0
def vU(l:Bi)(N:Aim l<=1000000000)(q:∀x∈l,x<=1000000000)(A:Av AC)(c C:Y)(w:Ad)(E:Sl w C A (BC .i64 l)):
 Bn prog 250 [.slice A (Aim l) c] w fun v w'=>v=U ((HA l:Y):H)/\w=w':=by
 refine Bw func250 Z ntmps250 (by rfl) Z ?_;refine(O 6)<|Lc (fun(y:Aw)=>(y=decide (Aim l<2∨258<Aim l),[(0,.slice A (Aim l) c),(13,.bool y)],w)) ?_ ?_
 .refine(O 5)<|Zd 9 (fun k=>?_) fun k=>?_
  .refine(O 5∘Lm Af) ?_;exact(AM (.inl k)).symm
  .refine(O 5∘Lm (decide (Aim l>258))) ?_;grind
 .rintro y rfl;refine Zi (fun L=>?_) fun L=>?_
  .have e:HA l=0:=Ag J;refine(O 4∘Bu) ?_;grind
  .refine(O 13)<|Lo (fun(i:Y)=>((i<=Aim l/\∀x∈l.take i,1<=x/\x<=20),[(0,.slice A (Aim l) c),(3,U (((Ja (l.take i)):Y):H)),(14,.slice A (Aim l) c),(15,U ((Aim l:Y):H)),(16,U i)],w,Aim l-i)) 0 ?_ ?_
   .simp
   .rintro i⟨P,g⟩;refine(O 5)<|Zi (fun j=>?_) fun j=>?_
    .obtain⟨b,f,rfl,_,r⟩:=E.intAt J;have o:=q _ (BM j);have d:=r w (Bf.refl _) i j;have p:l.take (i+1)=l.take i++[l[i]]:=(CR j).symm;have h:l[i]∈l:=BM j;generalize l[i]=x at o d p h;refine(O 6∘Zv (BZ d)∘O 4)<|Lc (fun(t:Aw)=>(t=decide (x<1∨20<x),[(0,.slice (X ⟨b,f,Aa⟩) (Aim l) c),(3,U (((Ja (l.take i)):Y):H)),(5,U x),(14,.slice (X ⟨b,f,Aa⟩) (Aim l) c),(15,U ((Aim l:Y):H)),(16,U i),(25,.bool t)],w)) ?_ ?_
     .refine(O 4)<|Zd 22 (fun k=>?_) fun k=>?_
      .refine(O 4∘Lm Af) ?_;exact(AM (.inl k)).symm
      .refine(O 4∘Lm (decide (x>20))) ?_;grind
     .rintro t rfl;refine Zi (fun K=>?_) fun K=>?_
      .have e:HA l=0:=Ag Bh;refine(O 4∘Bu) ?_;grind
      .have I:=mr (l.take i);have D:Aim (l.take i)<=258:=by rw[BY];omega
       have G:=Aaj (l.take i) x;have B:(2:Y) ^ (20-x)<=1048576:=FN (n:=2) Bc (show 20-x<=20 by omega);refine(O 5∘Zv (by exact On (a:=1) (m:=9223372036854775807) Z Z (by show _<=64;omega) Z J)∘O 8∘Cw 3 (U (((Ja (l.take (i+1))):Y):H)) (e:=by grind))<|Lb (i+1) ?_;grind
    .obtain rfl:i=Aim l:=J;rw[DY]at g;have e:HA l=Ja l:=Ai ⟨J,J,g⟩;refine(O 6∘Bu) ?_;grind
def Adb{l:Bi}(h2:2<=Aim l)(e:Aim l<=258):(HA l=0∨1048576<HA l)↔¬LOk l:=by
 unfold HA;constructor
 .intro h q;rw[Ai ⟨h2,e,q.pos⟩]at h;have f:Ja l<=1048576:=q.kraft;rcases h with h|h
  .cases l with
   |nil=>grind
   |cons a r=>
    have:Ja (a::r)=2 ^ (20-a)+Ja r:=rfl;grind
  .omega
 .intro h;by_cases d:∀x∈l,1<=x/\x<=20
  .rw[Ai ⟨h2,e,d⟩];right;exact Nat.lt_of_not_le fun q=>h ⟨d,q⟩
  .grind
def Ada{l:Bi}(h:¬(2<=Aim l/\Aim l<=258)):HA l=0:=Ag fun q=>h ⟨q.1,q.2.1⟩
open Classical in
noncomputable def GD(l:Bi):Y:=if 2<=Aim l/\Aim l<=258/\LOk l then 0 else 80
def YX(l:Bi)(i:Aim l<=1000000000)(a:∀x∈l,x<=1000000000)(A:Av AC)(c C:Y)(w:Ad)(g:Sl w C A (BC .i64 l)):
 Bn prog 203 [.slice A (Aim l) c] w fun v w'=>v=U ((GD l:Y):H)/\w=w':=by
 have f:(HA l=0∨1048576<HA l)↔¬(2<=Aim l/\Aim l<=258/\LOk l):=by
  by_cases h:2<=Aim l/\Aim l<=258
  .rw[Adb h.1 h.2];grind
  .exact⟨fun _ z=>h ⟨z.1,z.2.1⟩,fun _=>.inl (Ada h)⟩
 have j:HA l<=1000000000:=by
  unfold HA;split
  .rename_i h;have:=mr l;omega
  .omega
 refine Bw func203 Z ntmps203 (by rfl) Z ?_;refine(O 8∘Zc (vU l i a A c C w g)) ?_;rintro _ _⟨rfl,rfl⟩;refine(O 3)<|Lc (fun(d:Aw)=>(d=decide (HA l=0∨1048576<HA l),[(3,U (((HA l):Y):H)),(11,.bool d)],w)) ?_ ?_
 .refine(O 4)<|Zd 8 (fun k=>?_) fun k=>?_
  .refine(O 4∘Lm Af) ?_;grind
  .refine(O 4∘Lm (decide (HA l>1048576))) ?_;grind
 .rintro d rfl;refine Zi (fun h=>?_) fun h=>?_
  .have e:GD l=80:=Ag (f.1 h);refine(O 4∘Bu) ?_;rw[e];exact⟨Z,Z⟩
  .have e:GD l=0:=Ai (Dm.1 fun q=>h (f.2 q));refine(O 5∘Bu) ?_;rw[e];exact⟨Z,Z⟩
def rU(l:Bi)(h0:0<Aim l)(hl:Aim l<=1000000000)(A:Av AC)(c C:Y)(w:Ad)(h:Sl w C A (BC .i64 l)):
 Bn prog 284 [.slice A (Aim l) c] w fun v w'=>CV w' w.heap.size v l/\Bf w w':=by
 obtain⟨b,f,rfl,_,j⟩:=h.intAt h0;refine Bw func284 Z ntmps284 (by rfl) Z ?_;refine(O 14) ?_;refine Li 0 Z Z underlying51 BU Z Z Z Z (by rfl) Bc ?_;rintro n k e i g;refine(O 1) ?_;refine Ie Z Z underlying51 BU Z Bc Z Z (g) (Bp.Agf (l:=[]) i e Z Bc) (Src.Agh underlying51 (h.ext g) (by rw[DF,Ic]) Lx Bc) CE J ?_;rintro m w' a d _ _;refine(O 2∘Bu) ?_;rw[FW]at a;exact⟨a,d⟩
end
section
open Go.Shelf
def Gr(w w':Ad):Prop:=Bf w w'/\w.drawn<=w'.drawn
def Gr.refl(w:Ad):Gr w w:=⟨Bf.refl w,Bq _⟩
def Gr.trans{a b c:Ad}(h:Gr a b)(k:Gr b c):Gr a c:=⟨h.1.trans k.1,BF h.2 k.2⟩
def Gr.drewN(w:Ad)(m:Y):Gr w (w.drewN m):=⟨Bf.drewN w m,by show w.drawn<=w.drawn+m;omega⟩
def Gr.alloc(w:Ad)(o:Obj):Gr w (w.alloc o):=⟨Bf.alloc w o,Bq _⟩
def Gr.grow{w w':Ad}(h:Gr w w'):∃q os,w'=Go.Sort.grow (w.drewN q) os:=by
 obtain⟨⟨p,o,n,y,x⟩,v⟩:=h;obtain⟨d,l,g,os,r⟩:=w;obtain⟨a,j,f,t,m⟩:=w';simp only at p o n y x v;subst p o n;refine⟨f-g,a.extract d.size a.size,?_⟩
 have e:d++a.extract d.size a.size=a:=by
  apply Array.ext_getElem?;intro i;by_cases A:i<d.size
  .grind
  .grind
 unfold Go.Sort.grow World.drewN;simp_all
def KA{α:Type}{cells:α->Bm}{k:Y}(hk:∀x,Aim (cells x)=k):∀l:Ae α,Aim (l.flatMap cells)=Aim l*k
 |[]=>by simp
 |x::l=>by
  have ih:=KA hk l;grind
section
variable{α:Type}[Inhabited α]{cells:α->Bm}{k:Y}
def gI(hk:∀x,Aim (cells x)=k)(a:0<k)(l:Ae α):(Go.Sort.flatK cells k l.toArray).toList=l.flatMap cells:=by
 have e:=KA hk l;apply GU;intro t;by_cases d:t<Aim l*k
 .have i:t/k<Aim l:=by rw[Nat.div_lt_iff_lt_mul a];exact d
  have h:t%k<k:=Kk _ a;have g:t/k*k+t%k=t:=by rw[OD];exact Nat.div_add_mod t k
  have f:=SD hk l (t/k) (t%k) i _ (BN (by rw[hk];exact h));rw[g]at f;have j:t<(Go.Sort.flatK cells k l.toArray).size:=by rw[Go.Sort.size_flatK];simpa using d
  have m:=Go.Sort.get_flatK cells k l.toArray t (by simpa using d);grind
 .simp_all
def zu(F:Ap Ah)(xs rest:Bm)(h:Aim xs=F.size):Go.Sort.putCells id 0 F (xs++rest).toArray=(F.toList++rest).toArray:=by
 apply Array.ext_getElem?;intro i;simp only[Go.Sort.putCells,Array.getElem?_mapIdx];grind
def nh(w:Ad)(g n:Y)(d:Ap α)(os:Ap Obj):Mo w (sortWorldK cells k w g 0 n d os) [g]:=by
 refine⟨Z,Z,Z,?_,fun j e a=>?_⟩
 .simp[sortWorldK,Go.Sort.grow,Go.Sort.putRowK,Go.Sort.putRow,Go.Sort.mapBlock,Go.Sort.ahead]
 .simp only[CG]at a;simp only[sortWorldK,Go.Sort.grow,Go.Sort.putRowK,Go.Sort.putRow,Go.Sort.mapBlock,Go.Sort.ahead];grind
def Ach{w:Ad}{g n:Y}{T:Ay}{l:Ae α}{d:Ap α}{os:Ap Obj}{rest:Bm}(hk:∀x,Aim (cells x)=k)(a:0<k)(e:Bk w g T (l.flatMap cells++rest))(h:d.size=Aim l):
 Bk (sortWorldK cells k w g 0 n d os) g T (d.toList.flatMap cells++rest):=by
 have f:=e.lt;obtain⟨m,j,o⟩:=e
 have i:(Go.Sort.flatK cells k d).toList=d.toList.flatMap cells:=by
  have:=gI hk a d.toList;simpa using this
 refine⟨m,?_,?_⟩
 .simp only[sortWorldK,Go.Sort.grow,Go.Sort.putRowK,Go.Sort.putRow,Go.Sort.mapBlock,Go.Sort.ahead];rw[Array.getElem?_append_left Bh,VY,Ai Z,j];simp only[FO,Go.Sort.onCells];rw[zu _ _ _ (by rw[KA hk,Go.Sort.size_flatK,h]),i]
 .have q:=KA hk l;have p:=KA hk d.toList;grind
def VC {P:AE} {ρ:Ren} (L:SlLaysF0.n6 P ρ) {f:Y} (a2:ρ.f 6=f) {fn:Func} (hf:P.funcs[f]? =X fn) (hn:(!(fn.name== "runtime.NumGoroutine") && fn.body.isSome)=Af) {e:Ay} (he:ρ.t 24=e) {bs:Y} {z:Ah} {d:TypeDesc} (hu:P.underlying e=X d) (a1:flat d=Aj) (hi:TI P e z k bs) (Q:0<k)
 (hk:∀x,Aim (cells x)=k) (h1:∀x,∀v∈cells x,v.oneCell'=Af) (K:α->α->H) (hO:Go.Sort.SWO (fun a b=>decide (K a b<0)))
 {g:Y} {gf:Func} (hg:P.funcs[g]? =X gf) (a0:(!(gf.name== "runtime.NumGoroutine") && gf.body.isSome)=Af) (B:Y) (l:Ae α) (hl:Aim l<=1000000000) (v:Ah) (w:Ad) (C:Bp w B e k v (Aim l) (l.flatMap cells))
 (hc:∀W x y,Mo w W v.ownBlock.toList->Bn P g [.agg (cells x).toArray,.agg (cells y).toArray] W fun r W'=>r=.int .i64 (K x y)/\Gr W W'):
 Bn P f [v,.func (.func g) #[] #[]] w fun r w'=>r=.tuple #[]/\∃l':Ae α,l'.Perm l/\(∀i j (hi:i<Aim l') (hj:j<Aim l'),i<j->¬K l'[j] l'[i]<0)/\Bp w' B e k v (Aim l) (l'.flatMap cells)/\Mo w w' v.ownBlock.toList:=by
 subst a2 he;by_cases N:l=[]
 .subst N
  obtain⟨p,o,hv⟩:∃p o,v=.slice p 0 o:=by
   rcases C.2 with⟨rfl,_⟩|⟨q,o,_,rfl,_⟩
   .simp
   .simp
  have h:=AnyF.slices_SortFunc_none (P:=P) (ρ:=ρ) { L with } p o (.func (.func g) #[] #[]) w
  have hR:Bn P (ρ.f 6) [v,.func (.func g) #[] #[]] w fun r w'=>r=.tuple #[]/\w'=w:=by
   subst hv;exact GY hf hn (h.mono fun _ _ q=>q)
  refine hR.mono ?_;rintro r w'⟨rfl,rfl⟩;exact⟨Z,[],Nf.refl _,fun i j hi=>by simp,C,Mo.refl _ _⟩
 .have a7:0<Aim l:=Kg.2 N;have D:=KA hk l;obtain⟨b,o,rest,rfl,hB,hb,hr,ai,a3⟩:=C.blk (by simp_all);have aj:=hb.lt;have af:l.flatMap cells++rest=l.flatMap cells++rest:=rfl
  have hH:Go.Sort.HoldsK cells k w b 0 l.toArray:=by
   intro j hj;rw[Go.Sort.size_flatK]at hj;have S:j<Aim l*k:=by simpa using hj
   have hF:=gI hk Q l;have hs:j<(Go.Sort.flatK cells k l.toArray).size:=by rw[Go.Sort.size_flatK];exact hj
   have T:(Go.Sort.flatK cells k l.toArray)[j]! =(l.flatMap cells)[j]'(by rw[D];exact S):=by
    rw[getElem!_pos _ j hs];have:(Go.Sort.flatK cells k l.toArray).toList[j]'J=(l.flatMap cells)[j]'(by rw[D];exact S):=by simp[hF]
    simpa using this
   rw[T,FW];refine⟨hb.cell_of ?_,hb.free j Bh⟩;rw[FA J,BN];rfl
  have a4:CmpLays P g #[] cells k K b 0 l.toArray.size w:=fun m E dk a8 x y=>by
   have h2:=(hc _ x y (by simpa[Value.ownBlock]using nh (cells:=cells) (k:=k) w b m dk E)).2;refine h2.mono fun e w' q=>?_;obtain⟨v,rfl,rfl,ao⟩:=q;obtain⟨q,a6,e2⟩:=ao.grow;grind
  have h:=AnyQ.slices_SortFunc L k (fun w=>by rw[MN hu,a1];rfl) (fun w=>Fj hi) cells hk h1 K hO g #[] b 0 o l.toArray w (fun ab w=>Ri hg a0 ab) a4 hH aj Bh;have G:l.toArray.size=Aim l:=Bl;rw[G]at h
  have hR:Bn P (ρ.f 6) [.slice (X ⟨b,0,Aa⟩) (Aim l) o,.func (.func g) #[] #[]] w fun r w'=>r=.tuple #[]/\∃A n E,Go.Sort.PermIn 0 (Aim l) l.toArray A/\Go.Sort.SortedIn (ltOf K) 0 (Aim l) A/\w'=sortWorldK cells k w b 0 n A E:=
   GY hf hn (h.mono fun _ _ q=>q)
  refine hR.mono ?_;rintro r w'⟨rfl,A,n,E,hp,hs,rfl⟩;have hd:A.size=Aim l:=by rw[hp.1,G]
  have I:A.toList.Perm l:=by
   have V:=hp.2.2;have e1:A.extract 0 (Aim l)=A:=by rw[<-hd];exact Array.extract_size
   have e2:l.toArray.extract 0 (Aim l)=l.toArray:=by rw[<-G];exact Array.extract_size
   rw[e1,e2]at V;simpa using V
  have a5:=Ach (n:=n) (os:=E) hk Q hb hd;refine⟨Z,A.toList,I,fun i j hi hj al=>?_,⟨Bh,.inr ⟨b,o,rest,Z,hB,a5,?_,ai,a3⟩⟩,by simpa[Value.ownBlock]using nh (cells:=cells) (k:=k) w b n A E⟩
  .have V:=hs i j (BD _) al Bh;rw[getElem!_pos A j (by simpa using hj),getElem!_pos A i J]at V;simpa[ltOf]using V
  .grind
end
end
section
attribute [local irreducible] OW KW QW EX GW NV
open Bz
abbrev Mk:=H×H
def Fy(t:Mk):Bm:=[U t.1,U t.2]
def IS(a b:Mk):H:=if a.1≠b.1 then a.1-b.1 else a.2-b.2
def ou(a b:Mk):([decide (a.1=b.1),decide (a.2=b.2)].all id)=decide (a=b):=by
 grind
def Lk(t:Mk):Prop:=-4000000000000<=t.1/\t.1<=4000000000000/\0<=t.2/\t.2<=4000000000000
def dA(x y:Mk)(hx:Lk x)(q:Lk y)(W:Ad):Bn prog 288 [.agg (Fy x).toArray,.agg (Fy y).toArray] W fun r W'=>r=U (IS x y)/\Gr W W':=by
 obtain⟨A,w,v,t⟩:=hx;obtain⟨p,o,n,m⟩:=q;refine Bw func288 Z ntmps288 Be Z ?_;refine(O 2∘Zv (by exact EX.box (l:=Fy x) Z Z)) ?_;have f:=Bk.new W 378 (Fy x);have k:=Gr.alloc W (.cells (Fy x).toArray 378);generalize C:W.alloc (.cells (Fy x).toArray 378)=w1 at f k;refine(Zv (by exact EX.box (l:=Fy y) Z Z)∘O 5) ?_;have d:=Bk.new w1 378 (Fy y);have h:=Gr.alloc w1 (.cells (Fy y).toArray 378);have a:=f.ext h.1;generalize B:w1.alloc (.cells (Fy y).toArray 378)=w2 at d h a;have j:=k.trans h;refine(Zv (Cf a)∘Zv (Cf d)∘Zv (by exact Tx underlying378 Be Be Z Z (.cons Bc underlying3 Z Z Z (Lu underlying3) (.cons Bc underlying3 Z Z Z (Lu underlying3) .nil)) Z)∘O 1∘Cw 7 (.bool (decide (x=y))) (e:=by exact Ar Value.bool (ou x y)))<|Zi (fun i=>?_) fun i=>?_
 .subst i;have e:IS x x=0:=by unfold IS;rw[Ag Bl];omega
  refine(O 4∘Bu) ?_;grind
 .refine(O 10)<|Zi (fun g=>?_) fun g=>?_
  .have e:IS x y=x.1-y.1:=Ai g;refine(O 9∘Bu) ?_;rw[e];exact⟨Z,j⟩
  .have e:IS x y=x.2-y.2:=Ag g;refine(O 10∘Bu) ?_;rw[e];exact⟨Z,j⟩
def HX(t:Tr):Mk:=((t.1:H),(t.2:H))
def DU(t:Tr):Bm:=Fy (HX t)
def Eu(l:Ae Tr):Bm:=l.flatMap DU
def Aek{a b:Tr}(h:HX a=HX b):a=b:=by
 unfold HX at h;grind
def PI(l:Ae Tr):Aim (Eu l)=Aim l*2:=KA (k:=2) (fun _=>rfl) l
def sg(a b:Tr):IS (HX a) (HX b)<0↔Gt a b=Af:=by
 unfold IS Gt HX;grind
def bp{l:Ae Tr}{i:Y}(h:i<Aim l){j:Y}{u:Ah}(hu:(DU l[i])[j]? =X u):(Eu l)[i*2+j]? =X u:=SD (cells:=DU) (c:=2) (fun _=>rfl) l i j h u hu
def Sc(l:Ae Tr):Prop:=∀t∈l,t.1<=4000000000000/\t.2<=1000000
def ot{l:Ae Tr}(h:Sc l){t:Tr}(ht:t∈l):Lk (HX t):=by
 have:=h t ht;unfold Lk HX;omega
def xB{l:Ae Tr}{i:Y}(h0:0<i)(hi:i<Aim l):ES (l.take (i+1))=if Gt l[i] (ES (l.take i))then l[i]else ES (l.take i):=by
 rw[<-CR hi];cases hq:l.take i with
 |nil=>
  have:=Ar DW hq;grind
 |cons a r=>
  simp only[FM,ES,Qd,LZ,List.foldl_nil];rfl
def xC(l:Ae Tr)(h0:0<Aim l)(hn:Aim l<=1000000)(I:Sc l)(g c:Y)(rest:Bm)(w:Ad)(h:Bk w g 378 (Eu l++rest)):
 Bn prog 304 [.slice (X ⟨g,0,Aa⟩) (Aim l) c,.func (.func 288) #[] #[]] w fun v w'=>v=.agg (DU (ES l)).toArray/\Bf w w':=by
 have A:∀W,Bf w W->∀i (hi:i<Aim l),∀j u,(DU l[i])[j]? =X u->W.cell? ⟨g,0+i*2+j,Aa⟩=X u:=fun W hW i hi j u hu=>by
  refine(h.ext hW).cell_of ?_;have:=bp hi hu;grind
 refine Bw func304 Z ntmps304 Be Z ?_;refine(O 2∘Zn) ?_;rintro T w0 aj G o;refine(O 8)<|Zi (fun hz=>?_) fun hz=>?_
 .omega
 .refine(O 5∘Zv (Do (DU l[0]) (A w0 o 0 h0))∘Zn) ?_;rintro B w1 ai af C;refine(Zs af (hlt:=Bq _)) ?_;rintro w2 N n;refine(O 7) ?_;replace N:Bk w2 B 378 (DU l[0]):=N;have x1:=o.trans C;have al:=o.size;have x2:Bf w w2:=Bv x1 n x1.size Bx;have D:T≠B:=by have:=G.lt;omega
  have ab:=(G.ext C).mo n (by simpa using D);refine Lo (fun((i,wr):Y×Ad)=>(1<=i/\i<=Aim l/\Bk wr B 378 (DU (ES (l.take i)))/\Bk wr T 378 [U 0,U 0]/\Bf w wr,[(0,.slice (X ⟨g,0,Aa⟩) (Aim l) c),(1,.func (.func 288) #[] #[]),(4,.pointer (X ⟨T,0,Aa⟩)),(5,.pointer (X ⟨B,0,Aa⟩)),(6,U i)],wr,Aim l-i)) (1,w2) ?_ ?_
  .refine⟨Bq _,h0,?_,ab,x2⟩
   have e:ES (l.take 1)=l[0]:=by
    cases l with
    |nil=>grind
    |cons a r=>rfl
   grind
  .rintro⟨i,wr⟩⟨h1,h2,Q,hr,V⟩;refine(O 8)<|Zi (fun y=>?_) fun y=>?_
   .have f:=xB h1 y
    have P:ES (l.take i)∈l:=by
     refine HH (Zk (l.take i) (fun e=>?_)).1;have:=Ar DW e;rw[BY,EZ]at this;omega
    have o1:=ot I (BM y);have o2:=ot I P;have d:=sg l[i] (ES (l.take i));generalize ES (l.take i)=m at Q f o2 d;refine(O 4) ?_;refine Kf 6 Be Be<|HW.val Z Z (EX.move Z)<|HW.val Z Z (EX.move Z)<|HW.val Z Z (EX.move Z)<|HW.val Z Z (MZ underlying376 Jh Z Z J)<|HW.val Z Z (KT (l:=DU l[i]) underlying378 Z Jh Z Z (A wr.drew (V.trans (Bf.drew wr)) i y))<|HW.val Z Z (Jl underlying378 Z Jh Z (Q.drew) (Z))<|HW.tail<|(Ea (dA (HX l[i]) (HX m) o1 o2 wr.drew)) ?_;rintro _ w3⟨rfl,x⟩;refine(O 2) ?_;have S:=(V.trans (Bf.drew wr)).trans x.1;have L:=Q.drew.ext x.1;have E:=hr.drew.ext x.1;refine Zi (fun hl=>?_) fun hl=>?_
    .rw[Ai (d.1 hl)]at f;refine(O 4∘Zv (Do (DU l[i]) (A w3 S i y))∘Zs L (hlt:=Bq _)) ?_;rintro w4 t k;refine(O 7) ?_;replace t:Bk w4 B 378 (DU l[i]):=t;refine Lb ((i+1),w4) ?_;dsimp only;rw[f];exact⟨J,y,t,E.mo k (by simpa using D),Bv S k S.size Bx⟩
    .rw[Ag (fun q=>hl (d.2 q))]at f;refine(O 7)<|Lb ((i+1),w3) ?_;dsimp only;rw[f];exact⟨J,y,L,E,S⟩
   .obtain rfl:i=Aim l:=J;rw[DY]at Q;refine(O 3∘Zv (Cf Q)∘Zs hr (hlt:=Bq _)) ?_;rintro w5 p K;refine(O 1) ?_;replace p:Bk w5 T 378 (DU (ES l)):=p;refine(Kn p) ?_;exact⟨Z,Bv V K V.size Bx⟩
def vi(l:Ae Tr)(t:Tr)(ht:t∈l)(E:Aim l<=1000000)(g c:Y)(rest:Bm)(w:Ad)(h:Bk w g 378 (Eu l++rest)):
 Bn prog 305 [.slice (X ⟨g,0,Aa⟩) (Aim l) c,.agg (DU t).toArray] w fun v w'=>v=U ((l.idxOf t:Y):H)/\Bf w w':=by
 have n:∀W,Bf w W->∀i (m:i<Aim l),∀j u,(DU l[i])[j]? =X u->W.cell? ⟨g,0+i*2+j,Aa⟩=X u:=fun W C i m j u B=>by
  refine(h.ext C).cell_of ?_;have:=bp m B;grind
 refine Bw func305 Z ntmps305 Be Z ?_;refine(O 2) ?_;refine DB Z Z Z ?_;rintro o x q A y;refine(O 10)<|Lo (fun((i,wr):Y×Ad)=>(i<=Aim l/\t∉l.take i/\Bk wr o 378 (DU t)/\Bf w wr,[(0,.slice (X ⟨g,0,Aa⟩) (Aim l) c),(3,.pointer (X ⟨o,0,Aa⟩)),(6,.slice (X ⟨g,0,Aa⟩) (Aim l) c),(7,U ((Aim l:Y):H)),(8,U i)],wr,Aim l-i)) (0,x) ?_ ?_
 .grind
 .rintro⟨i,wr⟩⟨m,a,p,k⟩;refine(O 5)<|Zi (fun f=>?_) fun f=>?_
  .refine KW.skip (Ek (KW.block (Ek (KW.region ?_))));refine OW.val Z Z (EX.move Z) ?_;refine OW.val Z Z (CI Z) ?_;refine OW.nil ?_;refine Ek ?_;refine Ws Be Be ?_;refine QW.val Z Z (fun _=>Jl underlying378 Z Jh Z (p.drewN _) (Z)) ?_;refine QW.val Z Z (fun _=>EX.move Z) ?_;refine QW.val Z Z (fun _=>EX.move Z) ?_;refine QW.val Z Z (fun _=>MZ underlying376 Jh Z Z J) ?_;refine QW.val Z Z (fun _=>KT (l:=DU l[i]) underlying378 Z Jh Z Z (n _ (k.trans (Bf.drewN wr _)) i f)) ?_;refine QW.val Z Z (fun _=>Tx underlying378 Be Be Z Z (.cons Bc underlying3 Z Z Z (Lu underlying3) (.cons Bc underlying3 Z Z Z (Lu underlying3) .nil)) Z) ?_;refine QW.nil (fun D=>?_);refine KW.as 16 (.bool (decide (HX t=HX l[i]))) Z (Ar Value.bool (ou (HX t) (HX l[i]))) ?_;refine TE Z (fun r=>?_) (fun r=>?_)
   .have e:=Aek r
    have d:l.idxOf t=i:=by
     rw[show l=l.take i++l.drop i by simp,List.idxOf_append,Ag a,Ds f,<-e,List.idxOf_cons_self,BY];omega
    refine(O 5∘Bu) ?_;rw[d];exact⟨Z,k.trans (Bf.drewN _ _)⟩
   .refine(O 6)<|Lb ((i+1),_) ?_;refine⟨f,?_,p.drewN _,k.trans (Bf.drewN _ _)⟩;rw[<-CR f,Dz,CG];grind
  .exfalso;grind
def To(a b:Ae Tr):Eu (a++b)=Eu a++Eu b:=Ia ..
def Ael{l:Ae Tr}{k:Y}(t:Tr)(h:k<Aim l)(rest:Bm):(Eu l++rest).take (k*2)++DU t++(Eu l++rest).drop (k*2+Aim (DU t))=Eu (l.set k t)++rest:=by
 have a:l=l.take k++l[k]::l.drop (k+1):=by rw[List.getElem_cons_drop,Ho]
 have i:l.set k t=l.take k++t::l.drop (k+1):=by
  conv=>lhs;rw[a]
  rw[Md _ _ Bh,BY,Hq J,EP,IN]
 have e:Aim (Eu (l.take k))=k*2:=by rw[PI,BY,Hq J]
 have g:Eu l=Eu (l.take k)++(DU l[k]++Eu (l.drop (k+1))):=by
  conv=>lhs;rw[a,To]
  rfl
 have f:Eu (l.set k t)=Eu (l.take k)++(DU t++Eu (l.drop (k+1))):=by
  rw[i,To];rfl
 have d:Aim (DU t)=Aim (DU l[k]):=rfl;rw[g,f,d];generalize Eu (l.take k)=P at e;grind
def ue{l:Ae Tr}{k:Y}(h:k<Aim l):Eu (l.set k (l.getLastD default))=Eu (Bz.fillL l k)++DU ((l.set k (l.getLastD default)).getLastD default):=by
 unfold Bz.fillL
 have a:l.set k (l.getLastD default)≠[]:=fun e=>by
  simp_all
 generalize l.set k (l.getLastD default)=m at a ⊢
 conv=>lhs;rw[<-List.dropLast_concat_getLast a]
 rw[To];congr 1;rw[List.getLastD_eq_getLast?,List.getLast?_eq_some_getLast a];rfl
def gF(l:Ae Tr)(h0:0<Aim l)(hn:Aim l<=100000)(a6:Sc l)(A B:Y)(v:Ah)(w:Ad)(ht:Bk w A 376 [v])(T:Bp w B 378 2 v (Aim l) (Eu l)):
 Bn prog 303 [.pointer (X ⟨A,0,Aa⟩)] w fun r w'=>r=.agg (DU (Dl l).1).toArray/\∃v',Bk w' A 376 [v']/\Bp w' B 378 2 v' (Aim (Dl l).2) (Eu (Dl l).2)/\v'.ownBlock=v.ownBlock/\Mo w w' (A::v.ownBlock.toList):=by
 obtain⟨g,a,rest,rfl,bh,hg,V,b2,bc⟩:=T.blk (by rw[PI];omega);have bb:A≠g:=ht.ne hg Bl;have E:=Zk l (fun e=>by grind);have hk:=Qf E.1;have C:Dl l=(ES l,Bz.fillL l (l.idxOf (ES l))):=rfl;have y:=Bz.fillL_length l (l.idxOf (ES l));rw[PI]at V;refine Bw func303 Z ntmps303 Be Z ?_;refine(O 2∘Zn) ?_;rintro N w0 bn Q p;refine(O 3∘Zv (Bo (ht.ext p))∘Zc (xC l h0 J a6 g a rest w0 (hg.ext p))) ?_;rintro _ w1⟨rfl,G⟩;refine(Zn) ?_;rintro mb w2 bm ba P;refine(Zs ba (hlt:=Bq _)) ?_;rintro w3 x D;refine(O 3) ?_;replace x:Bk w3 mb 378 (DU (ES l)):=x;have x1:=p.trans G;have x2:=x1.trans P;have bq:=x1.size;have x3:Bf w w3:=Bv x2 D x2.size Bh;have bx:N≠mb:=by have:=(Q.ext G).lt;omega
 have a5:=((Q.ext G).ext P).mo D Bh;have a0:=ht.ext x3;have af:=hg.ext x3;refine(O 1∘Zv (Cf x)∘Zc (vi l (ES l) E.1 J g a rest w3 af)) ?_;rintro _ w4⟨rfl,h⟩;refine(O 3) ?_;have K:l[l.idxOf (ES l)]=ES l:=TN hk;generalize b1:l.idxOf (ES l)=k at hk C y K;have t:=a0.ext h;have ab:=af.ext h;have a9:=x.ext h;have a4:=a5.ext h;have x4:=x3.trans h;have n:Aim l-1<Aim l:=J
 have bf:l.getLastD default=l[Aim l-1]:=by
  rw[List.getLastD_eq_getLast?,dc,BN n];rfl
 have bl:∀j u,(DU l[Aim l-1])[j]? =X u->w4.drew.cell? ⟨g,0+(Aim l-1)*2+j,Aa⟩=X u:=fun j u hu=>by
  refine ab.drew.cell_of ?_;have:=bp n hu;grind
 have o:Aim (Eu l++rest)=a*2:=by rw[BA,PI];exact V
 refine Kf 9 Be Be<|HW.val Z Z (Cg underlying376 Z Z (t.drew.cell_of Z))<|HW.val Z Z (EX.move Z)<|HW.val Z Z (Cg underlying376 Z Z (t.drew.cell_of Z))<|HW.val Z Z (Cg underlying376 Z Z (t.drew.cell_of Z))<|HW.val Z Z (PU underlying376 Z)<|HW.val Z Z (by first|exact Kb (b:=1) (m:=9223372036854775807) Z Z Z J|exact RG (m:=9223372036854775807) Z Z Z Z J)<|HW.val Z Z (MZ underlying376 Jh Z Z J)<|HW.val Z Z (KT (l:=DU l[Aim l-1]) underlying378 Z Jh Z Z bl)<|HW.val Z Z (MZ underlying376 Jh Z Z J)<|HW.tail<|(Zs ab.drew (hlt:=by rw[o];show 0+k*2+2<=a*2;omega)) ?_;rintro w5 W f;refine(O 3) ?_;rw[FW,Ael _ hk,<-bf,ue hk,Cq]at W;have ao:=t.drew.mo f (by simpa using bb);have b0:mb≠g:=by have:=(hg.ext x1).lt;omega
 have a1:N≠g:=by have:=hg.lt;omega
 have a8:=a9.drew.mo f Bh;have a3:=a4.drew.mo f (by simpa using a1);refine(O 4∘Zv (by exact Wg underlying376 Jh Z Z ⟨J,J⟩)∘Zt ao) ?_;rintro w6 al d;refine(O 3) ?_;have bs:mb≠A:=by have:=(ht.ext x1).lt;omega
 have ai:N≠A:=by have:=ht.lt;omega
 have a7:=a8.mo d Bh;have a2:=a3.mo d (by simpa using ai);have bj:=W.mo d Bh;refine(Zv (Cf a7)∘Zs a2 (hlt:=Bq _)) ?_;rintro w7 I i;refine(O 1) ?_;replace I:Bk w7 N 378 (DU (ES l)):=I;have bi:=bj.mo i Bh;have aj:=al.mo i Bh;refine(Kn I) ?_;rw[C];refine⟨Z,.slice (X ⟨g,0,Aa⟩) (Aim l-1) a,aj,?_,Z,?_⟩
 .rw[y];refine⟨by rw[PI,y],.inr ⟨g,a,_,Z,bh,bi,?_,J,bc⟩⟩;have:Aim (Eu l++rest)=a*2:=o;rw[BA,PI]at this;rw[BA,PI,y];show(Aim l-1)*2+(2+Aim rest)=a*2;omega
 .have m1:Mo w w4.drew []:=Mo.Age (x4.trans (Bf.drew w4)) [];have hz:=p.size;refine Mo.fresh (S:=[A,g,N]) (((((m1.mono Bl).trans (f.mono Bl)).trans (d.mono Bl)).trans (i.mono Bl))) (fun q hq L=>?_);simp only[List.mem_cons,List.not_mem_nil,or_false]at hq;rcases hq with rfl|rfl|rfl
  .simp
  .simp[Value.ownBlock]
  .omega
def Agd{l:Bi}{i:Y}(h:i<Aim l):l.zipIdx.take (i+1)=l.zipIdx.take i++[(l[i],i)]:=by
 rw[<-CR (by simp_all),List.getElem_zipIdx,FW]
def uf{α:Type}{f:Y->α}{z:α}{n i:Y}(h:i<n):(fill f z n i).set i z=fill f z n i:=by
 unfold fill;simp
def Aen{n next M W:Y}{a:Ae Tr}{d:Bi}{ht:Y->Y}(h:Gw n a d next ht M W)(i:n<=258)(hW:W<=4000000000000):Sc a:=fun t e=>by
 have g:=nB (List.mem_map_of_mem (f:=(·.1)) e);rw[h.tot]at g;have k:=h.lt t e;have j:=h.sum;omega
def Bk.Ags{w w':Ad}{b tb:Y}{T:Ay}{l:Bm}{v:Ah}(h:Bk w b T l)(hm:Mo w w' (tb::v.ownBlock.toList))(h1:b≠tb)(h2:∀k,v.ownBlock=X k->b≠k):Bk w' b T l:=
 h.mo hm (fun q=>by
  grind)
def Bf.Ags{w0 w w':Ad}{tb s n:Y}{T:Ay}{v:Ah}{xs:Bm}(hx:Bf w0 w)(hm:Mo w w' (tb::v.ownBlock.toList))(h1:w0.heap.size<=tb)(h2:Bp w w0.heap.size T s v n xs):Bf w0 w':=
 Bv hx hm hx.size (fun k q=>by
  rcases List.mem_cons.1 q with q|q
  .omega
  .exact(h2.lt k (Fb.1 q)).1)
def uO{f:Y}{a:Ae Tr}{d:Bi}{next:Y}(h:Aim a<=1):grow f a d next=d:=by
 cases f with
 |zero=>rfl
 |succ f=>rw[grow,Ai h]
def lG(l:Ae Tr):Aim (Dl l).2=Aim l-1:=Bz.fillL_length _ _
def uP(l:Bi)(h2:2<=Aim l)(h3:Aim l<=258)(bn:∀x∈l,1<=x/\x<=1073741824)(A:Av AC)(c C:Y)(w:Ad)(hs:Sl w C A (BC .i64 l)):
 Bn prog 285 [.slice A (Aim l) c] w fun v w'=>CV w' w.heap.size v (Bz.grown l)/\Bf w w':=by
 obtain⟨b,f,rfl,_,dn⟩:=hs.intAt J
 have hW:CU l<=4000000000000:=by
  have:=VF (l:=l) (m:=1073741824) (fun x r=>(bn x r).2);have:=OF 1073741824 h3;omega
 refine Bw func285 Z ntmps285 Be Z ?_;refine(O 6∘Ml) ?_;rintro tb w1 a8 c6 c2;refine(O 9)<|Lo (fun((i,v,wr):Y×Ah×Ad)=>(i<=Aim l/\Bk wr tb 376 [v]/\Bp wr w.heap.size 378 2 v i (Eu (l.zipIdx.take i))/\Bf w wr,[(0,.slice (X ⟨b,f,Aa⟩) (Aim l) c),(3,.pointer (X ⟨tb,0,Aa⟩)),(14,.slice (X ⟨b,f,Aa⟩) (Aim l) c),(15,.int .i64 ((Aim l:Y):H)),(16,.int .i64 i)],wr,Aim l-i)) (0,(.slice Aa 0 0),w1) ?_ ?_
 .exact⟨BD _,c6,Bp.nil _ _ _ _,c2⟩
 .rintro⟨i,v,wr⟩⟨hi,S,h,r⟩;refine(O 5)<|Zi (fun hc=>?_) fun hc=>?_
  .have b4:=Agd hc;have c1:=bn _ (BM hc);have ba:=dn wr r i hc;generalize l[i]=x at b4 c1 ba;refine(O 7∘Zv (BZ ba)∘O 8∘Ko r h) ?_;rintro _ v2 w2 b3 p db;have ca:=S.push db (h.ne S Bc);refine(Zt ca) ?_;rintro w3 V D;refine(O 6)<|Lb ((i+1),v2,w3) ?_
   have I:Bp w2 w.heap.size 378 2 v2 (i+1) (Eu (l.zipIdx.take (i+1))):=by
    rw[b4,To];exact b3
   exact⟨hc,V,I.mo D (fun q hq=>by simp;exact fun z=>I.ne ca Bc q hq z.symm),Bv p D p.size Bx⟩
  .obtain rfl:i=Aim l:=J;have cz:l.zipIdx.take (Aim l)=l.zipIdx:=DA Bl;rw[cz]at h;have cx:Aim l.zipIdx=Aim l:=TO;refine(O 6∘Gf) ?_;rintro T w2 d7 ch p;refine(O 10∘Zv (by exact Gc Z Z)∘O 4) ?_;rw[show BG (2*Aim l) (.int .i64 0)=BC .i64 (BG (2*Aim l) 0)from(KB _ _ _).symm]at ch;have ef:=r.size;have bx:(BE (Aim l)).map (Fu (grow (Aim l) l.zipIdx (BG (2*Aim l) 0) (Aim l)) (2*Aim l))=Bz.grown l:=rfl;have co:=ny (fun x r=>(bn x r).1) (show 1<=Aim l by omega);obtain⟨g1,g2,g3,g4⟩:=jg (Aim l) (Aim l) _ _ _ _ _ _ co (by rw[TO];omega) (by rw[TO];omega);generalize dv:grow (Aim l) l.zipIdx (BG (2*Aim l) 0) (Aim l)=k8 at bx g1 g2 g3;refine Lo (fun((g,k,next,v,wr):(Ae Tr)×(Bi)×Y×Ah×Ad)=>((∃f S M,Gw (Aim l) g k next S M (CU l)/\Aim g<=f+1/\1<=Aim g/\grow f g k next=k8)/\Bk wr tb 376 [v]/\Bp wr w.heap.size 378 2 v (Aim g) (Eu g)/\Bk wr T 3 (BC .i64 k)/\Bf w wr,[(0,.slice (X ⟨b,f,Aa⟩) (Aim l) c),(3,.pointer (X ⟨tb,0,Aa⟩)),(6,.slice (X ⟨T,0,Aa⟩) (2*Aim l) (2*Aim l)),(7,.int .i64 next),(8,.func (.func 303) #[] #[.pointer (X ⟨tb,0,Aa⟩)])],wr,Aim g)) (l.zipIdx,(BG (2*Aim l) 0),Aim l,v,w2) ?_ ?_
   .exact⟨⟨_,_,_,co,J,J,dv⟩,S.ext p,by rw[cx];exact h.ext p,ch,r.trans p⟩
   .rintro⟨g,k,next,v,wr⟩⟨⟨fu,ee,M,hG,en,em,E⟩,S,h,ho,r⟩;have W:=Aen hG h3 hW;have d0:=hG.sum;have d2:=hG.low;have d1:=hG.len;obtain⟨A0,c0,b8,_,_⟩:=h.slice;have d3:Aim g<=1000:=J;have c4:Bk wr tb 376 [.slice A0 (Aim g) c0]:=by rw[<-b8];exact S
    refine(O 7)<|Zi (fun dg=>?_) fun dg=>?_
    .obtain⟨f',rfl⟩:∃f',fu=f'+1:=⟨fu-1,J⟩;have cc:=hG.step J (a:=(Dl g).1) (b:=(Dl (Dl g).2).1) (l1:=(Dl g).2) (l2:=(Dl (Dl g).2).2) Z Z;rw[grow,Ag J]at E;have ei:=lG g;have da:=lG (Dl g).2;have ce:=cc.1
     have cf:Sc (Dl g).2:=fun t S=>by
      have c9:g≠[]:=fun e=>by grind
      exact W t ((ZW c9).1.symm.subset (El _ S))
     have a5:=W (Dl g).1 (ce.symm.subset Bl);have a0:=W (Dl (Dl g).2).1 (ce.symm.subset Bl);have c3:v.ownBlock=(Value.slice A0 (Aim g) c0).ownBlock:=by rw[b8]
     refine(O 5∘Ea (gF g J J W tb w.heap.size _ wr c4 Bh)) ?_;rintro _ w3⟨rfl,v3,V,G,dk,D⟩;refine(O 1) ?_;rw[<-c3]at dk D;have B:=ho.Ags D (ho.ne S Bc) (h.ne ho Bc);have x3:=r.Ags D a8 h;refine(Ea (gF (Dl g).2 J J cf tb w.heap.size v3 w3 V G)) ?_;rintro _ w4⟨rfl,v4,c5,ai,eo,cn⟩;have bl:=B.Ags cn (B.ne V Bc) (G.ne B Bc);have x4:=x3.Ags cn a8 G;obtain⟨_,s2,s3,s4,s5,s6⟩:=cc;generalize(Dl g).1=a at s2 s3 s4 s6 E a5;generalize(Dl (Dl g).2).1=bb at s2 s3 s4 s6 E a0;generalize(Dl (Dl g).2).2=l2 at s6 E da ai;refine(Zn) ?_;rintro ab w5 d5 cs b6;refine(Zn) ?_;rintro bk w6 d4 cp b5;have ep:ab≠bk:=by have:=cs.lt;omega
     refine(Zs (cs.ext b5) (hlt:=Bq _)) ?_;rintro w7 bs cl;replace bs:Bk w7 ab 378 (DU a):=bs;refine(Zs (cp.mo cl Bh) (hlt:=Bq _)) ?_;rintro w8 o ck;refine(O 2) ?_;replace o:Bk w8 bk 378 (DU bb):=o;have cr:=bs.mo ck Bh;have y6:=b6.trans b5;have eb:=b6.size;have y7:Bf w4 w7:=Bv y6 cl y6.size Bx;have y8:Bf w4 w8:=Bv y7 ck y7.size Bx;have bj:=bl.ext y8;have b9:=c5.ext y8;have af:=ai.ext y8;have x8:=x4.trans y8;have L:T≠ab:=by have:=bl.lt;omega
     have a6:T≠bk:=by have:=bl.lt;omega
     refine(Yr 12 (fun w'=>Bk w' ab 378 (DU a)/\Bk w' bk 378 (DU bb)) (HZ cr.drew o.drew)) fun hS=>(Gv [0,1,2,3,4,5,6,7,8]∘Yt 9 bj.drew (hlt:=by rw[DF];omega)) ?_;rintro w9 cg bm;refine⟨⟨cr.drew.mo bm (by simpa using L.symm),o.drew.mo bm (by simpa using a6.symm)⟩,fun hS=>?_⟩;refine(Gv [10]) ?_;rw[Ir]at cg;refine(Yt 11 cg (hlt:=by rw[DF,HG];omega)) ?_;rintro b1 N Q;refine⟨⟨hS.1.mo Q (by simpa using L.symm),hS.2.mo Q (by simpa using a6.symm)⟩,fun hS=>?_⟩;refine(Yd∘O 2) ?_;rw[Ir]at N;have bf:Mo w8 b1 [T]:=((Mo.Age (Bf.drew w8) [T]).trans bm).trans Q;have ao:=b9.mo bf (by simpa using(bj.ne b9 Bc).symm);have n:=af.mo bf (fun q hq=>by simp;exact fun z=>af.ne bj Bc q hq z.symm);have ea:=r.size;have cu:Bf w b1:=Bv x8 bf x8.size Bx;have d9:=hS.1;have d8:=hS.2;have ka:=a5.1;have kb:=a0.1;refine(O 8∘Ko cu n) ?_;rintro _ b2 cw bc aj a9;have K:=ao.push a9 (n.ne ao Bc);have a7:=N.push a9 (n.ne N Bc);refine(Zt K) ?_;rintro cv cb P;refine(O 7) ?_
     have al:Bp cw w.heap.size 378 2 b2 (Aim (l2++[(a.1+bb.1,next)])) (Eu (l2++[(a.1+bb.1,next)])):=by
      rw[To,BA,CJ];exact bc
     refine Lb ((l2++[(a.1+bb.1,next)]),((k.set a.2 next).set bb.2 next),(next+1),b2,cv) ?_ (hm:=by dsimp only;rw[BA,CJ];omega);refine⟨⟨f',_,_,s6,by rw[BA,CJ];omega,by rw[BA,CJ];omega,E⟩,cb,al.mo P (fun q hq=>by simp;exact fun z=>al.ne K Bc q hq z.symm),a7.mo P (by simpa using a7.ne K Bc),Bv aj P aj.size Bx⟩
    .have ds:k8=k:=by rw[<-E];exact uO J
     subst ds;refine(O 5∘Gf) ?_;rintro rb w3 d6 eg b7;refine(O 10) ?_;have B:=ho.ext b7;have x3:=r.trans b7;have bi:T≠rb:=by have:=ho.lt;omega
     have ed:=r.size;refine Lo (fun((i,wi):Y×Ad)=>(i<=Aim l/\Bk wi rb 3 (fill (fun(j:Y)=>Value.int .i64 ((Fu k8 (2*Aim l) j:Y):H)) (.int .i64 0) (Aim l) i)/\Mo w3 wi [rb],[(6,.slice (X ⟨T,0,Aa⟩) (2*Aim l) (2*Aim l)),(11,.slice (X ⟨rb,0,Aa⟩) (Aim l) (Aim l)),(68,.int .i64 ((Aim l:Y):H)),(69,.int .i64 i)],wi,Aim l-i)) (0,w3) ?_ ?_
     .exact⟨BD _,Cr,Mo.refl _ _⟩
     .rintro⟨i,wi⟩⟨hi,hr,hm⟩;have eh:=B.mo hm (by simpa using bi);refine(O 5)<|Zi (fun bq=>?_) fun bq=>?_
      .refine(O 14)<|Lo (fun((a,d,f,wa):Y×Y×Y×Ad)=>(a<2*Aim l/\d<=a/\d+Fu k8 f a=Fu k8 (2*Aim l) i/\2*Aim l<=f+a/\Bk wa rb 3 ((fill (fun(j:Y)=>Value.int .i64 ((Fu k8 (2*Aim l) j:Y):H)) (.int .i64 0) (Aim l) i).set i (.int .i64 (d:H)))/\Mo w3 wa [rb],[(6,.slice (X ⟨T,0,Aa⟩) (2*Aim l) (2*Aim l)),(11,.slice (X ⟨rb,0,Aa⟩) (Aim l) (Aim l)),(12,.int .i64 i),(13,.int .i64 a),(68,.int .i64 ((Aim l:Y):H)),(69,.int .i64 i)],wa,2*Aim l-a)) (i,0,(2*Aim l),wi) ?_ ?_
       .exact⟨J,BD _,FW _,J,by rw[show Value.int .i64 ((0:Y):H)=.int .i64 0 from Z,uf bq];omega,hm⟩
       .rintro⟨a,d,f,wa⟩⟨a1,a2,a3,a4,bh,cj⟩;have L:=B.mo cj (by simpa using bi);have b0:(BC .i64 k8)[a]? =X (.int .i64 ((k8.getD a 0:Y):H)):=Fw J;have ct:=g3 a;have df:=Qz k8;generalize c7:k8.getD a 0=y at b0 ct;refine(O 6∘Zv (Bo L (hi:=b0))∘O 2)<|Zi (fun hy=>?_) fun hy=>?_
        .obtain⟨q1,q2⟩:=ct hy;obtain⟨f',rfl⟩:∃f',f=f'+1:=⟨f-1,J⟩;rw[df,c7,Ag hy]at a3;have ek:Aim (fill (fun(j:Y)=>Value.int .i64 ((Fu k8 (2*Aim l) j:Y):H)) (.int .i64 0) (Aim l) i)=Aim l:=QI hi
         have cq:((fill (fun(j:Y)=>Value.int .i64 ((Fu k8 (2*Aim l) j:Y):H)) (.int .i64 0) (Aim l) i).set i (.int .i64 (d:H)))[i]? =X (.int .i64 (d:H)):=by
          rw[List.getElem?_set_self J]
         refine(O 7∘Zv (Bo bh (hi:=cq))∘O 2∘Zt bh (hlt:=by grind)) ?_;rintro w5 cd cm;refine(O 6) ?_;rw[List.set_set]at cd;have c8:=L.mo cm (by simpa using bi);refine(Zv (Bo c8 (hi:=b0))∘O 2)<|Lb (y,(d+1),f',w5) ?_;exact⟨J,J,J,J,cd,cj.trans cm⟩
        .have ec:y=0:=Dm.1 hy
         have IT:Fu k8 f a=0:=by
          cases f with
          |zero=>rfl
          |succ f=>grind
         rw[IT,Jv]at a3;subst a3;rw[QJ (f:=fun(j:Y)=>Value.int .i64 ((Fu k8 (2*Aim l) j:Y):H)) bq]at bh;refine(O 6)<|Lb ((i+1),wa) ?_;grind
      .obtain rfl:i=Aim l:=J;rw[QH]at hr;have xi:Bf w wi:=Bv x3 hm x3.size Bx;refine(O 6∘Bu) ?_;refine⟨?_,xi⟩
       have e:BC .i64 (Bz.grown l)=(BE (Aim l)).map fun(j:Y)=>Value.int .i64 ((Fu k8 (2*Aim l) j:Y):H):=by
        rw[<-bx];unfold BC;rw[EE];rfl
       have el:Aim (Bz.grown l)=Aim l:=by rw[<-bx];simp
       unfold CV;rw[e,el];exact Bp.Agf hr J Bl CE
def Iv(F:Y->Y)(l:Bi)(i:Y):Bi:=(l.take i).map F++l.drop i
section
variable{F:Y->Y}{l:Bi}{i:Y}
def QN:Aim (Iv F l i)=Aim l:=by
 unfold Iv;grind
def vX:Iv F l 0=l:=by rfl
def kg:Iv F l (Aim l)=l.map F:=by simp[Iv]
def kf(h:i<Aim l):(Iv F l i).getD i 0=l[i]:=by
 unfold Iv;grind
def kh(h:i<Aim l):(Iv F l i).set i (F l[i])=Iv F l (i+1):=by
 unfold Iv;rw[Md _ _ Bh,DQ,BY,Hq J,EP,Ds h,IN,<-CR h,DX,Cq];rfl
end
def jx{l:Bi}{rest:Bm}{i:Y}(h:i<Aim l):(BC .i64 l++rest)[i]? =X (U ((l.getD i 0:Y):H)):=by
 rw[FA (by rw[DF];omega),Fw h]
def jz{l:Bi}{rest:Bm}{i x:Y}(h:i<Aim l):(BC .i64 l++rest).set i (U (x:H))=BC .i64 (l.set i x)++rest:=by
 rw[TU _ _ (by rw[DF];omega),Ir]
def kF(f:Y)(w:Bi):LB (f+1) w=if(Bz.grown w).all (fun x=>decide (x<=17))then Bz.grown w else LB f (w.map fun x=>x/2+1):=by rfl
def vW(l:Bi)(h2:2<=Aim l)(h3:Aim l<=258)(P:∀x∈l,x<=1073741824)(A:Av AC)(c C:Y)(w:Ad)(hs:Sl w C A (BC .i64 l)):
 Bn prog 270 [.slice A (Aim l) c,U 17] w fun v w'=>(∃u,v=.tuple #[u,U ((0:Y):H)]/\CV w' w.heap.size u (KF l))/\Bf w w':=by
 refine Bw func270 Z ntmps270 (by rfl) Z ?_;refine(O 7)<|Lc (fun(d1:Aw)=>(d1=Aj,[(0,.slice A (Aim l) c),(1,U ((17:Y):H)),(22,.bool d1)],w)) ?_ ?_
 .refine(O 2∘Zc (jQ l ⟨h2,h3⟩ P A c C w hs)) ?_;rintro _ _⟨rfl,rfl⟩;refine(O 2) ?_;refine OW.as 15 (.bool Aj) Z (Z)<|(O 4) ?_;refine OW.as 19 (.bool Aj) Z (Z)<|(O 4∘Lm (decide (20<17))) ?_;rfl
 .rintro d1 rfl;refine(O 5∘Zc (rU l J J A c C w hs)) ?_;rintro v1 w1⟨L,E⟩;obtain⟨g,e,rest,rfl,T,hg,Q,a2,a3⟩:=Bp.blk L (by rw[DF];omega);refine(O 10)<|Lo (fun((i,wr):Y×Ad)=>(i<=Aim l/\Bk wr g 3 (BC .i64 (Iv (fun x=>max x 1) l i)++rest)/\Mo w1 wr [g],[(1,U ((17:Y):H)),(6,.slice (X ⟨g,0,Aa⟩) (Aim l) e),(25,.slice (X ⟨g,0,Aa⟩) (Aim l) e),(26,U ((Aim l:Y):H)),(27,U i)],wr,Aim l-i)) (0,w1) ?_ ?_
  .exact⟨BD _,Cr,Mo.refl _ _⟩
  .rintro⟨i,wr⟩⟨hi,k,N⟩;refine(O 5)<|Zi (fun t=>?_) fun t=>?_
   .have p:=P _ (BM t);have h:=kh (F:=fun x=>max x 1) t;have a:=jx (rest:=rest) (show i<Aim (Iv (fun x=>max x 1) l i) by rw[QN];exact t);rw[kf t]at a;generalize l[i]=x at p h a;refine(O 7∘Zv (Bo k (hi:=a))∘O 9∘Zt k (hlt:=by rw[BA,DF,QN];omega)) ?_;rintro w3 K aj;refine(O 6) ?_;rw[jz (by rw[QN];exact t),h]at K;refine Lb ((i+1),w3) ?_;exact⟨t,K,N.trans aj⟩
   .obtain rfl:i=Aim l:=J;rw[kg]at k;have ab:Aim (l.map fun x=>max x 1)=Aim l:=DQ _;have xr:Bf w wr:=Bv E N E.size (by simp;exact T);refine(O 2)<|Lo (fun((own,f,n):(Bi)×Y×Ad)=>(Aim own=Aim l/\f<=31/\(∀x∈own,1<=x/\x<=2 ^ f+1/\x<=1073741824)/\LB f own=KF l/\Bk n g 3 (BC .i64 own++rest)/\Bf w n,[(1,U ((17:Y):H)),(6,.slice (X ⟨g,0,Aa⟩) (Aim l) e)],n,f)) ((l.map fun x=>max x 1),31,wr) ?_ ?_
    .refine⟨ab,Bq _,fun x j=>?_,Z,k,xr⟩;grind
    .rintro⟨own,f,n⟩⟨k1,k2,y,k4,k5,k6⟩
     have af:Sl n n.heap.size (X ⟨g,0,Aa⟩) (BC .i64 own):=by
      have:=k5.Agv 0 (Aim own);rwa[Nh,Hp (DF _ _)]at this
     have S:=uP own J J (fun x j=>⟨(y x j).1,(y x j).2.2⟩) (X ⟨g,0,Aa⟩) e n.heap.size n af;rw[k1]at S;have Q:=YJ (fun x j=>(y x j).1) (show 2<=Aim own by omega);have a0:=Q.1.len;refine(O 4∘Zc S) ?_;rintro u w4⟨o,D⟩;refine(O 6) ?_;obtain⟨A4,c4,rfl,_,G⟩:=o.sl;have W:=k6.trans D;refine(Zc (km (Bz.grown own) J J A4 c4 _ w4 G)) ?_;rintro _ _⟨⟨m,al,a1,rfl⟩,rfl⟩;refine(O 3)<|Zi (fun r=>?_) fun r=>?_
     .have V:LB f own=Bz.grown own:=by
       cases f with
       |zero=>rfl
       |succ f=>
        rw[kF,Ai];grind
      refine(O 6∘BH) ?_;exact⟨⟨_,Z,by rw[<-k4,V];exact Bp.more o k6.size⟩,W⟩
     .obtain⟨f',rfl⟩:∃f',f=f'+1:=by
       cases f with
       |zero=>
        exfalso;have:=(Zl 0 own (fun x j=>⟨(y x j).1,(y x j).2.1⟩) J J).2 m al;omega
       |succ f=>simp
      rw[kF,Ag (fun q=>by grind)]at k4;refine(O 8)<|Lo (fun((i,B):Y×Ad)=>(i<=Aim own/\Bk B g 3 (BC .i64 (Iv (fun x=>x/2+1) own i)++rest)/\Mo w4 B [g],[(1,U ((17:Y):H)),(6,.slice (X ⟨g,0,Aa⟩) (Aim l) e),(45,.slice (X ⟨g,0,Aa⟩) (Aim l) e),(46,U ((Aim l:Y):H)),(47,U i)],B,Aim own-i)) (0,w4) ?_ ?_
      .exact⟨BD _,by rw[vX];exact k5.ext D,Mo.refl _ _⟩
      .rintro⟨i,B⟩⟨hi,k,N⟩;refine(O 5)<|Zi (fun ao=>?_) fun ao=>?_
       .have d:i<Aim own:=J;have p:=(y _ (BM d)).2.2;have h:=kh (F:=fun x=>x/2+1) d;have a:=jx (rest:=rest) (show i<Aim (Iv (fun x=>x/2+1) own i) by rw[QN];exact d);rw[kf d]at a;generalize own[i]=x at p h a;refine(O 7∘Zv (Bo k (hi:=a))∘O 10∘Zt k (hlt:=by rw[BA,DF,QN];omega)) ?_;rintro w6 I ai;refine(O 6) ?_;rw[jz (by rw[QN];exact d),h]at I;refine Lb ((i+1),w6) ?_;exact⟨d,I,N.trans ai⟩
       .obtain rfl:i=Aim own:=J;rw[kg]at k;refine(O 2)<|Lb ((own.map (fun x=>x/2+1)),f',B) ?_;refine⟨Bh,J,fun x j=>?_,k4,k,Bv W N W.size (by simp;exact T)⟩;grind
end
section
open Go.Shelf
def Tryz.Ahk:Go.Shelf.Ren:=⟨fun|6=>287|15=>109|14=>306|28=>150|29=>151|20=>314|21=>315|22=>316|23=>317|24=>318|25=>319|26=>320|27=>321|46=>325|47=>187|48=>188|49=>326|50=>327|57=>328|n=>n,fun|22=>376|24=>378|25=>380|3=>3|39=>180|0=>0|53=>58|55=>211|4=>4|46=>242|45=>241|50=>246|5=>5|9=>9|66=>285|70=>289|76=>332|77=>333|n=>n,fun|n=>n⟩
def Tryz.Ahm:Go.Proofs.SlLaysF0.n6 prog Tryz.Ahk:={
 mixed:=Be
 f6:=⟨f287.name,Bc,func287.trans (Ar X Be)⟩
 f14:=⟨f306.name,Bc,func306.trans (Ar X Be)⟩
 f15:=func109.trans (Ar X Be)
 f20:=⟨f314.name,Bc,func314.trans (Ar X Be)⟩
 f21:=⟨f315.name,Bc,func315.trans (Ar X Be)⟩
 f22:=⟨f316.name,Bc,func316.trans (Ar X Be)⟩
 f23:=⟨f317.name,Bc,func317.trans (Ar X Be)⟩
 f24:=⟨f318.name,Bc,func318.trans (Ar X Be)⟩
 f25:=⟨f319.name,Bc,func319.trans (Ar X Be)⟩
 f26:=⟨f320.name,Bc,func320.trans (Ar X Be)⟩
 f27:=⟨f321.name,Bc,func321.trans (Ar X Be)⟩
 f28:=func150.trans (Ar X Be)
 f29:=func151.trans (Ar X Be)
 f46:=⟨f325.name,Bc,func325.trans (Ar X Be)⟩
 f47:=func187.trans (Ar X Be)
 f48:=func188.trans (Ar X Be)
 f49:=⟨f326.name,Bc,func326.trans (Ar X Be)⟩
 f50:=⟨f327.name,Bc,func327.trans (Ar X Be)⟩
 f57:=⟨f328.name,Bc,func328.trans (Ar X Be)⟩
 t0:=underlying0
 a0:=Tryz.isAgg0
 z0:=Tryz.sizeOf0
 v0:=Tryz.zeroValue0
 t3:=underlying3
 a3:=Tryz.isAgg3
 z3:=Tryz.sizeOf3
 v3:=Tryz.zeroValue3
 t4:=underlying4
 a4:=Tryz.isAgg4
 z4:=Tryz.sizeOf4
 v4:=Tryz.zeroValue4
 t5:=underlying5
 a5:=Tryz.isAgg5
 z5:=Tryz.sizeOf5
 v5:=Tryz.zeroValue5
 t9:=underlying9
 a9:=Tryz.isAgg9
 z9:=Tryz.sizeOf9
 v9:=Tryz.zeroValue9
 t22:=underlying376
 a22:=Tryz.isAgg376
 z22:=Tryz.sizeOf376
 v22:=Tryz.zeroValue376
 t25:=underlying380
 a25:=Tryz.isAgg380
 z25:=Tryz.sizeOf380
 v25:=Tryz.zeroValue380
 t39:=underlying180
 a39:=Tryz.isAgg180
 z39:=Tryz.sizeOf180
 v39:=Tryz.zeroValue180
 t45:=underlying241
 a45:=Tryz.isAgg241
 z45:=Tryz.sizeOf241
 v45:=Tryz.zeroValue241
 t46:=underlying242
 a46:=Tryz.isAgg242
 z46:=Tryz.sizeOf242
 v46:=Tryz.zeroValue242
 t50:=underlying246
 a50:=Tryz.isAgg246
 z50:=Tryz.sizeOf246
 v50:=Tryz.zeroValue246
 t53:=underlying58
 a53:=Tryz.isAgg58
 z53:=Tryz.sizeOf58
 v53:=Tryz.zeroValue58
 t55:=underlying211
 a55:=Tryz.isAgg211
 z55:=Tryz.sizeOf211
 v55:=Tryz.zeroValue211
 t66:=underlying285
 a66:=Tryz.isAgg285
 z66:=Tryz.sizeOf285
 v66:=Tryz.zeroValue285
 t70:=underlying289
 a70:=Tryz.isAgg289
 z70:=Tryz.sizeOf289
 v70:=Tryz.zeroValue289
 t76:=underlying332
 a76:=Tryz.isAgg332
 z76:=Tryz.sizeOf332
 v76:=Tryz.zeroValue332
 t77:=underlying333
 a77:=Tryz.isAgg333
 z77:=Tryz.sizeOf333
 v77:=Tryz.zeroValue333 }
def Tryz.Ahr:Go.Shelf.Ren:=⟨fun|6=>79|15=>109|14=>108|28=>150|29=>151|20=>142|21=>143|22=>144|23=>145|24=>146|25=>147|26=>148|27=>149|46=>186|47=>187|48=>188|49=>189|50=>190|57=>240|n=>n,fun|22=>56|24=>60|25=>151|3=>3|39=>180|0=>0|53=>58|55=>211|4=>4|46=>242|45=>241|50=>246|5=>5|9=>9|66=>285|70=>289|76=>332|77=>333|n=>n,fun|n=>n⟩
def Tryz.Ahf:Go.Proofs.SlLaysF0.n6 prog Tryz.Ahr:={
 mixed:=Be
 f6:=⟨f79.name,Bc,func79.trans (Ar X Be)⟩
 f14:=⟨f108.name,Bc,func108.trans (Ar X Be)⟩
 f15:=func109.trans (Ar X Be)
 f20:=⟨f142.name,Bc,func142.trans (Ar X Be)⟩
 f21:=⟨f143.name,Bc,func143.trans (Ar X Be)⟩
 f22:=⟨f144.name,Bc,func144.trans (Ar X Be)⟩
 f23:=⟨f145.name,Bc,func145.trans (Ar X Be)⟩
 f24:=⟨f146.name,Bc,func146.trans (Ar X Be)⟩
 f25:=⟨f147.name,Bc,func147.trans (Ar X Be)⟩
 f26:=⟨f148.name,Bc,func148.trans (Ar X Be)⟩
 f27:=⟨f149.name,Bc,func149.trans (Ar X Be)⟩
 f28:=func150.trans (Ar X Be)
 f29:=func151.trans (Ar X Be)
 f46:=⟨f186.name,Bc,func186.trans (Ar X Be)⟩
 f47:=func187.trans (Ar X Be)
 f48:=func188.trans (Ar X Be)
 f49:=⟨f189.name,Bc,func189.trans (Ar X Be)⟩
 f50:=⟨f190.name,Bc,func190.trans (Ar X Be)⟩
 f57:=⟨f240.name,Bc,func240.trans (Ar X Be)⟩
 t0:=underlying0
 a0:=Tryz.isAgg0
 z0:=Tryz.sizeOf0
 v0:=Tryz.zeroValue0
 t3:=underlying3
 a3:=Tryz.isAgg3
 z3:=Tryz.sizeOf3
 v3:=Tryz.zeroValue3
 t4:=underlying4
 a4:=Tryz.isAgg4
 z4:=Tryz.sizeOf4
 v4:=Tryz.zeroValue4
 t5:=underlying5
 a5:=Tryz.isAgg5
 z5:=Tryz.sizeOf5
 v5:=Tryz.zeroValue5
 t9:=underlying9
 a9:=Tryz.isAgg9
 z9:=Tryz.sizeOf9
 v9:=Tryz.zeroValue9
 t22:=underlying56
 a22:=Tryz.isAgg56
 z22:=Tryz.sizeOf56
 v22:=Tryz.zeroValue56
 t25:=underlying151
 a25:=Tryz.isAgg151
 z25:=Tryz.sizeOf151
 v25:=Tryz.zeroValue151
 t39:=underlying180
 a39:=Tryz.isAgg180
 z39:=Tryz.sizeOf180
 v39:=Tryz.zeroValue180
 t45:=underlying241
 a45:=Tryz.isAgg241
 z45:=Tryz.sizeOf241
 v45:=Tryz.zeroValue241
 t46:=underlying242
 a46:=Tryz.isAgg242
 z46:=Tryz.sizeOf242
 v46:=Tryz.zeroValue242
 t50:=underlying246
 a50:=Tryz.isAgg246
 z50:=Tryz.sizeOf246
 v50:=Tryz.zeroValue246
 t53:=underlying58
 a53:=Tryz.isAgg58
 z53:=Tryz.sizeOf58
 v53:=Tryz.zeroValue58
 t55:=underlying211
 a55:=Tryz.isAgg211
 z55:=Tryz.sizeOf211
 v55:=Tryz.zeroValue211
 t66:=underlying285
 a66:=Tryz.isAgg285
 z66:=Tryz.sizeOf285
 v66:=Tryz.zeroValue285
 t70:=underlying289
 a70:=Tryz.isAgg289
 z70:=Tryz.sizeOf289
 v70:=Tryz.zeroValue289
 t76:=underlying332
 a76:=Tryz.isAgg332
 z76:=Tryz.sizeOf332
 v76:=Tryz.zeroValue332
 t77:=underlying333
 a77:=Tryz.isAgg333
 z77:=Tryz.sizeOf333
 v77:=Tryz.zeroValue333 }
def Tryz.Ahv:Go.Shelf.Ren:=⟨fun|6=>123|15=>109|14=>164|28=>150|29=>151|20=>210|21=>211|22=>212|23=>213|24=>214|25=>215|26=>216|27=>217|46=>256|47=>187|48=>188|49=>257|50=>258|57=>280|n=>n,fun|22=>118|24=>121|25=>218|3=>3|39=>180|0=>0|53=>58|55=>211|4=>4|46=>242|45=>241|50=>246|5=>5|9=>9|66=>285|70=>289|76=>332|77=>333|n=>n,fun|n=>n⟩
def Tryz.Aho:Go.Proofs.SlLaysF0.n6 prog Tryz.Ahv:={
 mixed:=Be
 f6:=⟨f123.name,Bc,func123.trans (Ar X Be)⟩
 f14:=⟨f164.name,Bc,func164.trans (Ar X Be)⟩
 f15:=func109.trans (Ar X Be)
 f20:=⟨f210.name,Bc,func210.trans (Ar X Be)⟩
 f21:=⟨f211.name,Bc,func211.trans (Ar X Be)⟩
 f22:=⟨f212.name,Bc,func212.trans (Ar X Be)⟩
 f23:=⟨f213.name,Bc,func213.trans (Ar X Be)⟩
 f24:=⟨f214.name,Bc,func214.trans (Ar X Be)⟩
 f25:=⟨f215.name,Bc,func215.trans (Ar X Be)⟩
 f26:=⟨f216.name,Bc,func216.trans (Ar X Be)⟩
 f27:=⟨f217.name,Bc,func217.trans (Ar X Be)⟩
 f28:=func150.trans (Ar X Be)
 f29:=func151.trans (Ar X Be)
 f46:=⟨f256.name,Bc,func256.trans (Ar X Be)⟩
 f47:=func187.trans (Ar X Be)
 f48:=func188.trans (Ar X Be)
 f49:=⟨f257.name,Bc,func257.trans (Ar X Be)⟩
 f50:=⟨f258.name,Bc,func258.trans (Ar X Be)⟩
 f57:=⟨f280.name,Bc,func280.trans (Ar X Be)⟩
 t0:=underlying0
 a0:=Tryz.isAgg0
 z0:=Tryz.sizeOf0
 v0:=Tryz.zeroValue0
 t3:=underlying3
 a3:=Tryz.isAgg3
 z3:=Tryz.sizeOf3
 v3:=Tryz.zeroValue3
 t4:=underlying4
 a4:=Tryz.isAgg4
 z4:=Tryz.sizeOf4
 v4:=Tryz.zeroValue4
 t5:=underlying5
 a5:=Tryz.isAgg5
 z5:=Tryz.sizeOf5
 v5:=Tryz.zeroValue5
 t9:=underlying9
 a9:=Tryz.isAgg9
 z9:=Tryz.sizeOf9
 v9:=Tryz.zeroValue9
 t22:=underlying118
 a22:=Tryz.isAgg118
 z22:=Tryz.sizeOf118
 v22:=Tryz.zeroValue118
 t25:=underlying218
 a25:=Tryz.isAgg218
 z25:=Tryz.sizeOf218
 v25:=Tryz.zeroValue218
 t39:=underlying180
 a39:=Tryz.isAgg180
 z39:=Tryz.sizeOf180
 v39:=Tryz.zeroValue180
 t45:=underlying241
 a45:=Tryz.isAgg241
 z45:=Tryz.sizeOf241
 v45:=Tryz.zeroValue241
 t46:=underlying242
 a46:=Tryz.isAgg242
 z46:=Tryz.sizeOf242
 v46:=Tryz.zeroValue242
 t50:=underlying246
 a50:=Tryz.isAgg246
 z50:=Tryz.sizeOf246
 v50:=Tryz.zeroValue246
 t53:=underlying58
 a53:=Tryz.isAgg58
 z53:=Tryz.sizeOf58
 v53:=Tryz.zeroValue58
 t55:=underlying211
 a55:=Tryz.isAgg211
 z55:=Tryz.sizeOf211
 v55:=Tryz.zeroValue211
 t66:=underlying285
 a66:=Tryz.isAgg285
 z66:=Tryz.sizeOf285
 v66:=Tryz.zeroValue285
 t70:=underlying289
 a70:=Tryz.isAgg289
 z70:=Tryz.sizeOf289
 v70:=Tryz.zeroValue289
 t76:=underlying332
 a76:=Tryz.isAgg332
 z76:=Tryz.sizeOf332
 v76:=Tryz.zeroValue332
 t77:=underlying333
 a77:=Tryz.isAgg333
 z77:=Tryz.sizeOf333
 v77:=Tryz.zeroValue333 }
end
section
attribute [local irreducible] OW KW QW GW NV
open Bz
def px{P:AE}{n:Y}{σ:BJ}{w:Ad}{x:AD}{t ty:Ay}{a m:Y}(hx:ev σ x=X (U (a:H)))(hm:m=9223372036854775807)(h:a<=m):EX P n σ (.unOp .neg t x) ty w (U (-(a:H))) w:=fun A e f d after g=>by
 have:=bE (k:=.i64) (a:=-(a:H)) (m:=9223372036854775807) Z Z J;simp only[execOp,e.ev hx];simp[Op.unary,Op.intArith,this]
def Gi(l:Bi)(j:Y):Mk:=(-((max (l.getD j 0) 1:Y):H),(j:H))
abbrev Mj:={t:Mk//Lk t}
instance:Inhabited Mj:=⟨⟨(0,0),by unfold Lk;decide⟩⟩
attribute [local irreducible] EX
def UI{l:Bi}(a:∀x∈l,x<=1073741824)(e:Aim l<=258){j:Y}(d:j∈BE (Aim l)):Lk (Gi l j):=by
 have d:=CQ.1 d;have f:=a _ (BM d);unfold Lk Gi;grind
def sh:Go.Sort.SWO (fun a b:Mj=>decide (IS a.1 b.1<0)):=by
 have d:∀a b:Mk,IS a b<0↔a.1<b.1∨(a.1=b.1/\a.2<b.2):=fun a b=>by
  unfold IS;omega
 refine⟨fun x=>?_,fun x y z f e=>?_,fun x y z f e=>?_⟩
 .grind
 .grind
 .grind
def tS{l:Bi}{a b:Y}(h:¬IS (Gi l b) (Gi l a)<0)(d:a≠b):EQ l a b:=by
 unfold IS Gi at h;unfold EQ;omega
def PK(n p:Y):Y:=if p<2 ^ (DL n+1)-n then DL n else DL n+1
def uq{l o out:Bi}(e:IsOw l o)(hl:Aim out=Aim l)(h:∀p,p<Aim o->out.getD (o.getD p 0) 0=PK (Aim l) p):out=Gk l:=by
 have g:Aim o=Aim l:=by rw[e.perm.length_eq,GV]
 have k:Aim (Gk l)=Aim l:=Yx l;apply Ni J;intro i n m;have j:i∈o:=e.perm.mem_iff.2 (CQ.2 J);obtain⟨p,d,rfl⟩:=Hm.1 j;have f:=h p d;rw[CF d,CF n]at f
 have a:(Gk l)[o[p]]? =X (PK (Aim l) (Pz l o[p])):=by
  unfold Gk;rw[DP,Nk J];rfl
 rw[BN m]at a;injection a with a;rw[f,a,e.rank d]
def uu(l:Bi)(h2:2<=Aim l)(h3:Aim l<=258)(D:∀x∈l,x<=1073741824)(A:Av AC)(c C:Y)(w:Ad)(hs:Sl w C A (BC .i64 l)):
 Bn prog 271 [.slice A (Aim l) c] w fun v w'=>(∃u,v=.tuple #[u,U ((0:Y):H)]/\CV w' w.heap.size u (Gk l))/\Bf w w':=by
 refine Bw func271 Z ntmps271 Be Z ?_;refine(O 9∘Zc (jQ l ⟨h2,h3⟩ D A c C w hs)) ?_;rintro _ _⟨rfl,rfl⟩;refine(O 2∘Cw 14 (.bool Aj)∘O 11) ?_;obtain⟨b,f,rfl,_,b9⟩:=hs.intAt J;refine Lo (fun(k:Y)=>(1<=k/\k<=8/\2 ^ k<=Aim l,[(0,.slice (X ⟨b,f,Aa⟩) (Aim l) c),(4,U ((Aim l:Y):H)),(5,U k)],w,8-k)) 1 ?_ ?_
 .omega
 .rintro k⟨k1,k2,k3⟩;have kp:2 ^ (k+1)=2*2 ^ k:=by rw[IQ];omega
  refine(O 5∘Zv (by exact On (a:=1) (m:=9223372036854775807) Z Z (by show _<=64;omega) Z J)∘O 3)<|Zi (fun hc=>?_) fun hc=>?_
  .have cm:k<8:=by
    rcases Db k 8 with q|q
    .omega
    .grind
   refine(O 8)<|Lb (k+1) ?_;omega
  .have bf:DL (Aim l)=k:=by
    have h1:k<=DL (Aim l):=(Nat.le_log2 J).2 k3;have h2:DL (Aim l)<k+1:=(TY J).2 J;omega
   refine(O 4) ?_;refine qw Z Z underlying376 Jh Z Z J J ?_;rintro gb w1 y9 bi hZ co af;refine(O 10)<|Lo (fun((i,wr):Y×Ad)=>(i<=Aim l/\Bk wr gb 378 ((BE i).flatMap (fun j=>Fy (Gi l j))++y9.drop (i*2))/\Mo w1 wr [gb],[(0,.slice (X ⟨b,f,Aa⟩) (Aim l) c),(4,U ((Aim l:Y):H)),(5,U k),(6,.slice (X ⟨gb,0,Aa⟩) (Aim l) (Aim l)),(26,.slice (X ⟨b,f,Aa⟩) (Aim l) c),(27,U ((Aim l:Y):H)),(28,U i)],wr,Aim l-i)) (0,w1) ?_ ?_
   .exact⟨BD _,Bh,Mo.refl _ _⟩
   .rintro⟨i,wr⟩⟨hi,hg,hm⟩;have xr:Bf w wr:=Bv af hm af.size Bx
    have a2:Aim ((BE i).flatMap (fun j=>Fy (Gi l j)))=i*2:=by
     have:=KA (cells:=fun j=>Fy (Gi l j)) (k:=2) (fun _=>rfl) (BE i);rwa[GV]at this
    refine(O 5)<|Zi (fun I=>?_) fun I=>?_
    .have bq:=D _ (BM I);have ab:=b9 wr xr i I;have bl:Gi l i=(-((max l[i] 1:Y):H),(i:H)):=by unfold Gi;rw[CF I]
     generalize l[i]=x at bq ab bl;refine(O 7∘Zv (BZ ab)∘O 8∘Zv (by exact px Z Z J)∘O 3∘Zs hg (hlt:=by grind)) ?_;rintro w3 bj b3;refine(O 6)<|Lb ((i+1),w3) ?_;refine⟨I,?_,hm.trans b3⟩;rw[FW,Hp a2,<-Ge,RN a2,Ge]at bj;rw[FV,Ia,EY,RQ,List.append_nil,bl,show(i+1)*2=i*2+2 by omega];exact bj
    .obtain rfl:i=Aim l:=J;rw[KX J,List.append_nil]at hg
     have ch:((BE (Aim l)).pmap (fun j d=>(⟨Gi l j,d⟩:Mj)) (fun j d=>UI D h3 d)).flatMap (fun t=>Fy t.1)=(BE (Aim l)).flatMap (fun j=>Fy (Gi l j)):=by
      rw[IL,IL,WD];congr 1;show List.pmap (fun(j:Y) (_:Lk (Gi l j))=>Fy (Gi l j)) _ _=_;exact List.pmap_eq_map ..
     have a6:Aim ((BE (Aim l)).pmap (fun j d=>(⟨Gi l j,d⟩:Mj)) (fun j d=>UI D h3 d))=Aim l:=by rw[List.length_pmap,GV]
     have cf:=af.size;have a7:Bp wr w.heap.size 378 2 (.slice (X ⟨gb,0,Aa⟩) (Aim l) (Aim l)) (Aim l) ((BE (Aim l)).flatMap (fun j=>Fy (Gi l j))):=Bp.Agf hg bi a2 CE;have c1:=VC Tryz.Ahm (f:=287) Z func287 Be (e:=378) Z underlying378 Z Jh Bc (cells:=fun t:Mj=>Fy t.1) (fun _=>rfl) (fun x v hv=>by simp[Fy]at hv;rcases hv with rfl|rfl<;>rfl) (fun a b=>IS a.1 b.1) sh func288 Be w.heap.size ((BE (Aim l)).pmap (fun j d=>(⟨Gi l j,d⟩:Mj)) (fun j d=>UI D h3 d)) J (.slice (X ⟨gb,0,Aa⟩) (Aim l) (Aim l)) wr Bh (fun W x y _=>dA x.1 y.1 x.2 y.2 W);rw[a6]at c1;refine(O 4∘Zc c1) ?_;rintro _ w4⟨rfl,n,g,ai,aj,bb⟩;refine(O 4) ?_;have x4:Bf w w4:=Bv xr bb xr.size (fun q hq=>(a7.lt q (Fb.1 hq)).1);have b4:Aim n=Aim l:=by rw[g.length_eq,a6]
     have r:∀t∈n,t.1=Gi l t.1.2.toNat/\t.1.2.toNat<Aim l:=fun t ht=>by
      have:=g.subset ht;obtain⟨j,d,e⟩:=List.mem_pmap.1 this;rw[<-e];exact⟨Z,CQ.1 d⟩
     have al:IsOw l (n.map fun t=>t.1.2.toNat):=by
      have S:(n.map fun t:Mj=>t.1.2.toNat).Perm (BE (Aim l)):=by
       have:=g.map (fun t:Mj=>t.1.2.toNat);rw[WD]at this
       have e:List.pmap (fun(j:Y) (_:Lk (Gi l j))=>j) (BE (Aim l)) (fun j d=>UI D h3 d)=BE (Aim l):=by
        rw[List.pmap_eq_map,List.map_id']
       exact this.trans (Nf.of_eq e)
      refine⟨S,Ib.2 fun i j hi d bh=>?_⟩;have ba:=Ib.1 (S.nodup_iff.2 Nn) i j hi d bh;simp only[DQ]at hi d;have h5:=ai i j hi d bh;rw[(r _ (BM hi)).1,(r _ (BM d)).1]at h5;simp only[Ou]at ba ⊢;exact tS h5 ba
     have a0:∀p (S:p<Aim n),(n.map fun t=>t.1.2.toNat).getD p 0=n[p].1.2.toNat:=fun p S=>by
      rw[BX,DP,BN S];rfl
     have V:∀p q,p<Aim n->q<Aim n->(n.map fun t=>t.1.2.toNat).getD p 0=(n.map fun t=>t.1.2.toNat).getD q 0->p=q:=fun p q S hq e=>by
      rw[CF Bh,CF Bh]at e;exact(Nl (al.perm.nodup_iff.2 Nn)).1 e
     generalize ho:(n.map fun t=>t.1.2.toNat)=o at al a0 V;have cl:Aim o=Aim l:=by rw[<-ho,DQ,b4]
     obtain⟨A5,c5,e5,_,b0⟩:=aj.slice;cases e5;refine(Gf) ?_;rintro ob w5 cc b8 bs;refine(O 10) ?_;rw[show BG (Aim l) (U 0)=BC .i64 (BG (Aim l) 0)from(KB _ _ _).symm]at b8;have x5:=x4.trans bs;have ce:=x4.size;refine Lo (fun((p,P,wp):Y×(Bi)×Ad)=>(p<=Aim l/\Aim P=Aim l/\(∀q,q<p->P.getD (o.getD q 0) 0=PK (Aim l) q)/\Bk wp ob 3 (BC .i64 P)/\Bf w4 wp,[(4,U ((Aim l:Y):H)),(5,U k),(9,.slice (X ⟨ob,0,Aa⟩) (Aim l) (Aim l)),(46,.slice (X ⟨gb,0,Aa⟩) (Aim l) (Aim l)),(47,U ((Aim l:Y):H)),(48,U p)],wp,Aim l-p)) (0,(BG (Aim l) 0),w5) ?_ ?_
     .grind
     .rintro⟨p,P,wp⟩⟨S,B,Q,a1,K⟩;refine(O 5)<|Zi (fun a3=>?_) fun a3=>?_
      .have N:p<Aim n:=J;obtain⟨b6,o6,e6,_,h⟩:=(b0.ext K).flat (cells:=fun t:Mj=>Fy t.1) (c:=2) (fun _=>rfl) Bc N;cases e6;obtain⟨bn,bm⟩:=r _ (BM N);have ao:=a0 p N;generalize n[p]=t at h bn bm ao;have a9:t.1.2=((o.getD p 0:Y):H):=by rw[ao,bn];rfl
       rw[<-ao]at bm;have bx:Fy t.1=[U t.1.1,U ((o.getD p 0:Y):H)]:=by unfold Fy;rw[a9]
       have G:∀x,x=PK (Aim l) p->∀q,q<p+1->(P.set (o.getD p 0) x).getD (o.getD q 0) 0=PK (Aim l) q:=fun x hx q hq=>by
        have cg:o.getD q 0<Aim P:=by
         rw[B,a0 q J];exact(r _ (BM _)).2
        rw[CF (by rw[HG];omega),RR];by_cases e:o.getD p 0=o.getD q 0
        .rw[Ai e,hx,V p q N J e]
        .rw[Ag e,<-CF,Q q];grind
       have L:PK (Aim l) p=if p<2 ^ (k+1)-Aim l then k else k+1:=by unfold PK;rw[bf]
       rw[bx]at h;refine(O 7∘Zv (Do [U t.1.1,U ((o.getD p 0:Y):H)] h)∘Zn) ?_;rintro tb w6 cb b7 a5;refine(O 1∘Zs b7 (hlt:=Bq _)) ?_;rintro w7 a4 b2;refine(O 5) ?_;replace a4:Bk w7 tb 378 [U t.1.1,U ((o.getD p 0:Y):H)]:=a4;have y7:Bf wp w7:=Bv a5 b2 a5.size Bx;have a8:=a1.ext y7;have ck:ob≠tb:=by have:=a1.lt;omega
       refine(O 3∘Zt a8 (hlt:=by rw[DF];omega)) ?_;rintro w8 E bc;refine(O 6) ?_;rw[Ir]at E;have cn:=a4.mo bc (by simp;omega);have cd:=K.size;have x7:=K.trans y7;have x8:Bf w4 w8:=Bv x7 bc x7.size Bx;have ca:Aim l<=2 ^ (k+1):=J;have cj:1*2 ^ (k+1)=2 ^ (k+1):=Nat.one_mul _;refine(Zv (by exact On (a:=1) (m:=9223372036854775807) Z Z (by show _<=64;omega) Z J)∘O 4)<|Zi (fun b5=>?_) fun b5=>?_
       .rw[Ag J]at L;refine(O 7∘Zt E (hlt:=by rw[DF,HG];omega)) ?_;rintro w9 T b1;refine(O 6) ?_;rw[Ir,List.set_set]at T;refine Lb ((p+1),(P.set (o.getD p 0) (k+1)),w9) ?_;exact⟨a3,by rw[HG];exact B,G _ L.symm,T,Bv x8 b1 x8.size Bx⟩
       .rw[Ai J]at L;refine(O 6)<|Lb ((p+1),(P.set (o.getD p 0) k),w8) ?_;exact⟨a3,by rw[HG];exact B,G _ L.symm,E,x8⟩
      .obtain rfl:p=Aim l:=J;have e:=uq al B (fun p S=>Q p J);refine(O 7∘BH) ?_;refine⟨⟨_,Z,?_⟩,x4.trans K⟩;rw[<-e];unfold CV;rw[B];exact Bp.Agf a1 J (by rw[DF,B,Ic]) CE
end
section
attribute [local irreducible] OW KW QW EX GW NV
open Bz
def ux{l:Bi}{i:Y}(h:i<Aim l):(l.take (i+1)).foldl max 0=max ((l.take i).foldl max 0) l[i]:=by
 rw[<-CR h,Qd];rfl
def jT(l:Bi)(p:Aim l<=1000000000)(A:Av AC)(c C:Y)(w:Ad)(m:Sl w C A (BC .i64 l)):
 Bn prog 278 [.agg #[.slice A (Aim l) c]] w fun v w'=>v=U ((Bz.longest l:Y):H)/\Bf w w':=by
 refine Bw func278 Z ntmps278 (by rfl) Z ?_;refine(O 2) ?_;refine DB Z Z Z ?_;rintro o h j k a;refine(O 15)<|Lo (fun(i:Y)=>(i<=Aim l,[(3,U ((((l.take i).foldl max 0):Y):H)),(7,.slice A (Aim l) c),(8,U ((Aim l:Y):H)),(9,U i)],h,Aim l-i)) 0 ?_ ?_
 .simp
 .rintro i q;refine(O 5)<|Zi (fun d=>?_) fun d=>?_
  .obtain⟨b,f,rfl,_,g⟩:=m.intAt J;have n:=ux d;refine(O 6∘Zv (BZ (g h a i d))∘O 13∘Cw 3 (U ((((l.take (i+1)).foldl max 0):Y):H)) (e:=by grind))<|Lb (i+1) ?_;omega
  .obtain rfl:i=Aim l:=J;refine(O 6∘Bu) ?_;rw[DY];exact⟨Z,a⟩
def Fm(sv ov:Ah)(F B C:Y->Y):Bm:=sv::ov::(EL .i64 22 F++(EL .i64 22 B++EL .i64 22 C))
section
variable{sv ov:Ah}{F B C:Y->Y}{i x:Y}
def aU(h:i<22):(Fm sv ov F B C)[2+i]? =X (U (F i:H)):=by
 unfold Fm;rw[RU,Qe,Qe,FA Cr,MP h]
def nO(h:i<22):(Fm sv ov F B C)[24+i]? =X (U (B i:H)):=by
 unfold Fm;rw[show 24+i=(22+i)+1+1 by omega,Qe,Qe,Hl (by rw[Gq];omega),Gq,Ki,FA Cr,MP h]
def Tk(h:i<22):(Fm sv ov F B C)[46+i]? =X (U (C i:H)):=by
 unfold Fm;rw[show 46+i=(22+(22+i))+1+1 by omega,Qe,Qe,Hl (by rw[Gq];omega),Gq,Ki,Hl (by rw[Gq];omega),Gq,Ki,MP h]
def Dj(F:Y->Y)(i x:Y):Y->Y:=fun b=>if b=i then x else F b
def nQ(h:i<22):(Fm sv ov F B C).set (2+i) (U (x:H))=Fm sv ov (Dj F i x) B C:=by
 unfold Fm;rw[RU,Lf,Lf,TU _ _ Cr,PE h (G:=Dj F i x) (fun b _=>rfl)]
def nP(h:i<22):(Fm sv ov F B C).set (24+i) (U (x:H))=Fm sv ov F (Dj B i x) C:=by
 unfold Fm;rw[show 24+i=(22+i)+1+1 by omega,Lf,Lf,Md _ _ (by rw[Gq];omega),Gq,Ki,TU _ _ Cr,PE h (G:=Dj B i x) (fun b _=>rfl)]
def Aeb(h:i<22):(Fm sv ov F B C).set (46+i) (U (x:H))=Fm sv ov F B (Dj C i x):=by
 unfold Fm;rw[show 46+i=(22+(22+i))+1+1 by omega,Lf,Lf,Md _ _ (by rw[Gq];omega),Gq,Ki,Md _ _ (by rw[Gq];omega),Gq,Ki,PE h (G:=Dj C i x) (fun b _=>rfl)]
def VL:Aim (Fm sv ov F B C)=68:=by
 rfl
def Aec:Fm sv ov (fun _=>0) (fun _=>0) (fun _=>0)=sv::ov::BG 66 (U 0):=by
 rfl
end
def Gl(l:Bi)(n i:Y):Bi:=(BE i).filter fun j=>decide (l.getD j 0=n)
def vf(l:Bi)(n i:Y):Gl l n (i+1)=if l.getD i 0=n then Gl l n i++[i]else Gl l n i:=by
 unfold Gl;rw[FV,KY];grind
def ZJ(l:Bi)(m:Y):Dr l (m+1)=Dr l m++Gl l (m+1) (Aim l):=by
 unfold Dr;rw[FV,Ia,EY,RQ,List.append_nil];rfl
def YQ(l:Bi)(n:Y):Aim (Gl l n (Aim l))=CA l n:=UP l n
def jo(l:Bi)(n i:Y)(h:i<=Aim l):Aim (Gl l n i)<=CA l n:=by
 rw[<-YQ];unfold Gl;obtain⟨d,hd⟩:∃d,Aim l=i+d:=⟨Aim l-i,J⟩;rw[hd,List.range_add,KY,BA];omega
structure TabAt(w:Ad)(B tb:Y)(l:Bi)(sv:Ah):Prop where
 lo:B<=tb
 ex:∃ov F G C,Bk w tb 367 (Fm sv ov F G C)/\Bp w B 3 1 ov (Aim (Dr l (Bz.longest l))) (BC .i64 (Dr l (Bz.longest l)))/\(∀n,1<=n->n<=Bz.longest l->F n=fst l n/\G n=FQ l n)/\(∀n,n<22->C n=CA l n)/\∀n,F n<=4194304
def TabAt.ext{w w':Ad}{B a:Y}{l:Bi}{sv:Ah}(h:TabAt w B a l sv)(hx:Bf w w'):TabAt w' B a l sv:=by
 obtain⟨d,ov,F,G,C,j,g,f,e⟩:=h;exact⟨d,ov,F,G,C,j.ext hx,g.ext hx,f,e⟩
def TabAt.tm{w w':Ad}{B a D:Y}{l:Bi}{sv:Ah}{p:Ay->Aw}(h:TabAt w B a l sv)(t:Tm w w' D p)(p1:p 367=Aj)(p2:p 3=Aj):TabAt w' B a l sv:=by
 obtain⟨d,ov,F,G,C,j,g,f,e⟩:=h;exact⟨d,ov,F,G,C,t.bk j p1,t.own g p2,f,e⟩
def lx{l:Bi}(h0:CA l 0=0)(m:Y):Aim (Dr l m)=FQ l (m+1):=by
 have:=ZI l m;omega
def Vg(l:Bi):∀m,Aim (Dr l m)<=m*Aim l
 |0=>by simp[Dr]
 |m+1=>by
  have h1:=Vg l m;have h2:CA l (m+1)<=Aim l:=List.count_le_length;rw[ZJ,BA,YQ,Ql];omega
def UU{l:Bi}(h:LOk l):Bz.longest l<=20:=vS fun x hx=>(h.pos x hx).2
def fg{l:Bi}{n:Y}(h:Bz.longest l<n):CA l n=0:=List.count_eq_zero.2 fun q=>by
 have:=UT q;omega
def jY(l:Bi)(hn:Aim l<=1000000000)(a7:∀x∈l,x<=1000000000)(A:Av AC)(c C:Y)(w:Ad)(hs:Sl w C A (BC .i64 l)):
 Bn prog 251 [.slice A (Aim l) c] w fun v w'=>((GD l≠0/\v=.tuple #[.pointer Aa,U ((80:Y):H)])∨(GD l=0/\∃tb,v=.tuple #[.pointer (X ⟨tb,0,Aa⟩),U ((0:Y):H)]/\TabAt w' w.heap.size tb l (.slice A (Aim l) c)))/\Bf w w':=by
 have b3:GD l≠0->GD l=80:=fun h=>by
  unfold GD at h ⊢;grind
 refine Bw func251 Z ntmps251 Be Z ?_;refine(O 9∘Zc (YX l hn a7 A c C w hs)) ?_;rintro _ _⟨rfl,rfl⟩;refine(O 7)<|Zi (fun he=>?_) fun he=>?_
 .have e:=b3 he;refine(O 6∘BH) ?_;rw[e];exact⟨.inl ⟨Bc,Z⟩,Bf.refl _⟩
 .have b4:GD l=0:=Dm.1 he;have bq:2<=Aim l/\Aim l<=258/\LOk l:=MX fun q=>he (by rw[show GD l=80 from Ag q];decide);obtain⟨l2,l3,hL⟩:=bq;have ce:=UU hL;have P:=hL.Agu;obtain⟨D,y,rfl,_,b6⟩:=hs.intAt J;refine(O 5∘Zv (by exact pa (pl:=[(0,1),(1,1),(2,22),(24,22),(46,22)]) (ks:=[0]) (zs:=[.slice Aa 0 0,.slice Aa 0 0,U 0,U 0,U 0,U 0,U 0,U 0,U 0,U 0,U 0,U 0,U 0,U 0,U 0,U 0,U 0,U 0,U 0,U 0,U 0,U 0,U 0,U 0,U 0,U 0,U 0,U 0,U 0,U 0,U 0,U 0,U 0,U 0,U 0,U 0,U 0,U 0,U 0,U 0,U 0,U 0,U 0,U 0,U 0,U 0,U 0,U 0,U 0,U 0,U 0,U 0,U 0,U 0,U 0,U 0,U 0,U 0,U 0,U 0,U 0,U 0,U 0,U 0,U 0,U 0,U 0,U 0]) underlying367 oj Be Z Z (by simp only[Cp,EO,Value.cells];rfl) Z Z (by simp only[fillL,WN,List.zip_nil_right,List.zip_nil_left,List.getD_cons_zero,List.getD_cons_succ,Cv,EZ,FW,Jv,Nat.reduceAdd,Qi,Ox,RO,Nh,Ev,FM];rfl))) ?_;refine DB Z Z Z ?_;rintro tb w1 a8 a0 bl;refine(O 12) ?_
  replace a0:Bk w1 tb 367 (Fm (.slice (X ⟨D,y,Aa⟩) (Aim l) c) (.slice Aa 0 0) (fun _=>0) (fun _=>0) (fun _=>0)):=by
   rw[Aec];exact a0
  refine(Cw 6 (U (((fst l 0+CA l 0):Y):H)) (e:=by rw[P];rfl))<|Lo (fun((m,ov,F,G,K,wr):Y×Ah×(Y->Y)×(Y->Y)×(Y->Y)×Ad)=>(m<=Bz.longest l/\Bk wr tb 367 (Fm (.slice (X ⟨D,y,Aa⟩) (Aim l) c) ov F G K)/\Bp wr w.heap.size 3 1 ov (Aim (Dr l m)) (BC .i64 (Dr l m))/\(∀n,1<=n->n<=m->F n=fst l n/\G n=FQ l n)/\(∀n,n<22->K n=if n<=m then CA l n else 0)/\(∀n,F n<=4194304)/\Bf w wr,[(5,.pointer (X ⟨tb,0,Aa⟩)),(6,U (((fst l m+CA l m):Y):H)),(7,U (((m+1):Y):H))],wr,22-m)) (0,(.slice Aa 0 0),(fun _=>0),(fun _=>0),(fun _=>0),w1) ?_ ?_
  .refine⟨BD _,a0,Bp.nil _ _ _ _,fun n h1 h2=>by omega,fun n h1=>?_,fun n=>BD _,bl⟩;grind
  .rintro⟨m,ov,F,G,K,wr⟩⟨hm,hb,a3,b9,hK,b8,hx⟩;have cb:=hL.top (n:=m) J;have cg:2 ^ m<=1048576:=FN (n:=2) Bc (show m<=20 by omega);refine Ek (Ek (KW.region ?_));refine OW.val Z Z (EX.move Z) ?_;refine OW.val Z Z (EX.move Z) ?_;refine OW.val Z Z (DV Z) ?_;refine OW.val Z Z (Dn (off:=0) underlying367 Z Z Tl Z Z) ?_;refine OW.val Z Z (KT (l:=[.slice (X ⟨D,y,Aa⟩) (Aim l) c]) underlying364 Z Tl Z Z (fun j u hj=>hb.cell_of (by cases j with|zero=>exact hj|succ j=>grind))) ?_;refine OW.call Z Z Z (jT l hn (X ⟨D,y,Aa⟩) c C wr (hs.ext hx)) ?_;rintro _ w2⟨rfl,V⟩;refine(O 2) ?_;have al:=hb.ext V;have o:=a3.ext V;have x2:=hx.trans V;refine Zi (fun hc=>?_) fun hc=>?_
   .have b2:fst l (m+1)=2*(fst l m+CA l m):=rfl;have cj:FQ l (m+1)=FQ l m+CA l m:=rfl;have ck:=lx P m;have a9:=al.drew;obtain⟨A0,c0,rfl,_,_⟩:=o.slice;refine KW.skip (Ek (KW.block (Ek (KW.region ?_))));refine OW.val Z Z (EX.move Z) ?_;refine OW.val Z Z (Hk (s:=1) (p:=2) (m:=9223372036854775807) Z Z Bc Bc Z J) ?_;refine OW.val Z Z (CI Z) ?_;refine OW.nil ?_;refine Ek ?_;refine Qb (N:=18) (fun w'=>∃F G,Bk w' tb 367 (Fm (.slice (X ⟨D,y,Aa⟩) (Aim l) c) (.slice A0 (Aim (Dr l m)) c0) F G K)) Be Z ?_;have f:=show ∃F G,Bk w2.drew tb 367 (Fm (.slice (X ⟨D,y,Aa⟩) (Aim l) c) (.slice A0 (Aim (Dr l m)) c0) F G K)from⟨F,G,a9⟩;refine GW.val 0 Z Be Be Be Z Z f (fun w' a=>EX.move Z) ?_;refine GW.val 1 Z Be Be Be Z Z f (fun w' a=>EX.move Z) ?_;refine GW.val 2 Z Be Be Be Z Z f (fun w' a=>EX.move Z) ?_;refine GW.val 3 Z Be Be Be Z Z f (fun w' a=>EX.move Z) ?_;refine GW.val 4 Z Be Be Be Z Z f (fun w' a=>EX.move Z) ?_;refine GW.val 5 Z Be Be Be Z Z f (fun w' a=>EX.move Z) ?_;refine GW.val 6 Z Be Be Be Z Z f (fun w' a=>DV Z) ?_;refine GW.val 7 Z Be Be Be Z Z f (fun w' a=>Dn (off:=1) underlying367 Z Z GP Z Z) ?_;refine GW.val 8 Z Be Be Be Z Z f (fun w' a=>Cg underlying51 Z Z (by obtain⟨F',G',h⟩:=a;exact h.cell_of Z)) ?_;refine GW.val 9 Z Be Be Be Z Z f (fun w' a=>PU underlying51 Z) ?_;refine GW.val 10 Z Be Be Be Z Z f (fun w' a=>DV Z) ?_;refine GW.val 11 Z Be Be Be Z Z f (fun w' a=>Dn (off:=2) underlying367 Z Z PG Z Z) ?_;refine GW.val 12 Z Be Be Be Z Z f (fun w' a=>by first|exact LU underlying365 BU Z Z J|exact LV underlying365 BU Z Z J) ?_;refine GW.val 14 Z Be Be Be Z Z f (fun w' a=>DV Z) ?_;refine GW.val 15 Z Be Be Be Z Z f (fun w' a=>Dn (off:=24) underlying367 Z Z PG Z Z) ?_;refine cT 13 Z Be Z BU Z Z (by first|rfl|assumption|exact Bp.one Cr) (a9) (by rw[VL];omega) ?_;rintro w3 aj b0;refine⟨⟨_,_,by rw[<-nQ (show m+1<22 by omega)];exact aj⟩,fun f=>?_⟩;refine(Gv [16]) ?_;rw[nQ (show m+1<22 by omega)]at aj;refine(Yt 17 aj (hlt:=by rw[VL];omega)) ?_;rintro w4 t bx;refine⟨⟨_,_,by rw[<-nP (show m+1<22 by omega)];exact t⟩,fun f=>?_⟩;refine(Yd∘O 6) ?_;rw[nP (show m+1<22 by omega)]at t;have a4:Mo w2 w4 [tb]:=((Mo.Age (Bf.drew w2) [tb]).trans b0).trans bx;have a1:=o.mo a4 (fun q hq=>by simp;exact fun z=>o.ne al Bc q hq z.symm);have x4:Bf w w4:=Bv x2 a4 x2.size Bx;have bm:=hL.top (n:=m+1) J;have cc:2 ^ (m+1)<=1048576:=FN (n:=2) Bc (show m+1<=20 by omega)
    have bi:∀n,1<=n->n<=m+1->Dj F (m+1) ((fst l m+CA l m)*2) n=fst l n/\Dj G (m+1) (Aim (Dr l m)) n=FQ l n:=fun n h1 h2=>by
     unfold Dj;grind
    have bh:∀n,Dj F (m+1) ((fst l m+CA l m)*2) n<=4194304:=fun n=>by
     unfold Dj;grind
    generalize cm:Dj F (m+1) ((fst l m+CA l m)*2)=F2 at t bi bh;generalize cl:Dj G (m+1) (Aim (Dr l m))=G2 at t bi;have af:(fst l m+CA l m)*2=fst l (m+1):=by rw[b2,OD]
    have cd:=Vg l m;have bn:=OE (show m<=20 by omega) (show Aim l<=258 from l3);refine(O 5∘Cw 6 (U (((fst l (m+1)+Aim (Gl l (m+1) 0)):Y):H)) (e:=by rw[af];rfl))<|Lo (fun((i,ov,K2,E):Y×Ah×(Y->Y)×Ad)=>(i<=Aim l/\Bk E tb 367 (Fm (.slice (X ⟨D,y,Aa⟩) (Aim l) c) ov F2 G2 K2)/\Bp E w.heap.size 3 1 ov (Aim (Dr l m++Gl l (m+1) i)) (BC .i64 (Dr l m++Gl l (m+1) i))/\(∀n,n<22->K2 n=if n<=m then CA l n else if n=m+1 then Aim (Gl l (m+1) i)else 0)/\Bf w E,[(5,.pointer (X ⟨tb,0,Aa⟩)),(6,U (((fst l (m+1)+Aim (Gl l (m+1) i)):Y):H)),(7,U (((m+1):Y):H)),(50,.slice (X ⟨D,y,Aa⟩) (Aim l) c),(51,U ((Aim l:Y):H)),(52,U i)],E,Aim l-i)) (0,(.slice A0 (Aim (Dr l m)) c0),K,w4) ?_ ?_
    .refine⟨BD _,t,by simpa[Gl]using a1,fun n h1=>?_,x4⟩;rw[hK n h1];split
     .rfl
     .split<;>rfl
    .rintro⟨i,ov,K2,E⟩⟨hi,ai,g,bc,S⟩;have d:=vf l (m+1) i;have cf:=jo l (m+1) i hi;refine(O 5)<|Zi (fun k=>?_) fun k=>?_
     .rw[CF k]at d;have Q:=b6 E S i k;have bj:=a7 _ (BM k);generalize l[i]=x at d Q bj;refine(O 7∘Zv (BZ Q)∘O 9)<|Zi (fun T=>?_) fun T=>?_
      .rw[Ai T]at d;have W:=jo l (m+1) (i+1) k;rw[d,BA,CJ]at W
       have ch:Aim (Dr l m++Gl l (m+1) i)<=1000000:=by
        rw[BA];have:CA l (m+1)<=Aim l:=List.count_le_length;omega
       refine(O 8∘GZ S g) ?_;rintro _ v5 w5 L a2 b1 _;refine(O 2) ?_;have bb:=ai.push b1 (g.ne ai Bc);refine(Zt bb (hlt:=by rw[VL];omega)) ?_;rintro w6 b5 a6;refine(O 2) ?_;have r:Bk w6 tb 367 (Fm (.slice (X ⟨D,y,Aa⟩) (Aim l) c) v5 F2 G2 K2):=b5;have I:=L.mo a6 (fun q hq=>by simp;exact fun z=>L.ne bb Bc q hq z.symm);have x6:Bf w w6:=Bv a2 a6 a2.size Bx;have b7:K2 (m+1)=Aim (Gl l (m+1) i):=by rw[bc _ J,Ag J,Ai Z]
       have bf:=Tk (sv:=.slice (X ⟨D,y,Aa⟩) (Aim l) c) (ov:=v5) (F:=F2) (B:=G2) (C:=K2) (show m+1<22 by omega);rw[b7]at bf;refine Kf 10 Be Be<|HW.val Z Z (EX.move Z)<|HW.val Z Z (EX.move Z)<|HW.val Z Z (DV Z)<|HW.val Z Z (Dn (off:=46) underlying367 Z Z PG Z Z)<|HW.val Z Z (by first|exact LU underlying365 BU Z Z J|exact LV underlying365 BU Z Z J)<|HW.val Z Z (Cg underlying3 Z Z (r.drew.cell_of bf))<|HW.val Z Z (by first|exact JX (b:=1) (m:=9223372036854775807) Z Z Z J|exact JZ (m:=9223372036854775807) Z Z Z Z J)<|HW.val Z Z (DV Z)<|HW.val Z Z (Dn (off:=46) underlying367 Z Z PG Z Z)<|HW.val Z Z (by first|exact LU underlying365 BU Z Z J|exact LV underlying365 BU Z Z J)<|HW.tail<|(Zt r.drew (hlt:=by rw[VL];omega)) ?_;rintro w7 ba a5;refine(O 11) ?_;rw[Aeb (show m+1<22 by omega)]at ba;refine(Cw 6 (U (((fst l (m+1)+Aim (Gl l (m+1) (i+1))):Y):H)) (e:=by rw[d,BA,CJ,No]))<|Lb ((i+1),v5,(Dj K2 (m+1) (Aim (Gl l (m+1) i)+1)),w7) ?_;have ca:=(I.ext (Bf.drew w6)).mo a5 (fun q hq=>by simp;exact fun z=>I.ne r Bc q hq z.symm);have x7:Bf w w7:=Bv (x6.trans (Bf.drew w6)) a5 (x6.trans (Bf.drew w6)).size Bx;refine⟨k,ba,?_,fun n h1=>?_,x7⟩
       .rw[d,<-Cq,<-KC,BA (bs:=[i])];omega
       .unfold Dj;grind
      .rw[Ag T]at d;refine(O 6∘Cw 6 (U (((fst l (m+1)+Aim (Gl l (m+1) (i+1))):Y):H)) (e:=by rw[d]))<|Lb ((i+1),ov,K2,E) ?_;dsimp only;rw[d];exact⟨k,ai,g,bc,S⟩
     .obtain rfl:i=Aim l:=J;rw[YQ,<-ZJ]at*;refine(O 7)<|Lb ((m+1),ov,F2,G2,K2,E) ?_;grind
   .obtain rfl:m=Bz.longest l:=J;refine(O 7∘BH) ?_;refine⟨.inr ⟨b4,tb,Z,a8,ov,F,G,K,al,o,b9,fun n h1=>?_,b8⟩,x2⟩;rw[hK n h1];split
    .rfl
    .exact(fg J).symm
def Vf(l:Bi):∀m,(Dr l m).Nodup/\∀i∈Dr l m,i<Aim l/\1<=l.getD i 0/\l.getD i 0<=m
 |0=>by simp[Dr]
 |m+1=>by
  have ih:=Vf l m;rw[ZJ];refine⟨WE.2 ⟨ih.1,Nn.filter _,fun a ha b hb e=>?_⟩,fun i hi=>?_⟩
  .subst e;have h3:=(ih.2 a ha).2;have h4:=AO (Le.1 hb).2;omega
  .rcases Dz.1 hi with q|q
   .grind
   .have h3:=CQ.1 (Le.1 q).1;have h4:=AO (Le.1 q).2;omega
def yy{l:Bi}(h0:CA l 0=0){m k:Y}(hk:k<Aim (Dr l m)):k=FQ l (l.getD (Dr l m)[k] 0)+MI l (Dr l m)[k]:=by
 obtain⟨d,a⟩:=Vf l m;obtain⟨h,g,f⟩:=a _ (BM hk);obtain⟨i,e⟩:=HF.1 (ZH h0 h g f);exact((Nl d).1 e).symm
def Hb(l:Bi):Bi:=(BE (Aim l)).map (JG l)
def fh{l:Bi}{i:Y}(h:i<Aim l):(Hb l).getD i 0=JG l i:=by
 unfold Hb;grind
def sk(l:Bi)(hL:LOk l)(h3:Aim l<=258)(h2:2<=Aim l)(tb B:Y)(A:Av AC)(c C:Y)(w:Ad)(ht:TabAt w B tb l (.slice A (Aim l) c))(hs:Sl w C A (BC .i64 l)):
 Bn prog 272 [.pointer (X ⟨tb,0,Aa⟩)] w fun v w'=>CV w' w.heap.size v (Hb l)/\Bf w w':=by
 obtain⟨lo,ov,F,G,K,hb,j,a4,hK,a3⟩:=ht;have Q:=UU hL;have af:=hL.Agu;have a:=(Vf l (Bz.longest l)).2;have f:=fun k hk=>yy (m:=Bz.longest l) (k:=k) af hk;have P:=Vg l (Bz.longest l);have al:=OE Q h3;have o:=fun i y h1 h2=>ZH (l:=l) af (i:=i) (m:=Bz.longest l) y h1 h2;generalize Dr l (Bz.longest l)=od at j a f P o;obtain⟨oA,oc,rfl,_,ai⟩:=j.slice;obtain⟨ab,ao,rfl,_,a2⟩:=hs.intAt J;refine Bw func272 Z ntmps272 Be Z ?_;refine(O 12∘Gf) ?_;rintro rb w1 S aj E;refine(O 8) ?_;rw[show BG (Aim l) (U 0)=BC .i64 (BG (Aim l) 0)from(KB _ _ _).symm]at aj;refine(Zv (Bo (hb.ext E))∘O 4)<|Lo (fun((k,t,wr):Y×(Bi)×Ad)=>(k<=Aim od/\Aim t=Aim l/\(∀q (hq:q<Aim od),q<k->t.getD (od[q]'hq) 0=JG l (od[q]'hq))/\Bk wr rb 3 (BC .i64 t)/\Bf w wr,[(0,.pointer (X ⟨tb,0,Aa⟩)),(3,.slice (X ⟨rb,0,Aa⟩) (Aim l) (Aim l)),(17,.slice oA (Aim od) oc),(18,U ((Aim od:Y):H)),(19,U k)],wr,Aim od-k)) (0,(BG (Aim l) 0),w1) ?_ ?_
 .grind
 .rintro⟨k,t,wr⟩⟨hk,r,I,hr,x⟩;refine(O 5)<|Zi (fun T=>?_) fun T=>?_
  .obtain⟨pb,po,rfl,_,W⟩:=ai.intAt J;obtain⟨f1,f2,f3⟩:=a _ (BM T);have N:=f k T;have p:=W wr x k T;have a1:=CF f1;have h:=a4 _ f2 f3;have d:JG l od[k]=fst l (l.getD od[k] 0)+MI l od[k]:=rfl;have g:=a2 wr x od[k] f1;rw[<-a1]at g;generalize a7:od[k]=i at p f1 f2 f3 N h d g;generalize l.getD i 0=n at f2 f3 N h d g;obtain⟨e1,e2⟩:=h;have a8:=a3 n;have V:=hb.ext x;have D:n<22:=J;refine(O 7∘Zv (BZ p)∘O 12∘Zv (BZ g)∘O 2) ?_;refine Kf 18 Be Be<|HW.val Z Z (EX.move Z)<|HW.val Z Z (EX.move Z)<|HW.val Z Z (EX.move Z)<|HW.val Z Z (EX.move Z)<|HW.val Z Z (DV Z)<|HW.val Z Z (Dn (off:=2) underlying367 Z Z PG Z Z)<|HW.val Z Z (by first|exact LU underlying365 BU Z Z J|exact LV underlying365 BU Z Z J)<|HW.val Z Z (Cg underlying3 Z Z (V.drew.cell_of (aU D)))<|HW.val Z Z (EX.move Z)<|HW.val Z Z (by first|exact JX (m:=9223372036854775807) Z Z Z J|exact JZ (m:=9223372036854775807) Z Z Z Z J)<|HW.val Z Z (EX.move Z)<|HW.val Z Z (EX.move Z)<|HW.val Z Z (DV Z)<|HW.val Z Z (Dn (off:=24) underlying367 Z Z PG Z Z)<|HW.val Z Z (by first|exact LU underlying365 BU Z Z J|exact LV underlying365 BU Z Z J)<|HW.val Z Z (Cg underlying3 Z Z (V.drew.cell_of (nO D)))<|HW.val Z Z (by first|exact Kb (m:=9223372036854775807) Z Z Z J|exact RG (m:=9223372036854775807) Z Z Z Z J)<|HW.val Z Z (by first|exact KQ underlying51 BU Z Z J|exact KS underlying51 BU Z Z J)<|HW.tail<|(Zt hr.drew (hlt:=by rw[DF];omega)) ?_;rintro w3 L a0;refine(O 6) ?_;rw[Ir]at L;have a5:=E.size;refine Lb ((k+1),(t.set i (F n+k-G n)),w3) ?_;refine⟨T,Bh,fun q hq a6=>?_,L,Bv (x.trans (Bf.drew wr)) a0 (x.trans (Bf.drew wr)).size Bh⟩;obtain⟨g1,_,_⟩:=a _ (BM hq);rw[CF Bh,RR];by_cases e:i=od[q]
   .rw[Ai e,<-e,d,e1,e2];omega
   .rw[Ag e,<-CF];grind
  .obtain rfl:k=Aim od:=J;refine(O 6∘Bu) ?_
   have e:t=Hb l:=by
    apply Ni (by rw[r];simp[Hb]);intro i h1 h4;have y:i<Aim l:=J;have hm:l.getD i 0∈l:=by rw[CF y];exact BM y
    obtain⟨q1,q2⟩:=HF.1 (o i y (hL.pos _ hm).1 (UT hm));have h5:=I _ q1 q1;rw[q2,CF h1]at h5;rw[h5,<-fh y,CF h4]
   subst e;refine⟨?_,x⟩;unfold CV;rw[r];exact Bp.Agf hr S (by rw[DF,r,Ic]) CE
def yQ(l:Bi)(hL:LOk l)(i:Aim l<=258)(h2:2<=Aim l)(A:Av AC)(c C:Y)(w:Ad)(h:Sl w C A (BC .i64 l)):
 Bn prog 235 [.slice A (Aim l) c] w fun v w'=>(∃u,v=.tuple #[u,U ((0:Y):H)]/\CV w' w.heap.size u (Hb l))/\Bf w w':=by
 have g:GD l=0:=Ai ⟨h2,i,hL⟩;have f:=jY l J (fun x m=>by have:=(hL.pos x m).2;omega) A c C w h;refine Bw func235 Z ntmps235 (by rfl) Z ?_;refine(O 8∘Zc f) ?_;rintro _ j⟨⟨o,rfl⟩|⟨_,k,rfl,n⟩,a⟩
 .exact AK g o
 refine(O 12∘Cd 12∘O 5∘Zc (sk l hL i h2 k w.heap.size A c C j n (h.ext a))) ?_;rintro _ p⟨d,e⟩;refine(O 3∘BH) ?_;exact⟨⟨_,Z,Bp.more d a.size⟩,a.trans e⟩
end
section
attribute [local irreducible] OW KW QW EX GW NV
open Bz
open Classical in
def rh(l:Bi)(hL:LOk l)(h3:Aim l<=258)(x n i B:Y)(hx:x<=4194304)(hn:n<=21)(A:Av AC)(c C:Y)(w:Ad)(ht:TabAt w B i l (.slice A (Aim l) c))(W:Sl w C A (BC .i64 l)):
 Bn prog 279 [.pointer (X ⟨i,0,Aa⟩),U (x:H),U (n:H)] w fun v w'=>v=.bool (decide (Qt l x n))/\Bf w w':=by
 obtain⟨lo,ov,F,G,K,hb,L,D,hK,y⟩:=ht;have P:=UU hL;refine Bw func279 Z ntmps279 Be Z ?_;refine(O 12)<|Lo (fun((m,wr):Y×Ad)=>(n<m/\m<=22/\(∀j,n<j->j<m->¬(j<=Bz.longest l/\0<CA l j/\x*2 ^ (j-n)<fst l j+CA l j))/\Bf w wr,[(0,.pointer (X ⟨i,0,Aa⟩)),(1,U x),(2,U n),(7,U m)],wr,22-m)) ((n+1),w) ?_ ?_
 .exact⟨J,J,fun j h1 h2=>by omega,Bf.refl _⟩
 .rintro⟨m,wr⟩⟨S,m2,k,d⟩;have h:=hb.ext d;refine Ek (Ek (KW.region ?_));refine OW.val Z Z (EX.move Z) ?_;refine OW.val Z Z (EX.move Z) ?_;refine OW.val Z Z (DV Z) ?_;refine OW.val Z Z (Dn (off:=0) underlying367 Z Z Tl Z Z) ?_;refine OW.val Z Z (KT (l:=[.slice A (Aim l) c]) underlying364 Z Tl Z Z (fun j u hj=>h.cell_of (by cases j with|zero=>exact hj|succ j=>grind))) ?_;refine OW.call Z Z Z (jT l J A c C wr (W.ext d)) ?_;rintro _ w2⟨rfl,e⟩;refine(O 2) ?_;have f:=h.ext e;refine Zi (fun t=>?_) fun t=>?_
  .have a:m<22:=J;have ab:=hK m a;obtain⟨e1,e2⟩:=D m J t;have af:=y m;have E:=hL.top (n:=m) J;have I:2 ^ m<=1048576:=FN (n:=2) Bc (show m<=20 by omega);have p:2 ^ (m-n)<=1048576:=FN (n:=2) Bc (show m-n<=20 by omega);have N:x*2 ^ (m-n)<=4194304*1048576:=OE hx p;refine(O 10∘Zq (by exact fun _=>Bo (f.drewN _) (hi:=Tk a))∘O 2)<|Nw 26 (fun h0=>?_) fun h0=>?_
   .refine(O 4∘Zq (by exact fun _=>On (m:=9223372036854775807) Z Z (by show _<=64;omega) Z J)∘O 5∘Zq (by exact fun _=>Bo (f.drewN _) (hi:=aU a))∘O 5∘Zq (by exact fun _=>Bo (f.drewN _) (hi:=Tk a))∘O 3∘QW.nil) fun Q=>Zi (fun r=>?_) fun r=>?_
    .refine(O 4∘Bu) ?_;rw[AM (show Qt l x n from⟨m,t,S,J,J⟩)];exact⟨Z,(d.trans e).trans (Bf.drewN _ _)⟩
    .refine(O 7)<|Lb ((m+1),_) ?_;refine⟨J,J,fun j g o q=>?_,(d.trans e).trans (Bf.drewN _ _)⟩;rcases Db j m with z|z
     .exact k j g z q
     .grind
   .refine(O 20∘QW.nil) fun Q=>(O 8)<|Lb ((m+1),_) ?_;refine⟨J,J,fun j g o q=>?_,(d.trans e).trans (Bf.drewN _ _)⟩;rcases Db j m with z|z
    .exact k j g z q
    .grind
  .refine(O 5∘Bu) ?_;rw[AN (show ¬Qt l x n from fun⟨j,g,o,V,T⟩=>k j o J ⟨g,V,T⟩)];exact⟨Z,d.trans e⟩
def Rb{s:Bg}{p n:Y}(h:p+n<=8*Aim s):Iy s p n=(num (BW s p n),0,p+n):=Ag J
def dO(l:Bi)(a:Y):∀d,FQ l a<=FQ l (a+d)
 |0=>Bq _
 |d+1=>by
  have:=dO l a d;show _<=FQ l (a+d)+_;omega
def XF{l:Bi}{n:Y}(h:0<CA l n):n<=Bz.longest l:=by
 rcases Db (Bz.longest l) n with q|q
 .have:=fg q;omega
 .omega
open Classical in
def yk(l:Bi)(s:Bg)(p f n c:Y):Ps l s p (f+1) n c=if 8*Aim s<=p+n then Aa else if Mv l (n+1) (2*c+(Co s (p+n)).toNat)then X ((Dr l (Bz.longest l)).getD (FQ l (n+1)+(2*c+(Co s (p+n)).toNat-fst l (n+1))) 0,p+n+1)else if Qt l (2*c+(Co s (p+n)).toNat) (n+1)then Ps l s p f (n+1) (2*c+(Co s (p+n)).toNat)else Aa:=by rfl
open Classical in
def xP(l:Bi)(hL:LOk l)(h3:Aim l<=258)(s:Bg)(a7:Aim s<=1000000000)(p L B t D:Y)(hp:p<=8*Aim s)(A:Av AC)(c C:Y)(w:Ad)(ht:TabAt w B L l (.slice A (Aim l) c))(hs:Sl w C A (BC .i64 l))(hC:C<=D)(a0:C<=w.heap.size)(hr:RdAt w D t s p):
 Bn prog 252 [.pointer (X ⟨L,0,Aa⟩),.pointer (X ⟨t,0,Aa⟩)] w fun v w'=>((∃x q,NK l s p=X (x,q)/\x<Aim l/\q<=8*Aim s/\v=.tuple #[U (x:H),U ((0:Y):H)]/\RdAt w' D t s q)∨(NK l s p=Aa/\∃e:Y,GQ e/\v=.tuple #[U ((0:Y):H),U (e:H)]))/\Tm w w' D IZ:=by
 have V:=UU hL;have a1:=hL.Agu;refine Bw func252 Z ntmps252 Be Z ?_;refine(O 14)<|Lo (fun((n,I,wr):Y×Y×Ad)=>(n<=20/\I<2 ^ n/\p+n<=8*Aim s/\Ps l s p (21-n) n I=NK l s p/\RdAt wr D t s (p+n)/\Tm w wr D IZ,[(0,.pointer (X ⟨L,0,Aa⟩)),(1,.pointer (X ⟨t,0,Aa⟩)),(6,U I),(7,U (((n+1):Y):H))],wr,21-n)) (0,0,w) ?_ ?_
 .exact⟨BD _,Bc,hp,Z,hr,Tm.refl _ _ _⟩
 .rintro⟨n,I,wr⟩⟨n1,n2,n3,i,n5,tr⟩;obtain⟨f,hf⟩:∃f,21-n=f+1:=⟨20-n,J⟩;rw[hf,yk]at i;have a2:2 ^ n<=1048576:=FN (n:=2) Bc (show n<=20 by omega);have a8:2 ^ (n+1)=2*2 ^ n:=by rw[IQ];omega
  obtain⟨v0,e0,q0,aj,ab⟩:=MJ s (p+n) 1;have c1:=MT D t s (p+n) 1 Bc n3 J wr n5;rw[aj]at c1;refine(O 5∘Zc c1) ?_;rintro _ w2⟨rfl,r,t2⟩;refine(O 12) ?_;have a:=tr.trans t2;refine Zi (fun he=>?_) fun he=>?_
  .rcases ab with⟨h,rfl,rfl,rfl⟩|⟨h,rfl,rfl,rfl⟩
   .rw[Ai J]at i;refine(O 6∘BH) ?_;exact⟨.inr ⟨i.symm,10,⟨Bc,Bc⟩,Z⟩,a⟩
   .exact AK Z he
  .rcases ab with⟨h,rfl,rfl,rfl⟩|⟨h,rfl,rfl,rfl⟩
   .exact AK (show(10:Y)≠0 by decide) he
   .have e1:=SU (s:=s) (p:=p+n) J;rw[Rb h]at e1;injection e1 with e1 _;rw[e1];rw[Ag J]at i;have bc:=PR (Co s (p+n));have S:=lw I (Co s (p+n));obtain⟨lo,ov,F,G,K,hb,P,ai,hK,ao⟩:=ht.tm a Z Z;have bh:=ao (n+1);have bf:=hK (n+1) J;have k:n+1<22:=J;refine(O 4∘Zv (by exact Hk (s:=1) (p:=2) (m:=9223372036854775807) Z Z Bc Bc Z J)∘O 2∘Zv (by exact Ol (m:=9223372036854775807) Z Z Z J)∘O 11) ?_;generalize ba:I*2|||(Co s (p+n)).toNat=c2 at S ⊢;rw[<-S]at i;have a6:c2<=4194304:=J;refine(Zv (Bo hb (hi:=aU k))∘O 4)<|Lc (fun(d9:Aw)=>(d9=decide (Mv l (n+1) c2),[(0,.pointer (X ⟨L,0,Aa⟩)),(1,.pointer (X ⟨t,0,Aa⟩)),(6,U c2),(7,U (((n+1):Y):H)),(10,U (((c2:H)-(F (n+1):H)):H)),(54,.bool d9)],w2)) ?_ ?_
    .refine(O 6∘Zv (Bo hb (hi:=Tk k))∘O 2)<|Zd 41 (fun k1=>?_) fun k1=>?_
     .obtain⟨f1,f2⟩:=ai (n+1) J (XF J);refine(O 4)<|Zd 45 (fun k2=>?_) fun k2=>?_
      .refine(O 6∘Zv (Bo hb (hi:=Tk k))∘O 3∘Lm (decide ((c2:H)-(F (n+1):H)<(K (n+1):H)))) ?_;rw[decide_eq_decide];unfold Mv;omega
      .refine(O 10∘Lm Aj) ?_;refine(AN fun q=>?_).symm;unfold Mv at q;omega
     .refine(O 14∘Lm Aj) ?_;refine(AN fun q=>?_).symm;unfold Mv at q;omega
    .rintro d9 rfl;refine Zi (fun g=>?_) fun g=>?_
     .obtain⟨q1,q2,q3⟩:=id g;obtain⟨f1,f2⟩:=ai (n+1) J (XF q1);have a3:=lx a1 (Bz.longest l);have al:=dO l (n+1+1) (Bz.longest l+1-(n+1+1));have a9:=XF q1;rw[show n+1+1+(Bz.longest l+1-(n+1+1))=Bz.longest l+1 by omega]at al;have bb:FQ l (n+1+1)=FQ l (n+1)+CA l (n+1):=rfl;rw[Ai g]at i;have o:FQ l (n+1)+(c2-fst l (n+1))<Aim (Dr l (Bz.longest l)):=J;have j:=(Vf l (Bz.longest l)).2 _ (BM o);rw[CF o]at i;obtain⟨oA,oc,rfl,_,Q⟩:=P.slice;obtain⟨ob,oo,rfl,_,T⟩:=Q.intAt J;have d:=fun W hW=>T W hW _ o;generalize(Dr l (Bz.longest l))[FQ l (n+1)+(c2-fst l (n+1))]=x at i j d;have a5:=Vg l (Bz.longest l);have a4:=OE V h3;rw[<-f1,<-f2]at o d;refine(Cw 10 (U (((c2-F (n+1)):Y):H)) (e:=by exact Ar (Value.int .i64) J)∘O 5∘Zq (by exact fun _=>Bo (hb.drewN _))∘O 5∘Zq (by exact fun _=>Bo (hb.drewN _) (hi:=nO k))∘O 3∘Zq (by exact fun _=>BZ (d _ (Bf.drewN w2 _)))∘O 2∘QW.nil) fun nq=>(BH) ?_;exact⟨.inl ⟨x,p+n+1,i.symm,j.1,h,Z,r.ext (Bf.drewN _ _)⟩,a.trans (Tm.Age (Bf.drewN _ _) _ _)⟩
     .rw[Ag g]at i;have N:=hs.below (a.below (Below.refl C w) a0 hC);refine(O 6∘Zc (rh l hL h3 c2 (n+1) L B J J A c C w2 (ht.tm a Z Z) N)) ?_;rintro _ w3⟨rfl,y⟩;refine(O 2)<|Zi (fun E=>?_) fun E=>?_
      .rw[Ag E]at i;refine(O 5∘BH) ?_;exact⟨.inr ⟨i.symm,90,⟨Bc,Bc⟩,Z⟩,a.trans (Tm.Age y _ _)⟩
      .have af:=Dm.1 E;rw[Ai af]at i;obtain⟨m,m1,m2,_,_⟩:=af;refine(O 7)<|Lb ((n+1),c2,w3) ?_;refine⟨J,J,h,?_,r.ext y,a.trans (Tm.Age y _ _)⟩;grind
def qO{l:Bi}{s:Bg}{fin:Y}:∀(k p:Y) (xs:Bi) (q:Y),Gh l s fin (k+1) p=X (xs,q)->xs≠[]
 |k,p,xs,q,h=>by
  rw[Gh]at h;split at h
  .grind
  .split at h
   .grind
   .obtain⟨r,_,e⟩:=Nq.1 h;grind
def qP(l:Bi)(s:Bg)(fin k p:Y):Gh l s fin (k+1) p=match NK l s p with
 |none=>Aa
 |some (x,q)=>if x=fin then X ([x],q)else(Gh l s fin k q).map fun r=>(x::r.1,r.2):=by rfl
def xQ(l:Bi)(hL:LOk l)(h3:Aim l<=258)(s:Bg)(hsl:Aim s<=1000000000)(p tb B rb D:Y)(hp:p<=8*Aim s)(A:Av AC)(c C:Y)(w:Ad)(ht:TabAt w B tb l (.slice A (Aim l) c))(hs:Sl w C A (BC .i64 l))(hC:C<=D)(hCs:C<=w.heap.size)(hr:RdAt w D rb s p):
 Bn prog 252 [.pointer (X ⟨tb,0,Aa⟩),.pointer (X ⟨rb,0,Aa⟩)] w fun v w'=>(∃x e:Y,v=.tuple #[U (x:H),U (e:H)]/\((e=0/\∃q,NK l s p=X (x,q)/\x<Aim l/\q<=8*Aim s/\RdAt w' D rb s q)∨(GQ e/\NK l s p=Aa)))/\Tm w w' D IZ:=
 (xP l hL h3 s hsl p tb B rb D hp A c C w ht hs hC hCs hr).mono fun v w'⟨h,t⟩=>by
  grind
def all_s(l:Bi)(hL:LOk l)(h3:Aim l<=258)(h2:2<=Aim l)(s:Bg)(ai:Aim s<=1000000000)(p fin:Y)(hp:p<=8*Aim s)(a7:fin<=1000)(A:Av AC)(c C:Y)(w:Ad)(T:C<=w.heap.size)(hs:Sl w C A (BC .i64 l)):
 Bn prog 205 [.slice A (Aim l) c,Bj s,U (p:H),U 50,U (fin:H)] w fun v w'=>((∃u xs q,Gh l s fin 50 p=X (xs,q)/\xs≠[]/\Aim xs<=50/\(∀x∈xs,x<Aim l)/\q<=8*Aim s/\v=.tuple #[u,U (q:H),U ((0:Y):H)]/\CV w' w.heap.size u xs)∨(Gh l s fin 50 p=Aa/\∃e:Y,GQ e/\v=.tuple #[.slice Aa 0 0,U ((0:Y):H),U (e:H)]))/\Bf w w':=by
 have a5:GD l=0:=Ai ⟨h2,h3,hL⟩;have a4:=jY l J (fun x hx=>by have:=(hL.pos x hx).2;omega) A c C w hs;refine Bw func205 Z ntmps205 (by rfl) Z ?_;refine(O 9∘Zc a4) ?_;rintro _ t⟨⟨hq,rfl⟩|⟨_,tb,rfl,ht⟩,f⟩
 .exact AK a5 hq
 refine(O 12∘Cd 25∘O 6∘Zc (Po s p hp J t)) ?_;rintro _ j⟨I,rfl,ao,P⟩;refine(O 8) ?_;refine OW.as 32 (.bool Aj) Z (Z)<|(O 4)<|Zi (fun a3=>?_) fun a3=>?_
 .omega
 .have hD:C<=t.heap.size:=BF T f.size;have i:=f.trans P;refine(O 6) ?_;have af:=ht.ext P;have aj:=hs.ext i;have ab:=i.size;refine Lc (fun((q,o,B,wr):Y×(Bi)×Ah×Ad)=>(Gh l s fin 50 p=X (o,q)/\Aim o<=50/\(∀x∈o,x<Aim l)/\q<=8*Aim s/\RdAt wr t.heap.size I s q/\Bp wr j.heap.size 3 1 B (Aim o) (BC .i64 o)/\Bf w wr,[(15,.pointer (X ⟨I,0,Aa⟩)),(16,B)],wr)) ?_ ?_
  .refine(O 1)<|Lo (fun((q,o,B,wr):Y×(Bi)×Ah×Ad)=>(Aim o<=50/\(∀x∈o,x<Aim l)/\q<=8*Aim s/\(Gh l s fin (50-Aim o) q).map (fun r=>(o++r.1,r.2))=Gh l s fin 50 p/\RdAt wr t.heap.size I s q/\Bp wr j.heap.size 3 1 B (Aim o) (BC .i64 o)/\Tm j wr t.heap.size IZ,[(3,U ((50:Y):H)),(4,U fin),(13,.pointer (X ⟨tb,0,Aa⟩)),(15,.pointer (X ⟨I,0,Aa⟩)),(16,B)],wr,50-Aim o)) (p,([]),(.slice Aa 0 0),j) ?_ ?_
   .refine⟨BD _,Bl,hp,?_,ao,Bp.nil _ _ _ _,Tm.refl _ _ _⟩;simp
   .rintro⟨q,o,B,wr⟩⟨o1,o2,q1,n,al,m,tr⟩;obtain⟨A0,c0,rfl,_,_⟩:=m.slice;have hx:Bf w wr:=tr.below i i.size f.size;refine(O 8)<|Zi (fun hc=>?_) fun hc=>?_
    .obtain⟨k,hk⟩:∃k,50-Aim o=k+1:=⟨49-Aim o,J⟩;rw[hk,qP]at n;have a2:=xQ l hL h3 s ai q tb w.heap.size I t.heap.size q1 A c C wr (af.tm tr Z Z) (aj.below (tr.below (Below.refl C j) J hD)) hD (BF T hx.size) al;refine(O 6∘Zc a2) ?_;rintro _ w3⟨⟨x,e,rfl,h⟩,t3⟩;refine(O 12) ?_;have D:=tr.trans t3;have x3:Bf w w3:=D.below i i.size f.size;refine Zi (fun G=>?_) fun G=>?_
     .rcases h with⟨rfl,_⟩|⟨V,K⟩
      .exact AK Z G
      .rw[K]at n;refine(O 7∘CS) ?_;grind
     .rcases h with⟨rfl,q2,K,x9,q9,a1⟩|⟨V,K⟩
      .rw[K]at n;simp only at n;have d:=t3.own m Z;refine(O 5∘Qs j.heap.size D.size d) ?_;rintro _ W L a Q a6;refine(O 8) ?_;replace a:Bp L j.heap.size 3 1 W (Aim o+1) (BC .i64 o++[U (x:H)]):=a;rw[KC]at a;have E:Bp L j.heap.size 3 1 W (Aim (o++[x])) (BC .i64 (o++[x])):=by rw[BA];exact a
       have N:=D.fresh Q (fun q hq=>(d.lt q (Fb.1 hq)).1);have a0:=a1.tm (Tm.Agl d Q) Z Z;have x4:Bf w L:=N.below i i.size f.size
       have S:∀y∈o++[x],y<Aim l:=fun y hy=>by
        grind
       refine Zi (fun g=>?_) fun g=>?_
       .rw[Ai g]at n;refine(O 1∘Lm (q2,(o++[x]),W,L)) ?_;grind
       .rw[Ag g]at n;refine(O 2)<|Lb (q2,(o++[x]),W,L) ?_ (hm:=by dsimp only;rw[BA,CJ];omega);refine⟨by rw[BA,CJ];omega,S,q9,?_,a0,E,N⟩;rw[<-n,BA,CJ,show 50-(Aim o+1)=k by omega];show _=((Gh l s fin k q2).map fun r=>(x::r.1,r.2)).map fun r=>(o++r.1,r.2)
        rw[Option.map_map];congr 1;grind
      .exact AK (Dm.1 G) (by have:=V.1;omega)
    .have:50-Aim o=0:=J;rw[this,Gh]at n;refine(O 1∘Lm (q,o,_,wr)) ?_;grind
  .rintro⟨q,o,B,wr⟩⟨V,K,e3,e4,e5,e6,e7⟩;obtain⟨A0,c0,rfl,_,_⟩:=e6.slice;refine(O 4∘Zc (SS t.heap.size I s q wr e5)) ?_;rintro _ _⟨rfl,rfl⟩;refine(O 4∘CS) ?_;exact⟨.inl ⟨_,o,q,V,qO 49 p o q V,K,e3,e4,Z,Bp.more e6 ab⟩,e7⟩
end
section
attribute [local irreducible] OW KW QW EX GW NV
open Bz
def sL{now x:Y}(h:now<x):Hs now x=[Af,Aj]++Hs (now+1) x:=by
 unfold Hs;rw[show x-now=(x-(now+1))+1 by omega,show now-x=0 by omega,show now+1-x=0 by omega,HI,Nj];simp
def sI{now x:Y}(h:x<now):Hs now x=[Af,Af]++Hs (now-1) x:=by
 unfold Hs;rw[show now-x=(now-1-x)+1 by omega,show x-now=0 by omega,show x-(now-1)=0 by omega,HI,Nj];simp
def sK(x:Y):Hs x x=[Aj]:=by simp[Hs]
def sJ{now x:Y}(h1:now<=20)(h2:x<=20):Aim (Hs now x)<=41:=by
 unfold Hs;simp;omega
def fB:∀(l:Bi) (now:Y),now<=20->(∀x∈l,x<=20)->Aim (HN now l)<=41*Aim l
 |[],_,_,_=>by simp[HN]
 |x::l,now,h1,h2=>by
  have hx:=h2 x Bl;have:=sJ h1 hx;have:=fB l x hx (fun y hy=>h2 y Bh);rw[HN,BA,Cv];omega
def Ux{l:Bi}(h:∀x∈l,x<=20)(h0:l≠[]):Aim (dShow l)<=5+41*Aim l:=by
 unfold dShow;cases l with
 |nil=>grind
 |cons x r=>
  rw[BA,nb_length];have:=fB (x::r) x (h x Bl) h;grind
def tI(l:Bi)(h2:2<=Aim l)(h3:Aim l<=258)(E:∀x∈l,1<=x/\x<=20)(A:Av AC)(c C:Y)(w:Ad)(hs:Sl w C A (BC .i64 l)):
 Bn prog 233 [.slice A (Aim l) c] w fun v w'=>v=.tuple #[.agg (DT (dShow l)).toArray,U ((0:Y):H)]/\Bf w w':=by
 obtain⟨b,f,rfl,_,L⟩:=hs.intAt J;have a0:=Ux (fun x o=>(E x o).2) (fun e=>by grind);have d:Aim (dShow l)<=20000:=J;refine Bw func233 Z ntmps233 Be Z ?_;refine(O 2∘Zn) ?_;rintro q n al ai t;refine(O 4)<|Lc (fun(d1:Aw)=>(d1=Aj,[(0,.slice (X ⟨b,f,Aa⟩) (Aim l) c),(2,.pointer (X ⟨q,0,Aa⟩)),(17,.bool d1)],n)) ?_ ?_
 .refine(O 5)<|Zd 13 (fun c1=>?_) fun c1=>?_
  .omega
  .refine(O 5∘Lm (decide (Aim l>258))) ?_;exact AN J
 .rintro d1 rfl;refine(O 10)<|Lo (fun(i:Y)=>(i<=Aim l,[(0,.slice (X ⟨b,f,Aa⟩) (Aim l) c),(2,.pointer (X ⟨q,0,Aa⟩)),(19,.slice (X ⟨b,f,Aa⟩) (Aim l) c),(20,U ((Aim l:Y):H)),(21,U i)],n,Aim l-i)) 0 ?_ ?_
  .simp
  .rintro i hi;refine(O 5)<|Zi (fun hc=>?_) fun hc=>?_
   .have y:=E _ (BM hc);have k:=L n t i hc;generalize l[i]=x at y k;refine(O 6∘Zv (BZ k)∘O 3)<|Lc (fun(d6:Aw)=>(d6=Aj,[(0,.slice (X ⟨b,f,Aa⟩) (Aim l) c),(2,.pointer (X ⟨q,0,Aa⟩)),(19,.slice (X ⟨b,f,Aa⟩) (Aim l) c),(20,U ((Aim l:Y):H)),(21,U i),(30,.bool d6)],n)) ?_ ?_
    .refine(O 4)<|Zd 27 (fun c1=>?_) fun c1=>?_
     .omega
     .refine(O 4∘Lm (decide (x>20))) ?_;exact AN J
    .rintro d6 rfl;refine(O 7)<|Lb (i+1) ?_;omega
   .have h0:0<Aim l:=J;have Q:=E _ (BM h0)
    have IT:dShow l=nb 5 l[0]++HN l[0] l:=by
     cases l with
     |nil=>grind
     |cons a r=>rfl
    have p:=fun W g=>L W g 0 h0;generalize l[0]=x0 at Q IT p;refine(O 3∘Zc (Pp n)) ?_;rintro _ w1⟨m,rfl,T,P⟩;refine(O 7) ?_;have x1:=t.trans P;have af:=ai.ext P;refine(Zv (BZ (p w1 x1))∘O 1∘Zc (GJ n.heap.size m [] x0 5 J Bc (show x0<2 ^ 5 by omega) Bc w1 T)) ?_;rintro _ w2⟨rfl,S,t2⟩;refine(O 5) ?_;have x2:Bf w w2:=t2.below x1 x1.size t.size;have ao:=t2.bk af Z;rw[Ev]at S;refine(Zv (BZ (p w2 x2))∘O 10)<|Lo (fun((i,now,W,wr):Y×Y×(Ae Aw)×Ad)=>(i<=Aim l/\1<=now/\now<=20/\W++HN now (l.drop i)=dShow l/\FB wr n.heap.size m W/\Bk wr q 226 [Bj [],U 0]/\Bf w wr,[(0,.slice (X ⟨b,f,Aa⟩) (Aim l) c),(2,.pointer (X ⟨q,0,Aa⟩)),(6,.pointer (X ⟨m,0,Aa⟩)),(7,U now),(43,.slice (X ⟨b,f,Aa⟩) (Aim l) c),(44,U ((Aim l:Y):H)),(45,U i)],wr,Aim l-i)) (0,x0,(nb 5 x0),w2) ?_ ?_
    .grind
    .rintro⟨i,now,W,wr⟩⟨i1,n1,n2,g,h,I,o⟩;refine(O 5)<|Zi (fun D=>?_) fun D=>?_
     .have y:=E _ (BM D);have k:=L wr o i D;rw[Ds D,HN]at g;generalize l[i]=x at y k g;generalize K:HN x (l.drop (i+1))=rest at g;refine(O 6∘Zv (BZ k)∘O 3)<|Lc (fun((now,W,wr):Y×(Ae Aw)×Ad)=>(x<=now/\now<=20/\W++(Hs now x++rest)=dShow l/\FB wr n.heap.size m W/\Bk wr q 226 [Bj [],U 0]/\Bf w wr,[(0,.slice (X ⟨b,f,Aa⟩) (Aim l) c),(2,.pointer (X ⟨q,0,Aa⟩)),(6,.pointer (X ⟨m,0,Aa⟩)),(7,U now),(9,U x),(43,.slice (X ⟨b,f,Aa⟩) (Aim l) c),(44,U ((Aim l:Y):H)),(45,U i)],wr)) ?_ ?_
      .refine(O 1)<|Lo (fun((now,W,wr):Y×(Ae Aw)×Ad)=>(now<=20/\W++(Hs now x++rest)=dShow l/\FB wr n.heap.size m W/\Bk wr q 226 [Bj [],U 0]/\Bf w wr,[(0,.slice (X ⟨b,f,Aa⟩) (Aim l) c),(2,.pointer (X ⟨q,0,Aa⟩)),(6,.pointer (X ⟨m,0,Aa⟩)),(7,U now),(9,U x),(43,.slice (X ⟨b,f,Aa⟩) (Aim l) c),(44,U ((Aim l:Y):H)),(45,U i)],wr,x-now)) (now,W,wr) ?_ ?_
       .grind
       .rintro⟨now,W,wr⟩⟨n2,g,h,I,o⟩;refine(O 7)<|Zi (fun B=>?_) fun B=>?_
        .rw[sL B]at g;have V:Aim W<=20000:=by rw[<-g]at d;rw[BA]at d;omega
         refine(O 5∘Zc (GJ n.heap.size m W 2 2 Bc Bc Bc J wr h)) ?_;rintro _ N⟨rfl,j,G⟩;refine(O 7)<|Lb ((now+1),(W++nb 2 2),N) ?_;exact⟨J,by rw[<-g];simp[show nb 2 2=[Af,Aj]from Z],j,G.bk I Z,G.below o o.size t.size⟩
        .refine(O 1∘Lm (now,W,wr)) ?_;grind
      .rintro⟨now,W,wr⟩⟨n1,n2,g,h,I,o⟩;refine(O 1)<|Lc (fun((W,wr):(Ae Aw)×Ad)=>(W++(Hs x x++rest)=dShow l/\FB wr n.heap.size m W/\Bk wr q 226 [Bj [],U 0]/\Bf w wr,[(0,.slice (X ⟨b,f,Aa⟩) (Aim l) c),(2,.pointer (X ⟨q,0,Aa⟩)),(6,.pointer (X ⟨m,0,Aa⟩)),(7,U x),(9,U x),(43,.slice (X ⟨b,f,Aa⟩) (Aim l) c),(44,U ((Aim l:Y):H)),(45,U i)],wr)) ?_ ?_
       .refine(O 1)<|Lo (fun((now,W,wr):Y×(Ae Aw)×Ad)=>(x<=now/\now<=20/\W++(Hs now x++rest)=dShow l/\FB wr n.heap.size m W/\Bk wr q 226 [Bj [],U 0]/\Bf w wr,[(0,.slice (X ⟨b,f,Aa⟩) (Aim l) c),(2,.pointer (X ⟨q,0,Aa⟩)),(6,.pointer (X ⟨m,0,Aa⟩)),(7,U now),(9,U x),(43,.slice (X ⟨b,f,Aa⟩) (Aim l) c),(44,U ((Aim l:Y):H)),(45,U i)],wr,now-x)) (now,W,wr) ?_ ?_
        .grind
        .rintro⟨now,W,wr⟩⟨n1,n2,g,h,I,o⟩;refine(O 7)<|Zi (fun B=>?_) fun B=>?_
         .rw[sI B]at g;have V:Aim W<=20000:=by rw[<-g]at d;rw[BA]at d;omega
          refine(O 5∘Zc (GJ n.heap.size m W 3 2 Bc Bc Bc J wr h)) ?_;rintro _ N⟨rfl,j,G⟩;refine(O 7)<|Lb ((now-1),(W++nb 2 3),N) ?_;exact⟨J,J,by rw[<-g];simp[show nb 2 3=[Af,Af]from Z],j,G.bk I Z,G.below o o.size t.size⟩
         .obtain rfl:now=x:=J;refine(O 1∘Lm (W,wr)) ?_;grind
       .rintro⟨W,wr⟩⟨g,h,I,o⟩;rw[sK]at g;have V:Aim W<=20000:=by rw[<-g]at d;rw[BA]at d;omega
        refine(O 2∘Zc (GJ n.heap.size m W 0 1 Bc Bc Bc J wr h)) ?_;rintro _ N⟨rfl,j,G⟩;refine(O 6)<|Lb ((i+1),x,(W++nb 1 0),N) ?_;exact⟨D,y.1,y.2,by rw[K,<-g];simp[show nb 1 0=[Aj]from Z],j,G.bk I Z,G.below o o.size t.size⟩
     .obtain rfl:i=Aim l:=J;rw[IK,HN,List.append_nil]at g;subst g;refine(O 4∘Zc (Oa n.heap.size m _ wr h)) ?_;rintro _ _⟨rfl,rfl⟩;refine(O 1∘Zc (MW n.heap.size m _ wr h)) ?_;rintro _ _⟨rfl,rfl⟩;refine(O 1∘Zs I) ?_;rintro w7 ab aj;refine(O 2) ?_;have x7:Bf w w7:=Bv o aj o.size Bh;refine(Du ab) ?_;grind
def XW(g a D:Y)(s:Bg)(p n:Y)(l:n<=30)(k:p<=8*Aim s)(t:Aim s<=1000000000)(w:Ad)(x:Bk w g 253 [.pointer (X ⟨a,0,Aa⟩)])(j:RdAt w D a s p):
 Bn prog 249 [U (n:H),.pointer (X ⟨g,0,Aa⟩)] w fun v w'=>v=.tuple #[U (((Iy s p n).1:Y):H),U (((Iy s p n).2.1:Y):H)]/\RdAt w' D a s (Iy s p n).2.2/\Tm w w' D IZ:=by
 have i:=MT D a s p n J k J w j
 have m:(Iy s p n).1<=1073741824:=by
  obtain⟨v,e,q,f,d⟩:=MJ s p n;rw[f];rcases d with⟨_,h,_⟩|⟨_,h,_⟩
  .omega
  .rw[h];have A:=Kq s p n;have y:2 ^ n<=1073741824:=FN (n:=2) Bl l;omega
 generalize Iy s p n=r at i m ⊢;obtain⟨v,e,q⟩:=r;refine Bw func249 Z ntmps249 (by rfl) Z ?_;refine(O 9∘Zc i) ?_;rintro _ o⟨rfl,f,d⟩;refine(O 14∘BH) ?_;grind
def XJ(s:Bg)(f p k now:Y)(a:Bi):Ft s (f+1) p (k+1) now a=if now<1∨20<now then Aa else if 8*Aim s<=p then Aa else if Co s p=Aj then Ft s f (p+1) k now (a++[now])else if 8*Aim s<=p+1 then Aa else Ft s f (p+2) (k+1) (if Co s (p+1)then now-1 else now+1) a:=by rfl
def fF(s:Bg)(p k now:Y)(a:Bi):Ft s 0 p (k+1) now a=Aa:=by rfl
def sM(s:Bg)(f p now:Y)(a:Bi):Ft s f p 0 now a=X (a,p):=by rw[Ft]
def tK(s:Bg)(p n:Y)(hp:p<=8*Aim s)(hn:2<=n/\n<=258)(hs:Aim s<=1000000000)(w:Ad):
 Bn prog 202 [Bj s,U (p:H),U (n:H)] w fun v w'=>(∃u t,∃q e:Y,v=.tuple #[u,U (q:H),U (e:H)]/\CV w' w.heap.size u t/\((e=0/\JI s p n=X (t,q)/\Aim t=n/\(∀x∈t,1<=x/\x<=20)/\q<=8*Aim s)∨(GQ e/\JI s p n=Aa)))/\Bf w w':=by
 obtain⟨bh,bf⟩:=hn;obtain⟨v0,e0,q0,a8,a0⟩:=MJ s p 5;refine Bw func202 Z ntmps202 (by rfl) Z ?_;refine(O 11∘Zc (Po s p hp J w)) ?_;rintro _ w1⟨Q,rfl,a4,T⟩;refine(Ml) ?_;rintro r w2 bb y D;refine(Zt y) ?_;rintro w3 al ai;refine(O 3) ?_;have x2:=T.trans D;have bc:=T.size;have x3:Bf w w3:=Bv x2 ai x2.size Bx;have y3:Bf w1 w3:=Bv D ai D.size Bx;have V:=a4.ext y3;refine Lc (fun(d2:Aw)=>(d2=Aj,[(2,U n),(9,.pointer (X ⟨r,0,Aa⟩)),(29,.bool d2)],w3)) ?_ ?_
 .refine(O 4) ?_;refine OW.as 22 (.bool Aj) Z (Z)<|(O 4)<|Zd 26 (fun c2=>?_) fun c2=>?_
  .omega
  .refine(O 4∘Lm (decide (n>258))) ?_;grind
 .rintro d2 rfl;refine(O 4∘Zv (by exact Gc Z Z)∘O 5) ?_;have c1:=XW r Q w.heap.size s p 5 Bc hp hs w3 al V;rw[a8]at c1;refine(Ea c1) ?_;rintro _ A⟨rfl,a5,t4⟩;refine(O 12) ?_;have m:Bf w A:=t4.below x3 x3.size (Bq _);refine Zi (fun he=>?_) fun he=>?_
  .rcases a0 with⟨h,rfl,rfl,rfl⟩|⟨h,rfl,rfl,rfl⟩
   .refine(O 7∘CS) ?_;exact⟨⟨_,[],0,10,Z,CV.nil _ _,.inr ⟨⟨Bc,Bc⟩,Ai h⟩⟩,m⟩
   .exact AK Z he
  .rcases a0 with⟨h,rfl,rfl,rfl⟩|⟨h,rfl,rfl,rfl⟩
   .exact AK (show(10:Y)≠0 by decide) he
   .have aj:JI s p n=Ft s (8*Aim s-(p+5)) (p+5) n (num (BW s p 5)) []:=Ag J;have ba:=Kq s p 5;generalize num (BW s p 5)=now0 at aj ba;have K:=t4.bk al Z;have a3:=m.size;refine(O 9)<|Lo (fun((q,now,o,vo,f,wr):Y×Y×(Bi)×Ah×Y×Ad)=>(Aim o<=n/\now<=32/\(∀x∈o,1<=x/\x<=20)/\q<=8*Aim s/\8*Aim s<=f+q/\Ft s f q (n-Aim o) now o=JI s p n/\RdAt wr w.heap.size Q s q/\Bp wr A.heap.size 3 1 vo (Aim o) (BC .i64 o)/\Tm A wr w.heap.size IZ,[(2,U n),(9,.pointer (X ⟨r,0,Aa⟩)),(10,.func (.func 249) #[] #[.pointer (X ⟨r,0,Aa⟩)]),(11,U now),(13,vo)],wr,n-Aim o)) ((p+5),now0,([]),(.slice Aa 0 0),(8*Aim s-(p+5)),A) ?_ ?_
    .exact⟨BD _,J,Bl,h,J,aj.symm,a5,Bp.nil _ _ _ _,Tm.refl _ _ _⟩
    .rintro⟨q,now,o,vo,f,wr⟩⟨o1,n1,o2,q1,f1,a,E,g,P⟩;obtain⟨A0,c0,rfl,_,_⟩:=g.slice;refine(O 8)<|Zi (fun hc=>?_) fun hc=>?_
     .obtain⟨k,hk⟩:∃k,n-Aim o=k+1:=⟨n-Aim o-1,J⟩;rw[hk]at a;refine(O 3)<|Lo (fun((q,now,f,wr):Y×Y×Y×Ad)=>(now<=32/\q<=8*Aim s/\8*Aim s<=f+q/\Ft s f q (k+1) now o=JI s p n/\RdAt wr w.heap.size Q s q/\Bp wr A.heap.size 3 1 (.slice A0 (Aim o) c0) (Aim o) (BC .i64 o)/\Tm A wr w.heap.size IZ,[(2,U n),(9,.pointer (X ⟨r,0,Aa⟩)),(10,.func (.func 249) #[] #[.pointer (X ⟨r,0,Aa⟩)]),(11,U now),(13,.slice A0 (Aim o) c0)],wr,8*Aim s-q)) (q,now,f,wr) ?_ ?_
      .grind
      .rintro⟨q,now,f,wr⟩⟨n1,q1,f1,a,E,g,P⟩;have xr:Bf w wr:=P.below m m.size (Bq _);refine(O 3)<|Lc (fun(N:Aw)=>(N=decide (now<1∨20<now),[(2,U n),(9,.pointer (X ⟨r,0,Aa⟩)),(10,.func (.func 249) #[] #[.pointer (X ⟨r,0,Aa⟩)]),(11,U now),(13,.slice A0 (Aim o) c0),(48,.bool N)],wr)) ?_ ?_
       .refine(O 4)<|Zd 45 (fun c1=>?_) fun c1=>?_
        .refine(O 4∘Lm Af) ?_;grind
        .refine(O 4∘Lm (decide (now>20))) ?_;grind
       .rintro N rfl;refine Zi (fun i=>?_) fun i=>?_
        .have G:JI s p n=Aa:=by
          rw[<-a];cases f with
          |zero=>exact fF ..
          |succ f=>rw[XJ,Ai i]
         refine(O 6∘CS) ?_;exact⟨⟨_,[],0,80,Z,CV.nil _ _,.inr ⟨⟨Bc,Bc⟩,G⟩⟩,xr⟩
        .obtain⟨v1,e1,q2,a7,ao⟩:=MJ s q 1;have cc:=XW r Q w.heap.size s q 1 Bc q1 hs wr (P.bk K Z) E;rw[a7]at cc;refine(O 4∘Ea cc) ?_;rintro _ w5⟨rfl,ab,t5⟩;refine(O 12) ?_;have j:=P.trans t5;have x5:Bf w w5:=j.below m m.size (Bq _);refine Zi (fun I=>?_) fun I=>?_
         .rcases ao with⟨h1,rfl,rfl,rfl⟩|⟨h1,rfl,rfl,rfl⟩
          .have G:JI s p n=Aa:=by
            rw[<-a];cases f with
            |zero=>exact fF ..
            |succ f=>rw[XJ,Ag i,Ai J]
           refine(O 7∘CS) ?_;exact⟨⟨_,[],0,10,Z,CV.nil _ _,.inr ⟨⟨Bc,Bc⟩,G⟩⟩,x5⟩
          .exact AK Z I
         .rcases ao with⟨h1,rfl,rfl,rfl⟩|⟨h1,rfl,rfl,rfl⟩
          .exact AK (show(10:Y)≠0 by decide) I
          .have e1:=SU (s:=s) (p:=q) J;rw[Rb h1]at e1;injection e1 with e1 _;rw[e1];obtain⟨f',rfl⟩:∃f',f=f'+1:=⟨f-1,J⟩;rw[XJ,Ag i,Ag J]at a;have d:=t5.own g Z;have bj:=PR (Co s q);refine(O 7)<|Zi (fun h0=>?_) fun h0=>?_
           .have L:Co s q=Aj:=by
             cases hb:Co s q
             .rfl
             .grind
            rw[Ai L]at a;refine(O 4∘Qs A.heap.size j.size d) ?_;rintro _ v6 S B af a9;refine(O 3) ?_;rw[KC]at B;have a2:Bp S A.heap.size 3 1 v6 (Aim (o++[now])) (BC .i64 (o++[now])):=by rw[BA];exact B
            have C:=j.fresh af (fun q hq=>(d.lt q (Fb.1 hq)).1);have W:=ab.tm (Tm.Agl d af) Z Z;refine Lb ((q+1),now,(o++[now]),v6,f',S) ?_ (hm:=by dsimp only;rw[BA,CJ];omega);grind
           .have L:¬Co s q=Aj:=fun z=>h0 Bh;rw[Ag L]at a;obtain⟨v2,e2,q3,a6,y⟩:=MJ s (q+1) 1;have a1:=XW r Q w.heap.size s (q+1) 1 Bc h1 hs w5 (j.bk K Z) ab;rw[a6]at a1;refine(O 4∘Ea a1) ?_;rintro _ S⟨rfl,W,t6⟩;refine(O 12) ?_;have C:=j.trans t6;have x6:Bf w S:=C.below m m.size (Bq _);refine Zi (fun l=>?_) fun l=>?_
            .rcases y with⟨h2,rfl,rfl,rfl⟩|⟨h2,rfl,rfl,rfl⟩
             .rw[Ai J]at a;refine(O 7∘CS) ?_;exact⟨⟨_,[],0,10,Z,CV.nil _ _,.inr ⟨⟨Bc,Bc⟩,a.symm⟩⟩,x6⟩
             .exact AK Z l
            .rcases y with⟨h2,rfl,rfl,rfl⟩|⟨h2,rfl,rfl,rfl⟩
             .exact AK (show(10:Y)≠0 by decide) l
             .have e2:=SU (s:=s) (p:=q+1) J;rw[Rb h2]at e2;injection e2 with e2 _;rw[e2];rw[Ag J]at a;have bi:=PR (Co s (q+1));refine(O 10∘Cw 11 (U (((if Co s (q+1)then now-1 else now+1):Y):H)) (e:=by grind))<|Lb ((q+2),(if Co s (q+1)then now-1 else now+1),f',S) ?_;exact⟨Bh,h2,J,a,W,t6.own d Z,C⟩
     .have:n-Aim o=0:=J;rw[this,sM]at a;have xr:Bf w wr:=P.below m m.size (Bq _);refine(O 4∘Zv (Bo (P.bk K Z))∘Zc (SS w.heap.size Q s q wr E)) ?_;rintro _ _⟨rfl,rfl⟩;refine(O 4∘CS) ?_;exact⟨⟨_,o,q,0,Z,Bp.more g a3,.inl ⟨Z,a.symm,J,o2,q1⟩⟩,xr⟩
structure Rows(w:Ad)(B:Y)(vs:Bm)(ls:Ae (Bi)):Prop where
 len:Aim vs=Aim ls
 row:∀i (h:i<Aim ls),∃A c,vs[i]? =X (.slice A (Aim ls[i]) c)/\Sl w B A (BC .i64 ls[i])
def Rows.below{w w':Ad}{B:Y}{vs:Bm}{ls:Ae (Bi)}(h:Rows w B vs ls)(hb:Below B w w'):Rows w' B vs ls:=
 ⟨h.len,fun i hi=>by
  obtain⟨A,c,h1,h2⟩:=h.row i hi;exact⟨A,c,h1,h2.below hb⟩⟩
def Rows.ext{w w':Ad}{B:Y}{vs:Bm}{ls:Ae (Bi)}(h:Rows w B vs ls)(hx:Bf w w'):Rows w' B vs ls:=
 ⟨h.len,fun i hi=>by
  obtain⟨A,c,h1,h2⟩:=h.row i hi;exact⟨A,c,h1,h2.ext hx⟩⟩
structure PlanAt(w:Ad)(B:Y)(cs:Bm)(p:Pl):Prop where
 ex:∃A1 c1 A2 c2 vs,cs=[.slice A1 (Aim p.tabs) c1,.slice A2 (Aim p.picks) c2]/\Sl w B A1 vs/\Rows w B vs p.tabs/\Sl w B A2 (BC .i64 p.picks)
def PlanAt.ext{w w':Ad}{B:Y}{a:Bm}{p:Pl}(h:PlanAt w B a p)(hx:Bf w w'):PlanAt w' B a p:=by
 obtain⟨A1,k,A2,j,d,i,g,f,e⟩:=h;exact⟨A1,k,A2,j,d,i,g.ext hx,f.ext hx,e.ext hx⟩
def PlanAt.below{w w':Ad}{B:Y}{d:Bm}{p:Pl}(h:PlanAt w B d p)(a:Below B w w'):PlanAt w' B d p:=by
 obtain⟨A1,l,A2,k,e,j,i,g,f⟩:=h;exact⟨A1,l,A2,k,e,j,i.below a,g.below a,f.below a⟩
def jd(n:Y)(r:n<=1000)(w:Ad):Bn prog 199 [U (n:H)] w fun v w'=>∃g,v=.slice (X ⟨g,0,Aa⟩) n n/\w.heap.size<=g/\Bk w' g 3 (BC .i64 (BE n))/\Bf w w':=by
 refine Bw func199 Z ntmps199 (by rfl) Z ?_;refine(O 7∘Gf) ?_;rintro g l h t m;refine(O 10)<|Lo (fun((i,wr):Y×Ad)=>(i<=n/\Bk wr g 3 (fill (fun(j:Y)=>Value.int .i64 (j:H)) (U 0) n i)/\Mo l wr [g],[(3,.slice (X ⟨g,0,Aa⟩) n n),(8,U n),(9,U i)],wr,n-i)) (0,l) ?_ ?_
 .exact⟨BD _,Cr,Mo.refl _ _⟩
 .rintro⟨i,wr⟩⟨q,d,o⟩;refine(O 5)<|Zi (fun k=>?_) fun k=>?_
  .refine(O 13∘Zt d (hlt:=by rw[QI q];omega)) ?_;rintro p a e;refine(O 6) ?_;rw[QJ (f:=fun(j:Y)=>Value.int .i64 (j:H)) k]at a;refine Lb ((i+1),p) ?_;exact⟨k,a,o.trans e⟩
  .obtain rfl:i=n:=J;rw[QH,jA]at d;refine(O 6∘Bu) ?_;exact⟨g,Z,h,d,Bv m o m.size Bh⟩
def vC{l:Bi}{k:Y}(h:k<Aim l):Value.int .i64 ((l[k]:Y):H)::(BC .i64 l).eraseIdx k=BC .i64 (Ey l k):=by
 unfold Ey BC;rw[Cp,BX,BN h,Wv,Wv,DX,TP,WC];rfl
def jb(l:Bi)(k g:Y)(hk:k<Aim l)(A:Aim l<=1000)(w:Ad)(h:Bk w g 3 (BC .i64 l)):
 Bn prog 201 [.slice (X ⟨g,0,Aa⟩) (Aim l) (Aim l),U (k:H)] w fun v w'=>v=U ((l.getD k 0:Y):H)/\Bk w' g 3 (BC .i64 (Ey l k))/\Mo w w' [g]:=by
 have j:(BC .i64 l)[k]? =X (U ((l[k]:Y):H)):=by rw[Fw hk,CF hk]
 have B:Aim (BC .i64 l)=Aim l:=DF _ _;have r:Aim ((BC .i64 l).take k)=k:=by rw[BY];omega
 have e:=kI (cap:=Aim l) j Z (fun q=>by omega);rw[vC hk]at e;have d:∀u∈(BC .i64 l).take k,u.oneCell'=Af:=fun u p=>Lx u (HH p);refine Bw func201 Z ntmps201 Be Z ?_;refine(O 9∘Zv (Bo h (hi:=j))∘O 3∘Yr 8 (fun w'=>True) AB) fun t=>(Gv [0,1,2]∘Yw 3 (he:=by exact fun _ _=>cG underlying51 BU Z (i:=1) Z Z ⟨J,J,Bq _⟩)∘Gv [4,5]∘Yw 6 (he:=by exact fun _ _=>Wg underlying51 BU Z Z ⟨J,Bq _⟩)) ?_;have a:=h.drew.Agv 0 k;rw[Nh]at a;refine Wl 7 _ Z Be Z Z underlying51 underlying51 BU Z Z (a) J (d) (h.drew) Bh ?_;rintro y o n;refine⟨AB,fun t=>?_⟩;refine(Yd∘O 5∘Zt o (hlt:=by grind)) ?_;rintro x f m;refine(O 6∘Bu) ?_;rw[e]at f;rw[CF hk];exact⟨Z,f,((Mo.Age (Bf.drew w) _).trans n).trans m⟩
def YI(m:Y)(hm:m<=1000000000)(w:Ad):Bn prog 234 [U (m:H)] w fun v w'=>v=U ((grpN m:Y):H)/\w=w':=by
 refine Bw func234 Z ntmps234 (by rfl) Z ?_;refine(O 12∘Bu) ?_;exact⟨Ar (Value.int .i64) (Ar Mf (show(m+50-1)/50=(m+49)/50 by omega)),Z⟩
def jh(l:Bi)(k:Y):(l.drop (k*50)).take (min (Aim l) ((k+1)*50)-k*50)=Ew l k:=by
 unfold Ew;rw[OD 50 k];simp;omega
def ji(l:Bi){k:Y}(h:k<grpN (Aim l)):Aim (Ew l k)=min (Aim l) ((k+1)*50)-k*50/\k*50<Aim l:=by
 unfold grpN at h;have e:=jh l k;grind
def vA(l:Bi)(i m:Y):((BC .i64 l).drop i).take m=BC .i64 ((l.drop i).take m):=by
 unfold BC;simp
def jf(l:Bi)(k:Y)(hk:k<grpN (Aim l))(f:Aim l<=1000000000)(A:Av AC)(c C:Y)(a:Aim l<=c)(w:Ad)(e:Sl w C A (BC .i64 l)):
 Bn prog 269 [.slice A (Aim l) c,U (k:H)] w fun v w'=>(∃A' c',v=.slice A' (Aim (Ew l k)) c'/\Sl w C A' (BC .i64 (Ew l k)))/\w=w':=by
 obtain⟨h,g⟩:=ji l hk;refine Bw func269 Z ntmps269 (by rfl) Z ?_;refine(O 15) ?_;refine WV Z Z underlying51 BU Z Z Z (⟨J,J,a⟩) (e) (DF _ _) ?_;rintro A' d;refine(O 2∘Bu) ?_;rw[vA,jh]at d;simp_all
def uC(m:Y)(h1:1<=m)(hm:m<=1000000000)(w:Ad):Bn prog 267 [U (m:H)] w fun v w'=>v=.tuple #[U ((Gm m:Y):H),U ((0:Y):H)]/\w=w':=by
 refine Bw func267 Z ntmps267 (by rfl) Z ?_;refine(O 11)<|Zi (fun h=>?_) fun h=>?_
 .omega
 .refine(O 4∘Zv (by exact oZ (ks:=[0,1,2,3]) (zs:=[U 0,U 0,U 0,U 0]) underlying373 om BU Z Z Z)∘O 3)<|Lo (fun(i:Y)=>(i<=4/\(∀j,j<i->[200,600,1200,2400].getD j 0<=m),[(0,U m),(8,.agg (BC .i64 [200,600,1200,2400]).toArray),(9,U i)],w,4-i)) 0 ?_ ?_
  .simp
  .rintro i⟨n,a⟩;refine(O 5)<|Zi (fun g=>?_) fun g=>?_
   .have o:[200,600,1200,2400].getD i 0<=2400:=by
     rcases(show i=0∨i=1∨i=2∨i=3 by omega)with rfl|rfl|rfl|rfl<;>decide
    refine(O 6∘Zv (by exact Ty underlying373 underlying3 Z BU Z Z J (Fw (show i<Aim [200,600,1200,2400]from g)))∘O 9)<|Zi (fun d=>?_) fun d=>?_
    .have e:Gm m=i+2:=by
      unfold Gm;have f:=fun j k=>a j k;rcases(show i=0∨i=1∨i=2∨i=3 by omega)with rfl|rfl|rfl|rfl
      .grind
      .grind
      .have:=f 1 Bc;grind
      .have:=f 2 Bc;grind
     refine(O 7∘BH) ?_;simp_all
    .refine(O 6)<|Lb (i+1) ?_;grind
   .have l:=a 3 J;simp at l
    have e:Gm m=6:=by
     unfold Gm;rw[Ag J,Ag J,Ag J,Ag J]
    refine(O 6∘BH) ?_;grind
def kn(l:Bi)(n:Y)(o:3<=n/\n<=258)(h1:1<=Aim l)(h2:Aim l<=1638350)(hl:∀x∈l,x<n)(A:Av AC)(c C:Y)(w:Ad)(m:Sl w C A (BC .i64 l)):
 Bn prog 266 [.slice A (Aim l) c,U (n:H)] w fun v w'=>v=.bool Af/\w=w':=by
 obtain⟨t,r⟩:=o;refine Bw func266 Z ntmps266 (by rfl) Z ?_;refine(O 6)<|Lc (fun(j:Aw)=>(j=Aj,[(0,.slice A (Aim l) c),(1,U n),(22,.bool j)],w)) ?_ ?_
 .refine(O 4)<|Zd 9 (fun k=>?_) fun k=>?_
  .omega
  .refine(O 4)<|Zd 13 (fun q=>?_) fun q=>?_
   .omega
   .refine(O 5)<|Zd 18 (fun p=>?_) fun p=>?_
    .omega
    .refine(O 5∘Lm (decide (Aim l>1638350))) ?_;exact AN J
 .rintro j rfl;refine(O 10)<|Lo (fun(i:Y)=>(i<=Aim l,[(0,.slice A (Aim l) c),(1,U n),(23,.slice A (Aim l) c),(24,U ((Aim l:Y):H)),(25,U i)],w,Aim l-i)) 0 ?_ ?_
  .simp
  .rintro i y;refine(O 5)<|Zi (fun e=>?_) fun e=>?_
   .obtain⟨b,f,rfl,_,g⟩:=m.intAt J;have d:=hl _ (BM e);have a:=g w (Bf.refl _) i e;generalize l[i]=x at d a;refine(O 6∘Zv (BZ a)∘O 3)<|Lc (fun(h:Aw)=>(h=Aj,[(0,.slice (X ⟨b,f,Aa⟩) (Aim l) c),(1,U n),(23,.slice (X ⟨b,f,Aa⟩) (Aim l) c),(24,U ((Aim l:Y):H)),(25,U i),(35,.bool h)],w)) ?_ ?_
    .refine(O 4)<|Zd 31 (fun k=>?_) fun k=>?_
     .omega
     .refine(O 5∘Lm (decide (x≥n))) ?_;exact AN J
    .rintro h rfl;refine(O 7)<|Lb (i+1) ?_;omega
   .refine(O 5∘Bu) ?_;simp
def Sl.at3{w:Ad}{B:Y}{A:Av AC}{xs:Bm}(h:Sl w B A xs)(h0:0<Aim xs):∃b o,A=X ⟨b,o,Aa⟩/\b<B/\∀W,Below B w W->∀j u,xs[j]? =X u->W.cell? ⟨b,o+j,Aa⟩=X u:=by
 obtain⟨b,o,f,a,_⟩:=h.at_ h0;refine⟨b,o,f,a,fun W d=>?_⟩;obtain⟨i,g,e,_,q⟩:=(h.below d).at_ h0;grind
def YE(p:Pl)(n:Y)(hp:p.Ok n)(B:Y)(cs:Bm)(w:Ad)(h:PlanAt w B cs p)(hB:B<=w.heap.size):
 Bn prog 204 [.agg cs.toArray] w fun v w'=>v=.bool Af/\Bf w w':=by
 obtain⟨A1,c1,A2,c2,vs,rfl,s1,y,s3⟩:=h;obtain⟨⟨t1,t2⟩,⟨p1,p2⟩,g,⟨l1,l2⟩,G,I⟩:=hp;obtain⟨b1,Q,rfl,_,j⟩:=s1.at3 (by rw[y.len];omega);refine Bw func204 Z ntmps204 (by rfl) Z ?_;refine(O 2) ?_;refine DB Z Z Z ?_;rintro m d S ab E;refine(O 4) ?_;have f:Below B w d:=E.mono hB;refine Lc (fun(P:Aw)=>(P=Aj,[(1,.pointer (X ⟨m,0,Aa⟩)),(28,.bool P)],d)) ?_ ?_
 .refine(O 6)<|Zd 11 (fun o=>?_) fun o=>?_
  .omega
  .refine(O 6)<|Zd 17 (fun C=>?_) fun C=>?_
   .omega
   .refine(O 6)<|Zd 23 (fun k3=>?_) fun k3=>?_
    .omega
    .refine(O 6∘Lm (decide (Aim p.picks>32767))) ?_;exact AN J
 .rintro P rfl;refine(O 11)<|Lo (fun(i:Y)=>(i<=Aim p.tabs,[(1,.pointer (X ⟨m,0,Aa⟩)),(30,.slice (X ⟨b1,Q,Aa⟩) (Aim p.tabs) c1),(31,U ((Aim p.tabs:Y):H)),(32,U i)],d,Aim p.tabs-i)) 0 ?_ ?_
  .exact BD _
  .rintro i hi;refine(O 5)<|Zi (fun q=>?_) fun q=>?_
   .obtain⟨A,c,e1,W⟩:=y.row i q;obtain⟨A0,c0,V,f2⟩:=y.row 0 J;have L:=g _ (BM (show 0<Aim p.tabs by omega));have K:=g _ (BM q);have a:=G _ (BM q);generalize p.tabs[i]=t at e1 W K a;generalize p.tabs[0]=t0 at V f2 L;have T:GD t=0:=Ai ⟨J,J,a⟩;refine(O 6∘Zv (BZ (j d f i _ e1))∘O 3)<|Lc (fun(N:Aw)=>(N=Aj,[(1,.pointer (X ⟨m,0,Aa⟩)),(30,.slice (X ⟨b1,Q,Aa⟩) (Aim p.tabs) c1),(31,U ((Aim p.tabs:Y):H)),(32,U i),(53,.bool N)],d)) ?_ ?_
    .refine(O 6∘Zv (BZ (j d f 0 _ V))∘O 3)<|Zd 44 (fun o=>?_) fun o=>?_
     .omega
     .refine(O 5)<|Zd 49 (fun C=>?_) fun C=>?_
      .omega
      .refine(O 1∘Zc (YX t J (fun x hx=>by have:=(a.pos x hx).2;omega) A c B d (W.below f))) ?_;rintro _ _⟨rfl,rfl⟩;refine(O 3∘Lm (decide (GD t≠0))) ?_;grind
    .rintro N rfl;refine(O 7)<|Lb (i+1) ?_;exact q
   .refine(O 10)<|Lo (fun(i:Y)=>(i<=Aim p.picks,[(1,.pointer (X ⟨m,0,Aa⟩)),(56,.slice A2 (Aim p.picks) c2),(57,U ((Aim p.picks:Y):H)),(58,U i)],d,Aim p.picks-i)) 0 ?_ ?_
    .exact BD _
    .rintro i hi;refine(O 5)<|Zi (fun e=>?_) fun e=>?_
     .obtain⟨b2,o2,rfl,_,r⟩:=s3.at3 (by rw[DF];omega);have D:=I _ (BM e);have k:=r d f i _ (by rw[Fw e,CF e]);generalize p.picks[i]=x at D k;refine(O 6∘Zv (BZ k)∘O 3)<|Lc (fun(l:Aw)=>(l=Aj,[(1,.pointer (X ⟨m,0,Aa⟩)),(56,.slice (X ⟨b2,o2,Aa⟩) (Aim p.picks) c2),(57,U ((Aim p.picks:Y):H)),(58,U i),(70,.bool l)],d)) ?_ ?_
      .refine(O 4)<|Zd 64 (fun o=>?_) fun o=>?_
       .omega
       .refine(O 7∘Lm (decide (x≥Aim p.tabs))) ?_;exact AN J
      .rintro l rfl;refine(O 7)<|Lb (i+1) ?_;omega
     .refine(O 5∘Bu) ?_;grind
def all_u(l:Bi)(hL:LOk l)(h3:Aim l<=258)(h2:2<=Aim l)(s:Bg)(hsl:Aim s<=1000000000)(p fin:Y)(hp:p<=8*Aim s)(hfin:fin<=1000)(A:Av AC)(c C:Y)(w:Ad)(hCw:C<=w.heap.size)(hs:Sl w C A (BC .i64 l)):
 Bn prog 205 [.slice A (Aim l) c,Bj s,U (p:H),U 50,U (fin:H)] w fun v w'=>(∃u xs,∃q e:Y,v=.tuple #[u,U (q:H),U (e:H)]/\CV w' w.heap.size u xs/\((e=0/\Gh l s fin 50 p=X (xs,q)/\xs≠[]/\Aim xs<=50/\(∀x∈xs,x<Aim l)/\q<=8*Aim s)∨(GQ e/\Gh l s fin 50 p=Aa)))/\Bf w w':=
 (all_s l hL h3 h2 s hsl p fin hp hfin A c C w hCw hs).mono fun v w'⟨h,x⟩=>by
  refine⟨?_,x⟩;rcases h with⟨u,xs,q,h1,h2,h3,h4,h5,h6,h7⟩|⟨h1,e,h2,h3⟩
  .grind
  .exact⟨_,[],0,e,h3,CV.nil _ _,.inr ⟨h2,h1⟩⟩
open Classical in
def uH(a:Ae (Bi))(s:Bg)(fin k:Y)(ks:Bi)(p:Y)(d:Bi):Ip a s fin (k::ks) p d=match Gh (a.getD k []) s fin 50 p with
 |none=>Aa
 |some (xs,q)=>if xs.getLast? =X fin then X (d++xs,q)else Ip a s fin ks q (d++xs):=by rfl
def uI(a:Ae (Bi))(s:Bg)(fin p:Y)(d:Bi):Ip a s fin [] p d=Aa:=by rfl
def Bp.other{w w':Ad}{B T s n:Y}{v v2:Ah}{xs:Bm}(h:Bp w B T s v n xs)(hg:w.grownBy w' v2.ownBlock)(h2:∀k,v2.ownBlock=X k->k<B):Bp w' B T s v n xs:=
 h.grown hg (by
  cases e:v.ownBlock with
  |none=>simp
  |some k=>exact .inr fun q=>by have:=h2 k q.symm;have:=(h.lt k e).1;omega)
def get_s(p:Pl)(n:Y)(hp:p.Ok n)(B:Y)(cs:Bm)(s:Bg)(a4:Aim s<=1000000000)(a:Y)(ha:a<=8*Aim s)(w:Ad)(h:PlanAt w B cs p)(hB:B<=w.heap.size):
 Bn prog 162 [.agg cs.toArray,Bj s,U (a:H)] w fun v w'=>(∃u xs,∃q e:Y,v=.tuple #[u,U (q:H),U (e:H)]/\CV w' w.heap.size u xs/\((e=0/\Ip p.tabs s (n-1) p.picks a []=X (xs,q)/\Aim xs<=1638350/\(∀x∈xs,x<n)/\q<=8*Aim s)∨(GQ e/\Ip p.tabs s (n-1) p.picks a []=Aa)))/\Bf w w':=by
 have a6:=h;obtain⟨A1,c1,A2,c2,vs,rfl,s1,s2,s3⟩:=h;obtain⟨⟨t1,t2⟩,⟨p1,p2⟩,D,⟨l1,l2⟩,a7,a8⟩:=id hp;obtain⟨b1,o1,rfl,_,E⟩:=s1.at3 (by rw[s2.len];omega);obtain⟨b2,o2,rfl,_,aj⟩:=s3.at3 (by rw[DF];omega);obtain⟨Az,cz,f1,f2⟩:=s2.row 0 J;have a9:=D _ (BM (show 0<Aim p.tabs by omega));generalize p.tabs[0]=t0 at f1 f2 a9;refine Bw func162 Z ntmps162 (by rfl) Z ?_;refine(O 2) ?_;refine DB Z Z Z ?_;rintro pb w1 bf af K;refine(O 7) ?_;have Q:Below B w w1:=K.mono hB;have ao:=K.size;refine(Zv (Cf af)∘Zc (YE p n hp B _ w1 (a6.below Q) J)) ?_;rintro _ S⟨rfl,f⟩;refine(O 10)<|Zd 21 (fun k1=>?_) fun k1=>?_
 .omega
 .refine(O 7∘Cd 27∘O 5) ?_;have x2:=K.trans f;have bb:=af.ext f;refine(O 2∘Zv (BZ (E S (Q.trans (f.mono J)) 0 _ f1))∘O 17∘Cw 9 (U (((n-1):Y):H)) (e:=by grind))<|Lo (fun((i,q,o,vo,wr):Y×Y×(Bi)×Ah×Ad)=>(i<=Aim p.picks/\q<=8*Aim s/\Aim o<=50*i/\(∀x∈o,x<n)/\Ip p.tabs s (n-1) (p.picks.drop i) q o=Ip p.tabs s (n-1) p.picks a []/\Bp wr S.heap.size 3 1 vo (Aim o) (BC .i64 o)/\Bf S wr,[(1,Bj (s)),(2,U q),(3,.pointer (X ⟨pb,0,Aa⟩)),(9,U (((n-1):Y):H)),(10,vo),(35,.slice (X ⟨b2,o2,Aa⟩) (Aim p.picks) c2),(36,U ((Aim p.picks:Y):H)),(37,U i)],wr,Aim p.picks-i)) (0,a,([]),(.slice Aa 0 0),S) ?_ ?_
  .exact⟨BD _,ha,BD _,Bl,Z,Bp.nil _ _ _ _,Bf.refl _⟩
  .rintro⟨i,q,o,vo,wr⟩⟨hi,hq,ho,bj,d,g,r⟩;have xr:=x2.trans r;have P:=(Q.trans (f.mono J)).trans (r.mono (BF hB x2.size));obtain⟨A0,c0,rfl,_,_⟩:=g.slice;refine(O 5)<|Zi (fun hc=>?_) fun hc=>?_
   .have y:=a8 _ (BM hc);have G:=aj wr P i _ (by rw[Fw hc,CF hc]);rw[Ds hc,uH]at d;generalize p.picks[i]=k at y G d;obtain⟨At,ct,e1,e2⟩:=s2.row k y;have a3:=D _ (BM y);have C:=a7 _ (BM y);rw[show p.tabs.getD k []=p.tabs[k]from by grind]at d;generalize p.tabs[k]=t at e1 e2 a3 C d;refine(O 6∘Zv (BZ G)∘O 5∘Zv (Bo (bb.ext r))∘O 2∘Zv (BZ (E wr P k _ e1))∘O 3∘Zc (all_u t C J J s a4 q (n-1) hq J At ct B wr (BF hB xr.size) (e2.below P))) ?_;rintro _ w3⟨⟨u,xs,q3,e,rfl,A,m⟩,I⟩;refine(O 14)<|Zi (fun L=>?_) fun L=>?_
    .rcases m with⟨rfl,_⟩|⟨g1,g2⟩
     .exact AK Z L
     .rw[g2]at d;refine(O 7∘CS) ?_;exact⟨⟨_,[],0,e,Z,CV.nil _ _,.inr ⟨g1,d.symm⟩⟩,xr.trans I⟩
    .rcases m with⟨rfl,g2,a0,bi,a1,a5⟩|⟨g1,g2⟩
     .rw[g2]at d;simp only at d;have bh:=Kg.2 a0;have N:=dc (l:=xs);obtain⟨Ax,cx,rfl,_,V⟩:=A.sl;have bc:=a1 _ (BM (show Aim xs-1<Aim xs by omega));rw[BN (show Aim xs-1<Aim xs by omega)]at N;obtain⟨bx,ox,rfl,_,_⟩:=V.intAt J;have x3:=r.trans I;refine(O 5) ?_;refine Ie Z Z underlying51 BU Z Bc Z Z (x3) (g.ext I) (Src.Agh underlying51 V (by rw[DF,Ic]) Lx Bc) CE J ?_;rintro v4 w4 ab a2 ba _;obtain⟨_,_,ex,_,T⟩:=CV.sl (Bp.other A ba fun k hk=>(g.lt k hk).2);cases ex;obtain⟨_,_,ey,_,ai⟩:=T.intAt J;cases ey;have W:Bp w4 S.heap.size 3 1 v4 (Aim (o++xs)) (BC .i64 (o++xs)):=by rw[BA,UQ];exact ab
      refine(O 14∘Zv (BZ (ai w4 (Bf.refl _) _ (show Aim xs-1<Aim xs by omega)))∘O 3) ?_
      have al:∀x∈o++xs,x<n:=fun x hx=>by
       grind
      refine Zi (fun j=>?_) fun j=>?_
      .rw[N,Ai (Ar X j)]at d;refine(O 8∘CS) ?_;refine⟨⟨_,o++xs,q3,0,Z,W.more (BF ao f.size),.inl ⟨Z,d.symm,by rw[BA];omega,al,a5⟩⟩,x2.trans a2⟩
      .rw[N,Ag (fun z=>j Bh)]at d;refine(O 6)<|Lb ((i+1),q3,(o++xs),v4,w4) ?_;grind
     .exact AK (Dm.1 L) (by have:=g1.1;omega)
   .obtain rfl:i=Aim p.picks:=J;rw[IK,uI]at d;refine(O 7∘CS) ?_;exact⟨⟨_,[],0,110,Z,CV.nil _ _,.inr ⟨⟨Bc,Bc⟩,d.symm⟩⟩,xr⟩
def Gz(w:Ad)(B:Y)(vs:Bm)(ls:Ae (Bi)):Prop:=Aim vs=Aim ls/\∀i (h:i<Aim ls),∃u,vs[i]? =X u/\CV w B u ls[i]
section
variable{w w':Ad}{B C g:Y}{vs:Bm}{ls:Ae (Bi)}{u:Ah}{l:Bi}{p:Ay->Aw}
def Gz.keep(h:Gz w B vs ls)(k:∀u l,CV w B u l->CV w' B u l):Gz w' B vs ls:=
 ⟨h.1,fun i hi=>by obtain⟨u,h1,h2⟩:=h.2 i hi;grind⟩
def Gz.ext(h:Gz w B vs ls)(hx:Bf w w'):Gz w' B vs ls:=h.keep fun _ _ q=>q.ext hx
def Gz.mo(h:Gz w B vs ls)(hm:Mo w w' [g])(hg:g<B):Gz w' B vs ls:=h.keep fun _ _ q=>Bp.mo q hm fun k hk=>by have:=(q.lt k hk).1;grind
def Gz.tm(h:Gz w B vs ls)(t:Tm w w' C p)(hp:p 3=Aj):Gz w' B vs ls:=h.keep fun _ _ q=>t.own q hp
def Gz.snoc(h:Gz w B vs ls)(d:CV w B u l):Gz w B (vs++[u]) (ls++[l]):=by
 refine⟨by simp[h.1],fun i a=>?_⟩;rw[BA,CJ]at a;rcases Db i (Aim ls)with q|q
 .rw[FA (by rw[h.1];omega),Wz q];exact h.2 i q
 .obtain rfl:i=Aim ls:=J;exact⟨u,by rw[Hl (by rw[h.1];simp),h.1,EP];rfl,Bh⟩
def Gz.rows(h:Gz w B vs ls):Rows w w.heap.size vs ls:=
 ⟨h.1,fun i hi=>by
  obtain⟨u,h1,h2⟩:=h.2 i hi;obtain⟨A,c,rfl,_,h3⟩:=h2.sl;grind⟩
def Xk{a:Bm}{n:Y}{z v:Ah}{i:Y}(h:i<n)(d:Aim a=i):(a++BG (n-i) z).set i v=(a++[v])++BG (n-(i+1)) z:=by
 subst d;rw[Md _ _ (Bq _),EP,show n-Aim a=(n-(Aim a+1))+1 by omega,HI];simp
end
def lR(p:Pl)(l:Bi){i:Y}(h:i<Aim l):Ej p (l.take (i+1))=Ej p (l.take i)++Ku (p.tabs.getD (p.picks.getD (i/50) 0) []) l[i]:=by
 unfold Ej;rw[di h,List.zipIdx_append,Ia,BY,Hq J];simp
def je(p:Pl)(n:Y)(hp:p.Ok n)(l:Bi)(c7:Aim l<=1638350)(cf:grpN (Aim l)<=Aim p.picks)(bm:∀x∈l,x<n)(B:Y)(cs:Bm)(A:Av AC)(c:Y)(w:Ad)(h:PlanAt w B cs p)(hs:Sl w B A (BC .i64 l))(hB:B<=w.heap.size):
 Bn prog 180 [.agg cs.toArray,.slice A (Aim l) c] w fun v w'=>v=.tuple #[.agg (DT (Ej p l)).toArray,U ((0:Y):H)]/\Bf w w':=by
 have b8:=h;obtain⟨A1,c1,A2,c2,vs,rfl,s1,s2,s3⟩:=h;obtain⟨⟨t1,t2⟩,⟨p1,p2⟩,P,⟨l1,l2⟩,bj,bl⟩:=id hp;obtain⟨b1,o1,rfl,_,ai⟩:=s1.at3 (by rw[s2.len];omega);obtain⟨b2,o2,rfl,_,b4⟩:=s3.at3 (by rw[DF];omega);obtain⟨Az,cz,f1,f2⟩:=s2.row 0 J;have cg:=P _ (BM (show 0<Aim p.tabs by omega));generalize p.tabs[0]=t0 at f1 f2 cg;refine Bw func180 Z ntmps180 Be Z ?_;refine(O 2) ?_;refine DB Z Z Z ?_;rintro pb w1 cp bx bc;refine(Zn) ?_;rintro ob w2 co cd a4;refine(O 4) ?_;have x2:=bc.trans a4;have a8:=bx.ext a4;have c3:=bc.size;have c0:=a4.size;have c6:ob≠pb:=by have:=bx.lt;omega
 have bs:Below B w w2:=x2.mono hB;refine Lc (fun(j:Ad)=>(Bf w2 j,[(1,.slice A (Aim l) c),(2,.pointer (X ⟨pb,0,Aa⟩)),(4,.pointer (X ⟨ob,0,Aa⟩)),(25,.bool Aj)],j)) ?_ ?_
 .refine(Yr 12 (fun w'=>Bf w2 w') (Bf.drew w2)) fun hS=>(Yw 0 (he:=by exact fun _ ba=>Cf (a8.ext ba))∘Yc 1 (YE p n hp B _ _ (b8.below (bs.trans (hS.mono J))) (by simp;omega))) ?_;rintro _ j⟨rfl,G⟩;refine⟨hS.trans G,fun hS=>?_⟩;refine(Gv [2,3,4,5,7]∘Yw 8 (he:=by exact fun _ ba=>Bo (a8.ext ba))∘Gv [9]∘Yc 6 (YI (Aim l) J _)) ?_;rintro _ _⟨rfl,rfl⟩;refine⟨hS,fun hS=>?_⟩;refine(Gv [10,11]∘Yd∘Cd 25∘Lm j) ?_;omega
 .rintro j G;refine(O 10) ?_;have x3:=x2.trans G;have a7:=a8.ext G;have cc:=cd.ext G;have cw:=G.size;have S:Below B w j:=x3.mono hB;refine Lo (fun(i:Y)=>(i<=Aim l,[(1,.slice A (Aim l) c),(2,.pointer (X ⟨pb,0,Aa⟩)),(4,.pointer (X ⟨ob,0,Aa⟩)),(27,.slice A (Aim l) c),(28,U ((Aim l:Y):H)),(29,U i)],j,Aim l-i)) 0 ?_ ?_
  .simp
  .rintro i hi;refine(O 5)<|Zi (fun hc=>?_) fun hc=>?_
   .obtain⟨b,f,rfl,_,a9⟩:=hs.intAt J;have a2:=bm _ (BM hc);have q:=a9 j x3 i hc;generalize l[i]=x at a2 q;refine(O 6∘Zv (BZ q)∘O 3)<|Lc (fun(d6:Aw)=>(d6=Aj,[(1,.slice (X ⟨b,f,Aa⟩) (Aim l) c),(2,.pointer (X ⟨pb,0,Aa⟩)),(4,.pointer (X ⟨ob,0,Aa⟩)),(27,.slice (X ⟨b,f,Aa⟩) (Aim l) c),(28,U ((Aim l:Y):H)),(29,U i),(43,.bool d6)],j)) ?_ ?_
    .refine(O 4)<|Zd 35 (fun k1=>?_) fun k1=>?_
     .omega
     .refine(O 4∘Zv (BZ (ai j S 0 _ f1))∘O 4∘Lm (decide (x≥Aim t0))) ?_;grind
    .rintro d6 rfl;refine(O 7)<|Lb (i+1) ?_;omega
   .refine(O 3∘Zc (Pp j)) ?_;rintro _ w4⟨wb,rfl,b5,a3⟩;refine(O 5) ?_;have c9:=a7.ext a3;have cv:=a3.size;refine(O 2∘Gf) ?_;rintro cb w5 cn ck bb;refine(O 10) ?_;have x5:=a3.trans bb;have c4:=b5.ext bb;have I:=ck.lt;have cm:Gz w5 (cb+1) [] (List.map Hb (p.tabs.take 0)):=⟨Z,fun i hi=>by grind⟩;refine Lo (fun((i,us,wr):Y×(Bm)×Ad)=>(i<=Aim p.tabs/\Gz wr (cb+1) us ((p.tabs.take i).map Hb)/\Bk wr cb 51 (us++BG (Aim p.tabs-i) (.slice Aa 0 0))/\FB wr j.heap.size wb []/\Bf j wr,[(1,.slice A (Aim l) c),(2,.pointer (X ⟨pb,0,Aa⟩)),(4,.pointer (X ⟨ob,0,Aa⟩)),(8,.pointer (X ⟨wb,0,Aa⟩)),(9,.slice (X ⟨cb,0,Aa⟩) (Aim p.tabs) (Aim p.tabs)),(52,U ((Aim p.tabs:Y):H)),(53,U i)],wr,Aim p.tabs-i)) (0,([]),w5) ?_ ?_
    .grind
    .rintro⟨i,us,wr⟩⟨hi,d,Q,bf,L⟩;have xr:=x3.trans L;have K:=S.trans (L.mono (BF hB x3.size));refine(O 5)<|Zi (fun D=>?_) fun D=>?_
     .obtain⟨At,ct,e1,e2⟩:=s2.row i D;have a5:=P _ (BM D);have e:=bj _ (BM D);have b6:Aim us=i:=by rw[d.1,DQ,BY];omega
      have N:(p.tabs.take (i+1)).map Hb=(p.tabs.take i).map Hb++[Hb p.tabs[i]]:=by rw[di D,DX];rfl
      generalize p.tabs[i]=t at e1 e2 a5 e N;refine(O 12∘Zv (Bo (a7.ext L))∘O 2∘Zv (BZ (ai wr K i _ e1))∘Zc (yQ t e J J At ct B wr (e2.below K))) ?_;rintro _ w7⟨⟨u,rfl,bi⟩,r⟩;refine(O 4) ?_;obtain⟨Au,cu,rfl,_,_⟩:=bi.sl;refine(Zt (Q.ext r) (hlt:=by grind)) ?_;rintro w8 bq a6;refine(O 6) ?_;rw[Xk D b6]at bq;have cr:=r.size;have cq:=Q.lt
      have r8:Gz w8 (cb+1) (us++[.slice Au (Aim (Hb t)) cu]) ((p.tabs.take (i+1)).map Hb):=by
       rw[N];exact((d.ext r).snoc (Bp.more bi J)).mo a6 J
      refine Lb ((i+1),(us++[.slice Au (Aim (Hb t)) cu]),w8) ?_;exact⟨D,r8,bq,(bf.ext r).tm (Tm.set (Q.ext r) a6 (B:=0) (BD _)) Z Z,Bv (L.trans r) a6 (L.trans r).size Bx⟩
     .obtain rfl:i=Aim p.tabs:=J;rw[EP,TT,List.append_nil]at Q;rw[DY]at d;have c5:=d.rows;refine(O 9)<|Lo (fun((i,E):Y×Ad)=>(i<=Aim l/\FB E j.heap.size wb (Ej p (l.take i))/\Aim (Ej p (l.take i))<=20*i/\Tm wr E j.heap.size KN,[(1,.slice A (Aim l) c),(2,.pointer (X ⟨pb,0,Aa⟩)),(4,.pointer (X ⟨ob,0,Aa⟩)),(8,.pointer (X ⟨wb,0,Aa⟩)),(9,.slice (X ⟨cb,0,Aa⟩) (Aim p.tabs) (Aim p.tabs)),(69,.slice A (Aim l) c),(70,U ((Aim l:Y):H)),(71,U i)],E,Aim l-i)) (0,wr) ?_ ?_
      .exact⟨BD _,bf,BD _,Tm.refl _ _ _⟩
      .rintro⟨i,E⟩⟨hi,aj,c8,tq⟩;have L:=tq.below L L.size (Bq _);have xr:=x3.trans L;have K:=S.trans (L.mono (BF hB x3.size));have cl:=a7.ext L;have ch:=tq.bk Q Z;have b7:=(d.tm tq Z).rows;refine(O 5)<|Zi (fun I=>?_) fun I=>?_
       .have a0:i/50<Aim p.picks:=by unfold grpN at cf;omega
        obtain⟨b,f,rfl,_,a9⟩:=hs.intAt J;have q:=a9 E xr i I;have a2:=bm _ (BM I);have a:=lR p l I;generalize l[i]=x at a2 q a;have af:=b4 E K _ _ (by rw[Fw a0,CF a0]);rw[CF a0]at a;have al:=bl _ (BM a0);generalize p.picks[i/50]=k at af al a;obtain⟨At,ct,e1,e2⟩:=s2.row k al;obtain⟨Au,cu,g1,g2⟩:=b7.row k Bh;have a5:=P _ (BM al);have e:=bj _ (BM al);rw[Ou]at g1 g2;rw[show p.tabs.getD k []=p.tabs[k]from by grind]at a;generalize p.tabs[k]=t at e1 e2 a5 e g1 g2 a;have cj:Aim (Hb t)=Aim t:=by simp[Hb]
        rw[cj]at g1;obtain⟨ab,ao,rfl,_,b3⟩:=(e2.below K).intAt J;obtain⟨ub,uo,rfl,_,b0⟩:=g2.intAt J;have V:=fun W hW=>b3 W hW x J;have T:=fun W hW=>b0 W hW x J;have a1:=e.pos _ (BM (show x<Aim t by omega));have o:=e.Aha (show x<Aim t by omega);have bn:=fh (show x<Aim t by omega);rw[CF J]at bn;rw[CF (show x<Aim t by omega)]at o;unfold Ku at a;rw[CF (show x<Aim t by omega)]at a;rw[<-bn]at o a;generalize(Hb t)[x]=cx at T o a;generalize t[x]=y at V a1 o a;have da:2 ^ y<=1048576:=FN (n:=2) Bc a1.2;refine(O 7∘Zv (BZ q)∘O 10∘Zv (BZ af)∘O 2) ?_;refine Kf 17 Be Be<|HW.val Z Z (EX.move Z)<|HW.val Z Z (EX.move Z)<|HW.val Z Z (EX.move Z)<|HW.val Z Z (by first|exact KQ underlying258 GP Z Z J|exact KS underlying258 GP Z Z J)<|HW.val Z Z (Cg underlying51 Z Z (ch.drew.cell_of g1))<|HW.val Z Z (EX.move Z)<|HW.val Z Z (by first|exact KQ underlying51 BU Z Z J|exact KS underlying51 BU Z Z J)<|HW.val Z Z (Cg underlying3 Z Z (T _ (Bf.drew E)))<|HW.val Z Z (by first|exact LS (m:=18446744073709551615) underlying3 underlying211 Z Z J|exact MY (m:=18446744073709551616) underlying3 underlying211 Z Z Bc|exact EX.convZ underlying3 underlying211 Z)<|HW.val Z Z (Dn (off:=0) underlying260 Z Z oh Z Z)<|HW.val Z Z (Cg underlying258 Z Z (cl.drew.cell_of Z))<|HW.val Z Z (EX.move Z)<|HW.val Z Z (by first|exact KQ underlying258 GP Z Z J|exact KS underlying258 GP Z Z J)<|HW.val Z Z (Cg underlying51 Z Z (ai _ (K.trans ((Bf.drew E).mono (BF hB xr.size))) k _ e1))<|HW.val Z Z (EX.move Z)<|HW.val Z Z (by first|exact KQ underlying51 BU Z Z J|exact KS underlying51 BU Z Z J)<|HW.val Z Z (Cg underlying3 Z Z (V _ (Bf.drew E)))<|HW.tail<|(Zc (GJ j.heap.size wb _ cx y J J o J _ (aj.ext (Bf.drew E)))) ?_;rintro _ w8⟨rfl,bh,t8⟩;refine(O 6) ?_;rw[<-a]at bh;refine Lb ((i+1),w8) ?_;refine⟨I,bh,by rw[a,BA,nb_length];omega,(tq.trans (Tm.Age (Bf.drew E) _ _)).trans t8⟩
       .obtain rfl:i=Aim l:=J;rw[DY]at aj;refine(O 4∘Zc (Oa j.heap.size wb _ E aj)) ?_;rintro _ _⟨rfl,rfl⟩;refine(O 1∘Zc (MW j.heap.size wb _ E aj)) ?_;rintro _ _⟨rfl,rfl⟩;refine(O 1) ?_;have b9:=cc.ext L;refine(Zs b9) ?_;rintro w9 ca ce;refine(O 2∘Du ca) ?_;exact⟨Z,Bv xr ce xr.size Bx⟩
def VB{m:Y}:∀(ps l:Bi),Aim l=m->(∀x,x<m->x∈l)->(∀x∈ps,x<m)->Aim (GK l ps)<=m*Aim ps
 |[],l,_,_,_=>Bq _
 |p::ps,l,hl,hm,hp=>by
  have h1:=Qf (hm p (hp p Bl));have:=VB ps (Ey l (l.idxOf p)) ((Pm h1).trans hl) (fun x hx=>(SH h1 x).2 (hm x hx)) (fun x hx=>hp x Bh);rw[GK,BA,Cm,Cv,Cv,Nat.mul_succ];omega
def XI:∀(ts:Ae (Bi)),(∀t∈ts,Aim t<=258/\t≠[]/\∀x∈t,x<=20)->Aim (ts.flatMap dShow)<=20000*Aim ts
 |[],_=>Bq _
 |t::ts,h=>by
  have h1:=h t Bl;have:=Ux h1.2.2 h1.2.1;have:=XI ts fun u hu=>h u Bh;grind
def jj(p:Pl)(n:Y)(hp:p.Ok n)(B:Y)(cs:Bm)(w:Ad)(h:PlanAt w B cs p)(hB:B<=w.heap.size):
 Bn prog 179 [.agg cs.toArray] w fun v w'=>v=.tuple #[.agg (DT (planBits p)).toArray,U ((0:Y):H)]/\Bf w w':=by
 have cc:=h;obtain⟨A1,c1,A2,c2,vs,rfl,s1,s2,s3⟩:=h;obtain⟨⟨t1,t2⟩,⟨p1,p2⟩,A,⟨l1,l2⟩,V,ba⟩:=id hp;obtain⟨b1,o1,rfl,_,b0⟩:=s1.at3 (by rw[s2.len];omega);obtain⟨b2,o2,rfl,_,bx⟩:=s3.at3 (by rw[DF];omega);have c9:=VB (m:=Aim p.tabs) p.picks (BE (Aim p.tabs)) GV (fun x f=>CQ.2 f) ba;have cw:=OE t2 p2;have cv:=OF (Aim p.picks) t2;have dg:=XI p.tabs fun t ht=>⟨Bh,fun e=>by have:=A t ht;rw[e]at this;simp at this;omega,fun x f=>((V t ht).pos x f).2⟩;generalize hH:nb 3 (Aim p.tabs)++(nb 15 (Aim p.picks)++GK (BE (Aim p.tabs)) p.picks)=j7;have b3:Aim j7<=300000:=by rw[<-hH];simp only[BA,nb_length];omega
 have cd:planBits p=j7++p.tabs.flatMap dShow:=by rw[<-hH];simp[planBits]
 refine Bw func179 Z ntmps179 Be Z ?_;refine(O 2) ?_;refine DB Z Z Z ?_;rintro pb w1 c3 bs a1;refine(Zn) ?_;rintro ob w2 c0 cg T;refine(O 5) ?_;have x2:=a1.trans T;have o:=bs.ext T;have c8:=a1.size;have c7:=T.size;have da:ob≠pb:=by have:=bs.lt;omega
 have Q:Below B w w2:=x2.mono hB;refine(Zv (Cf o)∘Zc (YE p n hp B _ w2 (cc.below Q) J)) ?_;rintro _ E⟨rfl,I⟩;refine(O 6∘Zc (Pp E)) ?_;rintro _ w4⟨D,rfl,b9,b6⟩;refine(O 6) ?_;have x4:=I.trans b6;refine(Zv (Bo (o.ext x4))∘O 2∘Zc (GJ E.heap.size D [] (Aim p.tabs) 3 J Bc (show Aim p.tabs<8 by omega) Bc w4 b9)) ?_;rintro _ w5⟨rfl,b8,t5⟩;refine(O 5) ?_;have x5:Bf w2 w5:=t5.below x4 x4.size I.size;refine(Zv (Bo (o.ext x5))∘O 2∘Zc (GJ E.heap.size D _ (Aim p.picks) 15 J Bc (show Aim p.picks<32768 by omega) Bh w5 b8)) ?_;rintro _ w6⟨rfl,b7,t6⟩;refine(O 4) ?_;have x6:Bf w2 w6:=t6.below x5 x5.size I.size;refine(Zv (Bo (o.ext x6))∘O 1∘Zc (jd (Aim p.tabs) J w6)) ?_;rintro _ w7⟨gb,rfl,df,cp,a0⟩;refine(O 6) ?_;have x7:=x6.trans a0;have c6:=x6.size;refine(Zv (Bo (o.ext x7))∘O 4)<|Lo (fun((i,a,W,wr):Y×(Bi)×(Ae Aw)×Ad)=>(i<=Aim p.picks/\Aim a=Aim p.tabs/\(∀x,x<Aim p.tabs->x∈a)/\W++GK a (p.picks.drop i)=j7/\FB wr E.heap.size D W/\Bk wr gb 3 (BC .i64 a)/\Bf w2 wr,[(1,.pointer (X ⟨pb,0,Aa⟩)),(2,.pointer (X ⟨ob,0,Aa⟩)),(4,.pointer (X ⟨D,0,Aa⟩)),(5,.slice (X ⟨gb,0,Aa⟩) (Aim p.tabs) (Aim p.tabs)),(36,.slice (X ⟨b2,o2,Aa⟩) (Aim p.picks) c2),(37,U ((Aim p.picks:Y):H)),(38,U i)],wr,Aim p.picks-i)) (0,(BE (Aim p.tabs)),(nb 3 (Aim p.tabs)++nb 15 (Aim p.picks)),w7) ?_ ?_
 .exact⟨BD _,GV,fun x f=>CQ.2 f,Bh,b7.ext a0,cp,x7⟩
 .rintro⟨i,a,W,wr⟩⟨hi,bf,bc,hW,a2,hg,f⟩;have xr:=x2.trans f;have bn:=Q.trans (f.mono (BF hB x2.size));refine(O 5)<|Zi (fun hc=>?_) fun hc=>?_
  .have bh:=ba _ (BM hc);have S:=bx wr bn i _ (by rw[Fw hc,CF hc]);rw[Ds hc,GK]at hW;generalize p.picks[i]=k at bh S hW;have bj:=Qf (bc k bh);have ck:=TN bj
   have a7:∀j,j<Aim a->a[j]? =X k->a.idxOf k<=j:=fun j hj q=>by
    rcases Db j (a.idxOf k)with z|z
    .have:=List.not_of_lt_findIdx (p:=fun x=>x==k) (xs:=a) z;grind
    .omega
   generalize cx:a.idxOf k=ix at hW bj ck a7;generalize cb:GK (Ey a ix) (p.picks.drop (i+1))=rest at hW;have dk:Aim W+ix+1<=300000:=by rw[<-hW]at b3;simp only[BA,Cm,Cv]at b3;omega
   refine(O 6∘Zv (BZ S)∘O 8)<|Lo (fun((j,g):Y×Ad)=>(j<=ix/\FB g E.heap.size D (W++BG j Af)/\Tm wr g E.heap.size KN,[(1,.pointer (X ⟨pb,0,Aa⟩)),(2,.pointer (X ⟨ob,0,Aa⟩)),(4,.pointer (X ⟨D,0,Aa⟩)),(5,.slice (X ⟨gb,0,Aa⟩) (Aim p.tabs) (Aim p.tabs)),(7,U k),(8,U j),(36,.slice (X ⟨b2,o2,Aa⟩) (Aim p.picks) c2),(37,U ((Aim p.picks:Y):H)),(38,U i)],g,ix-j)) (0,wr) ?_ ?_
   .exact⟨BD _,Bh,Tm.refl _ _ _⟩
   .rintro⟨j,g⟩⟨hj,a3,tq⟩;have d:j<Aim a:=J;have bl:=tq.bk hg Z;have a9:(BC .i64 a)[j]? =X (U ((a[j]:Y):H)):=by rw[Fw d,CF d]
    have a8:=a7 j d;rw[BN d]at a8;have bi:j=ix->a[j]=k:=fun e=>by grind
    generalize a[j]=y at a9 a8 bi;refine(O 6∘Zv (Bo bl (hi:=a9))∘O 3)<|Zi (fun a6=>?_) fun a6=>?_
    .have db:j≠ix:=fun e=>a6 (bi e);refine(O 10∘Zc (GJ E.heap.size D _ 1 1 Bc Bc Bc (by rw[BA,Cm];omega) g a3)) ?_;rintro _ w8⟨rfl,K,t8⟩;refine(O 2) ?_;rw[show nb 1 1=[Af]from Z,Cq,<-Ow]at K;refine Lb ((j+1),w8) ?_;exact⟨J,K,tq.trans t8⟩
    .obtain rfl:j=ix:=Bh;refine(O 4∘Zc (GJ E.heap.size D _ 0 1 Bc Bc Bc (by rw[BA,Cm];omega) g a3)) ?_;rintro _ w8⟨rfl,K,t8⟩;refine(O 4) ?_;have bm:=t8.bk bl Z;have x8:Bf w2 w8:=(tq.trans t8).below f f.size I.size;have cm:=jb a j gb d J w8 bm;rw[bf]at cm;refine(Zc cm) ?_;rintro _ w9⟨_,cn,L⟩;refine(O 6) ?_;have a4:=K.tm (Tm.set bm L (B:=0) (BD _)) Z Z;rw[show nb 1 0=[Aj]from Z]at a4;refine Lb ((i+1),(Ey a j),(W++BG j Af++[Aj]),w9) ?_;refine⟨hc,(Pm d).trans bf,fun x f=>(SH d x).2 (bc x f),?_,a4,cn,Bv x8 L x8.size Bx⟩;grind
  .obtain rfl:i=Aim p.picks:=J;rw[IK,GK,List.append_nil]at hW;subst hW;refine(O 4∘Zc (Oa E.heap.size D _ wr a2)) ?_;rintro _ _⟨rfl,rfl⟩;refine(O 1∘Zc (MW E.heap.size D _ wr a2)) ?_;rintro _ _⟨rfl,rfl⟩;refine(O 1) ?_;refine Mi 1 ([DT W]) Z Z underlying227 GN Z Bc Z Z Z Bl Bc ?_;rintro eb we cl cr al;refine(O 6) ?_;have xe:=f.trans al;refine(Zv (Bo (o.ext xe))∘O 4)<|Lo (fun((i,vo,g):Y×Ah×Ad)=>(i<=Aim p.tabs/\Bp g wr.heap.size 226 2 vo (i+1) (Jd (W::(p.tabs.take i).map dShow))/\Bf wr g,[(2,.pointer (X ⟨ob,0,Aa⟩)),(9,vo),(65,.slice (X ⟨b1,o1,Aa⟩) (Aim p.tabs) c1),(66,U ((Aim p.tabs:Y):H)),(67,U i)],g,Aim p.tabs-i)) (0,(.slice (X ⟨eb,0,Aa⟩) 1 1),we) ?_ ?_
   .exact⟨BD _,Bp.Agf cr cl Z Bc,al⟩
   .rintro⟨i,vo,g⟩⟨hi,N,G⟩;have xq:=xr.trans G;have bq:=bn.trans (G.mono (BF hB xr.size));obtain⟨Ao,co,rfl,_,a5⟩:=N.slice;refine(O 5)<|Zi (fun C=>?_) fun C=>?_
    .obtain⟨At,ct,e1,e2⟩:=s2.row i C;have ca:=A _ (BM C);have P:=V _ (BM C);have r:(p.tabs.take (i+1)).map dShow=(p.tabs.take i).map dShow++[dShow p.tabs[i]]:=by rw[di C,DX];rfl
     generalize p.tabs[i]=t at e1 e2 ca P r;refine(O 6∘Zv (BZ (b0 g bq i _ e1))∘O 5∘Zc (tI t J J (fun x f=>P.pos x f) At ct B g (e2.below bq))) ?_;rintro _ wa⟨rfl,b5⟩;refine(O 3∘Zn) ?_;rintro bb c5 cz cu ao;refine(Zs cu) ?_;rintro wc ab ch;refine(O 4) ?_;replace ab:Bk wc bb 226 (DT (dShow t)):=ab;have b4:Bf wa wc:=Bv ao ch ao.size Bx;have af:=b5.trans b4;refine(Zv (Cf ab)∘Ko (G.trans af) (N.ext af)) ?_;rintro _ v4 w4 ai c4 _;refine(O 7) ?_;have e4:Jd (W::(p.tabs.take i).map dShow)++DT (dShow t)=Jd (W::(p.tabs.take (i+1)).map dShow):=by rw[r];simp[Jd]
     rw[e4]at ai;refine Lb ((i+1),v4,w4) ?_;grind
    .obtain rfl:i=Aim p.tabs:=J;rw[DY]at a5;have cq:(W::p.tabs.map dShow).flatten=planBits p:=by rw[cd,Nj,IL]
     have d:∀l∈W::p.tabs.map dShow,Aim l<=100000000:=fun l hl=>by
      rcases List.mem_cons.1 hl with rfl|hl
      .omega
      .obtain⟨t,ht,rfl⟩:=Ck.1 hl;have:=Ux (fun x f=>((V t ht).pos x f).2) (fun e=>by have:=A t ht;rw[e]at this;simp at this;omega);grind
     have cj:=NF (W::p.tabs.map dShow) d Bx Bh Ao co _ g a5;rw[cq,Cv,DQ]at cj;refine(O 4∘Zc cj) ?_;rintro _ wj⟨rfl,aj⟩;refine(O 2) ?_;have ce:=cg.ext ((f.trans G).trans aj);refine(Zs ce) ?_;rintro w9 cf L;refine(O 2) ?_;have xj:=xq.trans aj;refine(Du cf) ?_;exact⟨Z,Bv xj L xj.size Bx⟩
def Aew(B rb:Y)(s:Bg)(p most:Y)(hm:most<=1000000)(hp:p<=8*Aim s)(hs:Aim s<=140737488355328)(w:Ad)(h:RdAt w B rb s p):
 Bn prog 200 [.pointer (X ⟨rb,0,Aa⟩),U (most:H)] w fun v w'=>(∃k e:Y,v=.tuple #[U (k:H),U (e:H)]/\((e=0/\∃q,Jj s most p (most+1) 0=X (k,q)/\k<=most/\q<=8*Aim s/\RdAt w' B rb s q)∨(GQ e/\Jj s most p (most+1) 0=Aa)))/\Tm w w' B IZ:=
 (Aev B rb s p most hm hp hs w h).mono fun v w'⟨h,t⟩=>by
  refine⟨?_,t⟩;rcases h with⟨k,q,h1,h2,h3,h4,h5⟩|⟨h1,e,h2,h3,h4,_⟩
  .grind
  .exact⟨0,e,h4,.inr ⟨⟨h2,h3⟩,h1⟩⟩
abbrev LLN:=Ae (Bi)
def Adq(s:Bg)(most k:Y)(l:Bi)(p:Y)(a:Bi):KK s most (k+1) l p a=match Jj s most p (most+1) 0 with
 |none=>Aa
 |some (j,q)=>KK s most k (Ey l j) q (a++[l.getD j 0]):=by rfl
open Classical in
def Adw(s:Bg)(n k p:Y)(a:Ae (Bi)):KL s n (k+1) p a=match JI s p n with
 |none=>Aa
 |some (t,q)=>if LOk t then KL s n k q (a++[t])else Aa:=by rfl
def Adr(s:Bg)(most:Y)(l:Bi)(p:Y)(a:Bi):KK s most 0 l p a=X (a,p):=by rfl
def Adx(s:Bg)(n p:Y)(a:Ae (Bi)):KL s n 0 p a=X (a,p):=by rfl
def ZT{p m f A N v a:Ad}{w y rb q:Y}{s:Bg}{B d:Ah}{o lc E:Bi}{x:Y}(hr:RdAt f p.heap.size rb s q)(K:Bk f w 3 (BC .i64 lc))(G:Bk f y 260 [.slice Aa 0 0,B])(r:Bp f m.heap.size 3 1 B (Aim o) (BC .i64 o))(x7:Bf p f)(ai:p.heap.size<=m.heap.size)(af:m.heap.size<=f.heap.size)(W:p.heap.size<=w/\w<m.heap.size)(Q:p.heap.size<=y/\y<m.heap.size)
 (ab:Bk A w 3 (BC .i64 E)) (n:Mo f.drew A [w]) (i:Bf A N) (g:Bp v 0 3 1 d (Aim o+1) (BC .i64 o++[U (x:H)])) (l:N.grownBy v B.ownBlock) (aj:d.ownBlock=B.ownBlock∨d.ownBlock=X N.heap.size) (al:Bk a y 260 [.slice Aa 0 0,d]) (j:Mo v a [y]):
 RdAt a p.heap.size rb s q/\Bk a w 3 (BC .i64 E)/\Bp a m.heap.size 3 1 d (Aim (o++[x])) (BC .i64 (o++[x]))/\m.heap.size<=a.heap.size/\Bf p a:=by
 have V:y≠w:=G.ne K Bl;have ao:=fun k L=>(r.lt k L).1;have S:=(G.drew.mo n (by simpa using V)).ext i;have I:=S.grown l fun e=>by grind
 have D:Bp A m.heap.size 3 1 B (Aim o) (BC .i64 o):=(r.ext (Bf.drew f)).mo n fun k L=>by grind
 have C:=D.ext i
 let P:Ay->Aw:=fun T=>T==3||T==260
 have m1:∀T,(T==3)=Af->P T=Af:=fun T h=>by simp[P,h]
 have m2:∀T,(T==260)=Af->P T=Af:=fun T h=>by simp[P,h]
 have t:Tm f a p.heap.size P:=((((Tm.Age (Bf.drew f) _ _).trans ((Tm.set K.drew n W.1).mono m1)).trans (Tm.Age i _ _)).trans ((Tm.grown (Bp.more C ai) l).mono m1)).trans ((Tm.set I j Q.1).mono m2);refine⟨hr.tm t Z Z,((ab.ext i).grown l fun e=>by grind).mo j Bh,?_,BF af t.size,t.below x7 x7.size (Bq _)⟩;have a1:f.heap.size<=A.heap.size:=n.size;have a0:=i.size;rw[KC]at g;rw[BA]
 have hb:∀k,d.ownBlock=X k->m.heap.size<=k:=fun k L=>by
  grind
 exact(Bp.base g hb).mo j fun k L=>by grind
def uQ(s:Bg)(p n:Y)(hp:p<=8*Aim s)(hn:3<=n/\n<=258)(hs:Aim s<=1000000000)(w:Ad):
 Bn prog 161 [Bj s,U (p:H),U (n:H)] w fun v w'=>(∃cs,∃q e:Y,v=.tuple #[.agg (Lg cs),U (q:H),U (e:H)]/\((e=0/\∃pl,MR s p n=X (pl,q)/\pl.Ok n/\PlanAt w' w'.heap.size cs pl/\q<=8*Aim s)∨(GQ e/\MR s p n=Aa)))/\Bf w w':=by
 obtain⟨d8,d6⟩:=hn;obtain⟨v0,e0,q0,d0,c6⟩:=MJ s p 3;refine Bw func161 Z ntmps161 Be Z ?_;refine(O 2∘Zn) ?_;rintro ob P er bn ba;refine(O 7) ?_;have ck:=ba.size;refine(Zc (Po s p hp J P)) ?_;rintro _ w2⟨rb,rfl,dg,Q⟩;refine(O 4) ?_;have x2:=ba.trans Q;have d5:=bn.ext Q;refine Lc (fun(d2:Aw)=>(d2=Aj,[(0,Bj (s)),(2,U n),(6,.pointer (X ⟨ob,0,Aa⟩)),(9,.pointer (X ⟨rb,0,Aa⟩)),(32,.bool d2)],w2)) ?_ ?_
 .refine(O 4) ?_;refine OW.as 25 (.bool Aj) Z (Z)<|(O 4)<|Zd 29 (fun c1=>?_) fun c1=>?_
  .omega
  .refine(O 4∘Lm (decide (n>258))) ?_;grind
 .rintro d2 rfl;refine(O 5) ?_;have c1:=MT P.heap.size rb s p 3 Bc hp J w2 dg;rw[d0]at c1;refine(Zc c1) ?_;rintro _ w3⟨rfl,ds,t3⟩;refine(O 12) ?_;have x3:Bf w w3:=t3.below x2 x2.size ck;have b7:=t3.bk d5 Z;refine Zi (fun he=>?_) fun he=>?_
  .rcases c6 with⟨h,rfl,rfl,rfl⟩|⟨h,rfl,rfl,rfl⟩
   .refine(O 4∘Zs b7) ?_;rintro w4 af b9;refine(O 3) ?_;refine Gd<|NN Z underlying260 Z NX Z Z Z (af) Z ?_;refine⟨⟨_,0,10,Z,.inr ⟨⟨Bc,Bc⟩,Ai h⟩⟩,Bv x3 b9 x3.size Bx⟩
   .exact AK Z he
  .rcases c6 with⟨h,rfl,rfl,rfl⟩|⟨h,rfl,rfl,rfl⟩
   .exact AK (show(10:Y)≠0 by decide) he
   .have hM:=Kq s p 3
    have d:MR s p n=if num (BW s p 3)<2∨6<num (BW s p 3)then Aa else if 8*Aim s<p+3+15 then Aa else if num (BW s (p+3) 15)=0 then Aa else match KK s (num (BW s p 3)-1) (num (BW s (p+3) 15)) (BE (num (BW s p 3))) (p+18) []with
     |none=>Aa
     |some (picks,q)=>(KL s n (num (BW s p 3)) q []).map fun r=>(⟨r.1,picks⟩,r.2):=Ag J
    generalize num (BW s p 3)=M at d hM;refine(O 3)<|Lc (fun(d7:Aw)=>(d7=decide (M<2∨6<M),[(0,Bj (s)),(2,U n),(6,.pointer (X ⟨ob,0,Aa⟩)),(9,.pointer (X ⟨rb,0,Aa⟩)),(10,.int .u64 M),(48,.bool d7)],w3)) ?_ ?_
    .refine(O 4)<|Zd 45 (fun c2=>?_) fun c2=>?_
     .refine(O 4∘Lm Af) ?_;grind
     .refine(O 4∘Lm (decide (M>6))) ?_;grind
    .rintro d7 rfl;refine Zi (fun bm=>?_) fun bm=>?_
     .rw[Ai bm]at d;refine(O 3∘Zs b7) ?_;rintro w4 af b9;refine(O 3) ?_;refine Gd<|NN Z underlying260 Z NX Z Z Z (af) Z ?_;refine⟨⟨_,0,110,Z,.inr ⟨⟨Bc,Bc⟩,d⟩⟩,Bv x3 b9 x3.size Bx⟩
     .rw[Ag bm]at d;obtain⟨v1,e1,q1,dv,c5⟩:=MJ s (p+3) 15;have c3:=MT P.heap.size rb s (p+3) 15 Bc h J w3 ds;rw[dv]at c3;refine(O 4∘Zc c3) ?_;rintro _ w4⟨rfl,dn,t4⟩;refine(O 12) ?_;have x4:Bf w w4:=t4.below x3 x3.size ck;have af:=t4.bk b7 Z;refine Zi (fun cc=>?_) fun cc=>?_
      .rcases c5 with⟨h1,rfl,rfl,rfl⟩|⟨h1,rfl,rfl,rfl⟩
       .rw[Ai h1]at d;refine(O 4∘Zs af) ?_;rintro w5 a1 a2;refine(O 3) ?_;refine Gd<|NN Z underlying260 Z NX Z Z Z (a1) Z ?_;refine⟨⟨_,0,10,Z,.inr ⟨⟨Bc,Bc⟩,d⟩⟩,Bv x4 a2 x4.size Bx⟩
       .exact AK Z cc
      .rcases c5 with⟨h1,rfl,rfl,rfl⟩|⟨h1,rfl,rfl,rfl⟩
       .exact AK (show(10:Y)≠0 by decide) cc
       .have hK:=Kq s (p+3) 15;rw[Ag J]at d;generalize num (BW s (p+3) 15)=K at d hK;refine(O 7)<|Zi (fun ca=>?_) fun ca=>?_
        .rw[Ai ca]at d;refine(O 3∘Zs af) ?_;rintro w5 a1 a2;refine(O 3) ?_;refine Gd<|NN Z underlying260 Z NX Z Z Z (a1) Z ?_;refine⟨⟨_,0,110,Z,.inr ⟨⟨Bc,Bc⟩,d⟩⟩,Bv x4 a2 x4.size Bx⟩
        .rw[Ag ca]at d;have e7:2<=M/\M<=6:=J;have es:K<32768:=hK;refine(O 3∘Zn) ?_;rintro pb w5 ep cr a9;refine(O 5∘Zc (jd M J w5)) ?_;rintro _ w6⟨gb,rfl,e6,c4,a4⟩;refine(O 9) ?_;have x6:=(x4.trans a9).trans a4;have d3:=cr.ext a4;have e4:=(af.ext a9).ext a4;have dk:=(dn.ext a9).ext a4;have ey:=cr.lt;have e5:=c4.lt;have e3:=af.lt;have et:=x6.size;have cf:Bf P w6:=(((t4.below (t3.below Q Q.size (Bq _)) (t3.below Q Q.size (Bq _)).size (Bq _)).trans (a9.mono (by have:=t3.size;have:=t4.size;have:=Q.size;omega))).trans (a4.mono (by have:=t3.size;have:=t4.size;have:=Q.size;omega)));have ce:=cf.size;have e9:=a9.size;have e8:=a4.size;have fa:P.heap.size<=w4.heap.size:=by have:=t3.size;have:=t4.size;have:=Q.size;omega
         have en:M-1+1=M:=J;refine Lo (fun((i,lc,q,o,vo,wr):Y×(Bi)×Y×(Bi)×Ah×Ad)=>(i<=K/\Aim lc=M/\(∀x∈lc,x<M)/\q<=8*Aim s/\KK s (M-1) (K-i) lc q o=KK s (M-1) K (BE M) (p+18) []/\Aim o=i/\(∀x∈o,x<M)/\RdAt wr P.heap.size rb s q/\Bk wr gb 3 (BC .i64 lc)/\Bk wr pb 260 [.slice Aa 0 0,vo]/\Bp wr w6.heap.size 3 1 vo (Aim o) (BC .i64 o)/\w6.heap.size<=wr.heap.size/\Bf P wr,[(0,Bj (s)),(2,U n),(6,.pointer (X ⟨ob,0,Aa⟩)),(9,.pointer (X ⟨rb,0,Aa⟩)),(10,.int .u64 M),(13,.pointer (X ⟨pb,0,Aa⟩)),(14,.slice (X ⟨gb,0,Aa⟩) M M),(65,.int .u64 K),(66,.int .u64 i)],wr,K-i)) (0,(BE M),(p+18),([]),(.slice Aa 0 0),w6) ?_ ?_
         .exact⟨BD _,GV,fun x hx=>CQ.1 hx,J,Z,Z,Bl,dk,c4,d3,Bp.nil _ _ _ _,Bq _,cf⟩
         .rintro⟨i,lc,q,o,vo,wr⟩⟨hi,cz,cx,hq,ao,el,ez,cn,ed,co,bx,eh,a8⟩;refine(O 5)<|Zi (fun hc=>?_) fun hc=>?_
          .obtain⟨j,hj⟩:∃j,K-i=j+1:=⟨K-i-1,J⟩;rw[hj,Adq]at ao;have cu:=Aew P.heap.size rb s q (M-1) J hq J wr cn;refine(O 9∘Zc cu) ?_;rintro _ w7⟨⟨k,e,rfl,A⟩,t7⟩;refine(O 8) ?_;have bl:=t7.bk ed Z;have I:=t7.bk co Z;have g:=t7.own bx Z;have x7:Bf P w7:=t7.below a8 a8.size (Bq _);refine Ld (fun(e2:Y)=>((e=0->e2=0)/\(e≠0->GQ e2),[(0,Bj (s)),(2,U n),(6,.pointer (X ⟨ob,0,Aa⟩)),(9,.pointer (X ⟨rb,0,Aa⟩)),(10,.int .u64 M),(13,.pointer (X ⟨pb,0,Aa⟩)),(14,.slice (X ⟨gb,0,Aa⟩) M M),(15,U k),(16,U e2),(65,.int .u64 K),(66,.int .u64 i)],w7)) ?_ ?_
           .refine(O 4)<|Zi (fun h3=>?_) fun h3=>?_
            .refine(O 3∘Lm 110) ?_;exact⟨fun z=>by omega,fun _=>⟨Bc,Bc⟩⟩
            .refine(O 1∘Lm e) ?_;grind
           .rintro e2⟨cj,bs⟩;refine(O 6)<|Zi (fun ai=>?_) fun ai=>?_
            .have b8:MR s p n=Aa:=by
              rcases A with⟨h,_⟩|⟨_,h⟩
              .omega
              .grind
             have b6:=bn.ext x7;have ee:e≠0:=fun z=>ai (cj z);have xw:=ba.trans x7;refine(O 4∘Zs b6) ?_;rintro w5 a1 a2;refine(O 3) ?_;refine Gd<|NN Z underlying260 Z NX Z Z Z (a1) Z ?_;refine⟨⟨_,0,e2,Z,.inr ⟨bs ee,b8⟩⟩,Bv xw a2 xw.size Bx⟩
            .rcases A with⟨rfl,q2,g1,g2,g3,b2⟩|⟨g1,g2⟩
             .have bh:k<Aim lc:=J;rw[g1]at ao;simp only at ao;have c0:lc.getD k 0=lc[k]:=by simp[bh]
              have d9:=cx _ (BM bh);have cm:=jb lc k gb bh J w7.drew bl.drew;rw[cz,c0]at cm;rw[c0]at ao;generalize lc[k]=x at ao d9 cm;refine(O 1)<|Lc (fun((vq,V):Ah×Ad)=>(RdAt V P.heap.size rb s q2/\Bk V gb 3 (BC .i64 (Ey lc k))/\Bp V w6.heap.size 3 1 vq (Aim (o++[x])) (BC .i64 (o++[x]))/\w6.heap.size<=V.heap.size/\Bf P V/\Bk V pb 260 [.slice Aa 0 0,vq],[(0,Bj (s)),(2,U n),(6,.pointer (X ⟨ob,0,Aa⟩)),(9,.pointer (X ⟨rb,0,Aa⟩)),(10,.int .u64 M),(13,.pointer (X ⟨pb,0,Aa⟩)),(14,.slice (X ⟨gb,0,Aa⟩) M M),(65,.int .u64 K),(66,.int .u64 i)],V)) ?_ ?_
              .have cd:w6.heap.size<=w7.heap.size:=BF eh t7.size;have eo:=fun k hk=>(g.lt k hk).1;have cb:pb≠gb:=I.ne bl Bc;have bj:P.heap.size<=gb:=J;have bi:gb<w6.heap.size:=J;have bf:P.heap.size<=pb:=J;have bc:pb<w6.heap.size:=J;have L:∀w8,Mo w7.drew w8 [gb]->Bp w8 w6.heap.size 3 1 vo (Aim o) (BC .i64 o):=fun w8 f=>(g.ext (Bf.drew w7)).mo f fun k hk=>by grind
               have b3:∀w8 w9 N,Mo w7.drew w8 [gb]->Bf w8 w9->w9.grownBy N vo.ownBlock->Bk N pb 260 [.slice Aa 0 0,vo]:=fun w8 w9 N a b c=>((I.drew.mo a (by simpa using cb)).ext b).grown c fun e=>by grind
               refine(Yr 9 (fun w'=>True) AB) fun hS=>(Gv [0,2,3])<|Ye 1 4 ?_ ?_
               .refine(Jo 1 (he:=by exact Bo I.drew)) fun hS=>(Yc 4 cm) ?_;rintro _ w8⟨rfl,bq,f⟩;refine⟨AB,fun hS=>?_⟩;refine PW 5 1 Z Be Z Z underlying51 BU Z Z Z Z Z Bc ?_;rintro eb w9 b0 al D;refine⟨AB,fun hS=>?_⟩;refine GW.append 6 0 Z Be Z Z underlying51 BU Z Bc Z Z (((L w8 f).ext D).more (BD _)) (Src.Agh (m:=1) underlying51 (Sl.Agf al al.lt) Z (Lx (k:=.i64) (l:=[x])) Bc) CE J (BD _) ?_;rintro a7 N E C W;have ab:=b3 w8 w9 N f D C;refine⟨AB,fun hS=>?_⟩;refine(Gv [7]∘Yt 8 ab) ?_;rintro a6 B aj;refine⟨AB,fun hS=>?_⟩;refine(Yd∘Lm (a7,a6)) ?_;obtain⟨y1,y2,y3,y4,y5⟩:=ZT b2 bl I g x7 ce cd ⟨bj,bi⟩ ⟨bf,bc⟩ bq f D E C W B aj;exact⟨y1,y2,y3,y4,y5,B⟩
               .refine(Jc 4 cm) ?_;rintro _ w8⟨rfl,bq,f⟩;refine⟨AB,fun hS=>?_⟩;refine Ye 1 5 ?_ ?_
                .refine(Jo 1 (he:=by exact Bo (I.drew.mo f (by simpa using cb)))) fun hS=>?_;refine PW 5 1 Z Be Z Z underlying51 BU Z Z Z Z Z Bc ?_;rintro eb w9 b0 al D;refine⟨AB,fun hS=>?_⟩;refine GW.append 6 0 Z Be Z Z underlying51 BU Z Bc Z Z (((L w8 f).ext D).more (BD _)) (Src.Agh (m:=1) underlying51 (Sl.Agf al al.lt) Z (Lx (k:=.i64) (l:=[x])) Bc) CE J (BD _) ?_;rintro a7 N E C W;have ab:=b3 w8 w9 N f D C;refine⟨AB,fun hS=>?_⟩;refine(Gv [7]∘Yt 8 ab) ?_;rintro a6 B aj;refine⟨AB,fun hS=>?_⟩;refine(Yd∘Lm (a7,a6)) ?_;obtain⟨y1,y2,y3,y4,y5⟩:=ZT b2 bl I g x7 ce cd ⟨bj,bi⟩ ⟨bf,bc⟩ bq f D E C W B aj;exact⟨y1,y2,y3,y4,y5,B⟩
                .refine Js 5 1 Z Z Z underlying51 BU Z Z Z Z Z Bc ?_;rintro eb w9 b0 al D;refine⟨AB,fun hS=>?_⟩;refine(Yo 1 (he:=by exact Bo ((I.drew.mo f (by simpa using cb)).ext D))) fun hS=>?_;refine GW.append 6 0 Z Be Z Z underlying51 BU Z Bc Z Z (((L w8 f).ext D).more (BD _)) (Src.Agh (m:=1) underlying51 (Sl.Agf al al.lt) Z (Lx (k:=.i64) (l:=[x])) Bc) CE J (BD _) ?_;rintro a7 N E C W;have ab:=b3 w8 w9 N f D C;refine⟨AB,fun hS=>?_⟩;refine(Gv [7]∘Yt 8 ab) ?_;rintro a6 B aj;refine⟨AB,fun hS=>?_⟩;refine(Yd∘Lm (a7,a6)) ?_;obtain⟨y1,y2,y3,y4,y5⟩:=ZT b2 bl I g x7 ce cd ⟨bj,bi⟩ ⟨bf,bc⟩ bq f D E C W B aj;exact⟨y1,y2,y3,y4,y5,B⟩
              .rintro⟨vq,V⟩⟨y1,y2,y3,y4,y5,y6⟩;refine(O 5)<|Lb ((i+1),(Ey lc k),q2,(o++[x]),vq,V) ?_;exact⟨hc,(Pm bh).trans cz,fun z hz=>cx z ((SH bh z).1 hz),g3,Bh,by rw[BA,CJ];omega,fun z hz=>by grind,y1,y2,y6,y3,y4,y5⟩
             .exact AK (Dm.1 ai) (by have:=bs (by have:=g1.1;omega);have:=this.1;omega)
          .obtain rfl:i=K:=J;rw[EP,Adr]at ao;rw[<-ao]at d;simp only at d;refine(O 4∘Zc (SS P.heap.size rb s q wr cn)) ?_;rintro _ _⟨rfl,rfl⟩;refine(O 9) ?_;have ek:pb<wr.heap.size:=J
           let P2:Ay->Aw:=fun T=>T==51||T==260
           have m1:∀T,(T==51)=Af->P2 T=Af:=fun T h=>by simp[P2,h]
           have m2:∀T,(T==260)=Af->P2 T=Af:=fun T h=>by simp[P2,h]
           refine Lo (fun((i,a,ts,us,vt,V):Y×Y×LLN×(Bm)×Ah×Ad)=>(i<=M/\KL s n (M-i) a ts=KL s n M q []/\Aim ts=i/\(∀t∈ts,Aim t=n/\LOk t)/\a<=8*Aim s/\Bp V wr.heap.size 51 1 vt i us/\Gz V wr.heap.size us ts/\Bk V pb 260 [vt,vo]/\Tm wr V P.heap.size P2,[(0,Bj (s)),(1,U a),(2,U n),(6,.pointer (X ⟨ob,0,Aa⟩)),(13,.pointer (X ⟨pb,0,Aa⟩)),(93,.int .u64 M),(94,.int .u64 i)],V,M-i)) (0,q,([]),([]),(.slice Aa 0 0),wr) ?_ ?_
           .exact⟨BD _,Z,Z,Bl,hq,Bp.nil _ _ _ _,⟨Z,fun i hi=>by grind⟩,co,Tm.refl _ _ _⟩
           .rintro⟨i,a,ts,us,vt,V⟩⟨hi,G,ew,cl,ha,a0,bb,cp,tq⟩;have xq:Bf P V:=tq.below a8 a8.size (Bq _);refine(O 5)<|Zi (fun ef=>?_) fun ef=>?_
            .obtain⟨j,hj⟩:∃j,M-i=j+1:=⟨M-i-1,J⟩;rw[hj,Adw]at G;refine(O 8∘Zc (tK s a n ha ⟨J,J⟩ hs V)) ?_;rintro _ w7⟨⟨u,t,q2,e,rfl,cv,A⟩,a3⟩;obtain⟨At,ct,rfl,_,c8⟩:=cv.sl;refine(O 10) ?_;have x7:Bf P w7:=xq.trans a3;refine Ld (fun(e2:Y)=>(e2=(if e=0 then GD t else e),[(0,Bj (s)),(2,U n),(6,.pointer (X ⟨ob,0,Aa⟩)),(13,.pointer (X ⟨pb,0,Aa⟩)),(17,.slice At (Aim t) ct),(18,U q2),(19,U e2),(93,.int .u64 M),(94,.int .u64 i)],w7)) ?_ ?_
             .refine(O 4)<|Zi (fun S=>?_) fun S=>?_
              .rcases A with⟨_,h2,h3,h4,h5⟩|⟨h1,_⟩
               .refine(O 2∘Zc (YX t J (fun x hx=>by grind) At ct _ w7 c8)) ?_;rintro _ _⟨rfl,rfl⟩;refine(O 2∘Lm (GD t)) ?_;grind
               .exact AK S (by have:=h1.1;omega)
              .refine(O 1∘Lm e) ?_;grind
             .rintro e2 S;refine(O 6)<|Zi (fun ai=>?_) fun ai=>?_
              .have b8:GQ e2/\MR s p n=Aa:=by
                rcases A with⟨h1,h2,h3,h4,h5⟩|⟨h1,h2⟩
                .rw[Ai h1]at S;rw[h2]at G;have cw:¬LOk t:=fun z=>ai (by rw[S];exact Ai ⟨J,J,z⟩);simp only at G;rw[Ag cw]at G;rw[<-G]at d;refine⟨?_,d⟩;rw[S,show GD t=80 from Ag fun z=>cw z.2.2];exact⟨Bc,Bc⟩
                .rw[Ag (by have:=h1.1;omega)]at S;grind
               have b6:=bn.ext x7;have xw:=ba.trans x7;refine(O 4∘Zs b6) ?_;rintro w5 a1 a2;refine(O 3) ?_;refine Gd<|NN Z underlying260 Z NX Z Z Z (a1) Z ?_;exact⟨⟨_,0,e2,Z,.inr b8⟩,Bv xw a2 xw.size Bx⟩
              .have c7:e=0/\JI s a n=X (t,q2)/\Aim t=n/\LOk t/\q2<=8*Aim s:=by
                rcases A with⟨h1,h2,h3,h4,h5⟩|⟨h1,h2⟩
                .refine⟨h1,h2,h3,MX fun z=>ai ?_,h5⟩;rw[S,Ai h1,show GD t=80 from Ag fun y=>z y.2.2];decide
                .exact AK (by rw[S,Ag (by have:=h1.1;omega)];have:=h1.1;omega) ai
               obtain⟨rfl,g2,g3,g4,g5⟩:=c7;rw[g2]at G;simp only at G;rw[Ai g4]at G;have I:=cp.ext a3;have g:=a0.ext a3;have db:wr.heap.size<=w7.heap.size:=BF tq.size a3.size;have df:=a8.size;refine(O 6∘Qs wr.heap.size db g) ?_;rintro _ v8 w8 L f eg;refine(O 1) ?_;have ec:=fun k hk=>(g.lt k hk).1;have ea:=fun k hk=>(L.lt k hk).1;have cq:=I.mo f fun z=>by grind
               refine(Zt cq) ?_;rintro w9 d1 a5;refine(O 10) ?_;have cg:Tm w7 w9 P.heap.size P2:=((Tm.Agl (Bp.more g df) f).mono m1).trans ((Tm.set cq a5 J).mono m2);have t9:Tm wr w9 P.heap.size P2:=(tq.trans (Tm.Age a3 _ _)).trans cg;refine Lb ((i+1),q2,(ts++[t]),(us++[.slice At (Aim t) ct]),v8,w9) ?_;refine⟨J,Bh,by rw[BA,CJ];omega,fun z hz=>?_,g5,L.mo a5 (fun k hk=>by grind),((bb.ext a3).snoc (Bp.more cv tq.size)).tm cg Z,d1,t9⟩;grind
            .obtain rfl:i=M:=J;rw[EP,Adx]at G;rw[<-G]at d;have b5:=bn.ext xq;have b4:=tq.own bx Z;refine(O 3∘Zv (Cf cp)∘O 1∘Zs b5) ?_;rintro w9 d4 a5;refine(O 3) ?_;have t9:=Tm.set b5 a5 (BD ob);have xw:=ba.trans xq;have em:=b5.lt;obtain⟨A2,c2,rfl,_,c9⟩:=(t9.own b4 Z).slice;have ch:=a0.mo a5 fun k hk=>by have:=(a0.lt k hk).1;simp;omega
             obtain⟨A1,ei,rfl,_,da⟩:=ch.slice;have b1:=(bb.tm t9 Z).rows;refine Gd<|NN Z underlying260 Z NX Z Z Z (d4) Z ?_;refine⟨⟨_,a,0,Z,.inl ⟨Z,⟨ts,o⟩,d,⟨Bh,⟨Bh,Bh⟩,fun t ht=>(cl t ht).1,⟨d8,d6⟩,fun t ht=>(cl t ht).2,fun k hk=>by grind⟩,⟨A1,ei,A2,c2,us,Bh,da,b1,c9⟩,ha⟩⟩,Bv xw a5 xw.size Bx⟩
def FP(w:Ad)(lo:Y)(vs:Bm)(m n:Y)(P:Y->Bi->Prop):Prop:=Aim vs=m/\∀i,i<m->∃u l,vs[i]? =X u/\CV w lo u l/\Aim l=n/\P i l
section
variable{w w1 w2:Ad}{lo g m n i:Y}{vs us:Bm}{P Q:Y->Bi->Prop}{S:Bi}{u:Ah}{l:Bi}
def FP.keep(h:FP w lo vs m n P)(k:∀u l,CV w lo u l->CV w2 lo u l):FP w2 lo vs m n P:=
 ⟨h.1,fun i hi=>by obtain⟨u,l,h1,h2,h3⟩:=h.2 i hi;grind⟩
def FP.imp(h:FP w lo vs m n P)(k:∀i l,i<m->P i l->Q i l):FP w lo vs m n Q:=
 ⟨h.1,fun i hi=>by obtain⟨u,l,h1,h2,h3,h4⟩:=h.2 i hi;grind⟩
def FP.ext(h:FP w lo vs m n P)(hx:Bf w w2):FP w2 lo vs m n P:=h.keep fun _ _ q=>q.ext hx
def FP.mo(h:FP w lo vs m n P)(hm:Mo w w2 [g])(hg:g<lo):FP w2 lo vs m n P:=h.keep fun _ _ q=>Bp.mo q hm fun k hk=>by have:=(q.lt k hk).1;grind
def FP.moS(h:FP w lo vs m n P)(hm:Mo w w2 S)(hS:∀k∈S,k<lo):FP w2 lo vs m n P:=h.keep fun _ _ q=>Bp.mo q hm fun k hk z=>by have:=(q.lt k hk).1;grind
def FP.set(h:FP w lo vs m n P)(hi:i<m)(d:CV w lo u l)(hl:Aim l=n)(k:Q i l)(f:∀j l,j≠i->P j l->Q j l):FP w lo (vs.set i u) m n Q:=by
 refine⟨by rw[HG];exact h.1,fun j a=>?_⟩;rw[Wy];by_cases e:i=j
 .subst e;rw[Ai Z,Ai (by rw[h.1];omega)];grind
 .rw[Ag e];obtain⟨u,l,r,q,p,o⟩:=h.2 j a;grind
def FP.snoc(h:FP w lo vs m n P)(a:CV w lo u l)(hl:Aim l=n)(e:P m l):FP w lo (vs++[u]) (m+1) n P:=by
 refine⟨by rw[BA,h.1];rfl,fun j d=>?_⟩;rcases Db j m with q|q
 .rw[FA (by rw[h.1];omega)];exact h.2 j q
 .obtain rfl:j=m:=J;rw[Hl (by rw[h.1];simp),h.1,EP];grind
def FP.lists(h:FP w lo vs m n P):∃ls:Ae (Bi),Aim ls=m/\Gz w lo vs ls/\∀i (hi:i<Aim ls),Aim ls[i]=n/\P i ls[i]:=by
 have e:∀i,i<m->∃l,∃u,vs[i]? =X u/\CV w lo u l/\Aim l=n/\P i l:=fun i hi=>by
  obtain⟨u,l,q⟩:=h.2 i hi;grind
 let f:Y->Bi:=fun i=>open Classical in if q:∃l,∃u,vs[i]? =X u/\CV w lo u l/\Aim l=n/\P i l then q.choose else[]
 have d:∀i,i<m->∃u,vs[i]? =X u/\CV w lo u (f i)/\Aim (f i)=n/\P i (f i):=fun i hi=>by
  grind
 have a:Aim ((BE m).map f)=m:=Bl;refine⟨(BE m).map f,a,⟨by rw[a];exact h.1,fun i hi=>?_⟩,fun i hi=>?_⟩
 .obtain⟨u,o,k,j⟩:=d i J;simp_all
 .obtain⟨u,o,k,j⟩:=d i J;simp_all
def Lj(w:Ad)(lo:Y)(us:Bm)(m n:Y)(P:Y->Bi->Prop):Prop:=Aim us=m/\(∀i,i<m->∃g l,us[i]? =X (.slice (X ⟨g,0,Aa⟩) n n)/\lo<=g/\Bk w g 3 (BC .i64 l)/\Aim l=n/\P i l)/\∀i j g,i<m->j<m->us[i]? =X (.slice (X ⟨g,0,Aa⟩) n n)->us[j]? =X (.slice (X ⟨g,0,Aa⟩) n n)->i=j
def Lj.keep{P Q:Y->Bi->Prop}(h:Lj w lo us m n P)(k:∀g l,lo<=g->Bk w g 3 (BC .i64 l)->Bk w2 g 3 (BC .i64 l))(hP:∀i l,P i l->Q i l):Lj w2 lo us m n Q:=
 ⟨h.1,fun i hi=>by obtain⟨g,l,h1,h2,h3,h4,h5⟩:=h.2.1 i hi;grind,h.2.2⟩
def Lj.lt{P:Y->Bi->Prop}(h:Lj w lo us m n P){i g:Y}(hi:i<m)(e:us[i]? =X (.slice (X ⟨g,0,Aa⟩) n n)):g<w.heap.size:=by
 obtain⟨j,l,d,f,a,_⟩:=h.2.1 i hi;rw[d]at e;cases e;exact a.lt
def Lj.snoc{P:Y->Bi->Prop}(h:Lj w lo us m n P)(hf:∀i,i<m->¬us[i]? =X (.slice (X ⟨g,0,Aa⟩) n n))(f:lo<=g)(t:Bk w g 3 (BC .i64 l))(hl:Aim l=n)(x:P m l):Lj w lo (us++[.slice (X ⟨g,0,Aa⟩) n n]) (m+1) n P:=by
 have a:∀i,i<m->(us++[Value.slice (X ⟨g,0,Aa⟩) n n])[i]? =us[i]?:=fun i o=>FA (by rw[h.1];omega)
 have v:(us++[Value.slice (X ⟨g,0,Aa⟩) n n])[m]? =X (.slice (X ⟨g,0,Aa⟩) n n):=by
  rw[Hl (by rw[h.1];simp),h.1,EP];rfl
 refine⟨by rw[BA,h.1];rfl,fun j k=>?_,fun i j r o k e d=>?_⟩
 .rcases Db j m with q|q
  .rw[a j q];exact h.2.1 j q
  .grind
 .rcases Db i m with p|p<;>rcases Db j m with q|q
  .rw[a i p]at e;rw[a j q]at d;exact h.2.2 i j r p q e d
  .grind
  .grind
  .omega
def Lj.put{P Q:Y->Bi->Prop}(h:Lj w lo us m n P)(hi:i<m)(he:us[i]? =X (.slice (X ⟨g,0,Aa⟩) n n))(hm:Mo w w2 [g])(hb:Bk w2 g 3 (BC .i64 l))(hl:Aim l=n)(hP:Q i l)(hQ:∀j l,j≠i->P j l->Q j l):Lj w2 lo us m n Q:=
 ⟨h.1,fun j hj=>by
  obtain⟨g',l',h1,h2,h3,h4,h5⟩:=h.2.1 j hj;by_cases e:j=i
  .grind
  .exact⟨g',l',h1,h2,h3.mo hm (by simp;rintro rfl;exact e (h.2.2 j i g' hj hi h1 he)),h4,hQ j l' e h5⟩,h.2.2⟩
end
def Up(c:Y)(l:Bi):Prop:=∀x∈l,x<=c
def mT{α:Type}{a b:Ae α}{i:Y}{x v:α}(h:i=Aim a):(a++x::b).set i v=a++v::b:=by
 simp_all
def NP(n many t s:Y):Bi:=(BE s).map (fun s=>if s*many/n=t then 1 else 15)++BG (n-s) 0
def mx{n a t s v:Y}(h:s<n)(hv:v=if s*a/n=t then 1 else 15):(NP n a t s).set s v=NP n a t (s+1):=by
 have e:n-s=(n-(s+1))+1:=J;unfold NP;rw[e,HI,mT Bl,FV,DX,Cq,hv];rfl
def VJ(n many:Y):Ae (Bi):=(BE many).map fun t=>NP n many t n
def JD(tabs:Ae (Bi))(gl:Bi)(t:Y):Y:=(BE t).foldl (fun b t=>if Ik (tabs.getD t []) gl<Ik (tabs.getD b []) gl then t else b) 0
def dM(a:Ae (Bi))(d:Bi):JD a d 1=0:=by
 unfold JD;simp
def dN(a:Ae (Bi))(d:Bi)(t:Y):JD a d (t+1)=if Ik (a.getD t []) d<Ik (a.getD (JD a d t) []) d then t else JD a d t:=by
 unfold JD;rw[FV,Qd,LZ,List.foldl_nil]
def JV(row gl:Bi):Bi:=gl.foldl (fun r y=>r.set y (r.getD y 0+1)) row
def oK{row a:Bi}{j:Y}(h:j<Aim a):JV row (a.take (j+1))=(JV row (a.take j)).set a[j] ((JV row (a.take j)).getD a[j] 0+1):=by
 unfold JV;rw[Me,BN h,Qd];rfl
def wK(tabs:Ae (Bi))(l:Bi)(n many:Y):Y->Y->Bi
 |0,_=>BG n 0
 |k+1,t=>if t=JD tabs (Ew l k) many then JV (wK tabs l n many k t) (Ew l k)else wK tabs l n many k t
def Ef(l:Bi)(n many G:Y):Y->Ae (Bi)
 |0=>VJ n many
 |r+1=>(BE many).map fun t=>KF (wK (Ef l n many G r) l n many G t)
def QX(l:Bi)(n many G r:Y):Bi:=(BE G).map fun k=>JD (Ef l n many G r) (Ew l k) many
def Pv(tabs:Ae (Bi))(l:Bi)(many:Y)(ks:Bi)(k:Y):Bi:=(BE k).map (fun k=>JD tabs (Ew l k) many)++ks.drop k
def yU{a:Ae (Bi)}{l:Bi}{d:Y}{ks:Bi}{k:Y}(h:k<Aim ks):(Pv a l d ks k).set k (JD a (Ew l k) d)=Pv a l d ks (k+1):=by
 unfold Pv;rw[Ds h,mT Bl,FV,DX,Cq];rfl
def sx{t a:Bi}{i:Y}(h:i<Aim a):Ik t (a.take (i+1))=Ik t (a.take i)+t.getD a[i] 0:=by
 unfold Ik;rw[Me,BN h,DX,Tj];rfl
def sy(l:Bi)(n a t k:Y)(ht:t<a)(hk:k<grpN (Aim l))(hn:Aim l<=1638350)(V:∀x∈l,x<n)(A:Av AC)(c C lb I tb lo:Y)(kv:Ah)(vs:Bm)(B:Aim l<=c)(w:Ad)(hs:Sl w C A (BC .i64 l))(aj:Bk w lb 51 [.slice A (Aim l) c])(hp:Bk w I 260 [.slice (X ⟨tb,0,Aa⟩) a a,kv])(L:Bk w tb 51 vs)(h:Ae (Bi))(hr:FP w lo vs a n (fun i l=>Up 20 l/\l=h.getD i [])):
 Bn prog 268 [U (t:H),U (k:H),.pointer (X ⟨lb,0,Aa⟩),.pointer (X ⟨I,0,Aa⟩)] w fun v w'=>v=U ((Ik (h.getD t []) (Ew l k):Y):H)/\w=w':=by
 obtain⟨u,e,hu,T,ai,q,N⟩:=hr.2 t ht;rw[<-N];have W:Aim (Ew l k)<=50:=by unfold Ew;rw[BY];omega
 have r:∀x∈Ew l k,x<n:=fun x hx=>V x (TR (HH hx));refine Bw func268 Z ntmps268 (by rfl) Z ?_;refine(O 13∘Zc (jf l k hk J A c C B w hs)) ?_;rintro _ _⟨⟨A',c',rfl,p⟩,rfl⟩;refine(O 4) ?_;generalize Ew l k=gl at W r p;obtain⟨Au,cu,rfl,_,G⟩:=T.sl;refine Lo (fun((i,x):Y×Y)=>(i<=Aim gl/\x<=20*i/\x=Ik e (gl.take i),[(0,U t),(3,.pointer (X ⟨I,0,Aa⟩)),(7,U x),(12,.slice A' (Aim gl) c'),(13,U ((Aim gl:Y):H)),(14,U i)],w,Aim gl-i)) (0,0) ?_ ?_
 .exact⟨BD _,BD _,Z⟩
 .rintro⟨i,x⟩⟨hi,hx,af⟩;refine(O 5)<|Zi (fun E=>?_) fun E=>?_
  .obtain⟨b,f,rfl,_,ab⟩:=p.intAt J;have j:=ab w (Bf.refl _) i E;have K:=r _ (BM E);have o:=sx (t:=e) E;generalize gl[i]=y at j K o;obtain⟨rb,rf,rfl,_,D⟩:=G.intAt J;have d:=D w (Bf.refl _) y J;have hz:=q _ (BM (show y<Aim e by omega));rw[CF J]at o;generalize e[y]=z at d hz o;refine(O 6∘Zv (BZ j)∘O 8∘Zv (Bo L (hi:=hu))∘O 2∘Zv (BZ d)∘O 8)<|Lb ((i+1),(x+z)) ?_;omega
  .refine(O 6∘Bu) ?_;grind
def Jk(w:Ad)(lo n m:Y)(cs:Bm)(p:Pl):Prop:=p.Ok n/\Aim p.picks=m/\∀W:Ad,(∀k,lo<=k->k<w.heap.size->W.heap[k]? =w.heap[k]?)->PlanAt W W.heap.size cs p
section
variable{w w':Ad}{lo lo' n m g:Y}{cs:Bm}{p:Pl}
def Jk.ext(h:Jk w lo n m cs p)(hx:Bf w w'):Jk w' lo n m cs p:=by
 obtain⟨j,i,f⟩:=h;exact⟨j,i,fun W e=>f W fun k d a=>(e k d (Kj a hx.size)).trans (hx.block k a)⟩
def Jk.mo(h:Jk w lo n m cs p)(hm:Mo w w' [g])(l:g<lo):Jk w' lo n m cs p:=by
 obtain⟨j,i,f⟩:=h;exact⟨j,i,fun W e=>f W fun k d a=>(e k d (Kj a hm.size)).trans (hm.block k a Bh)⟩
def Jk.now(h:Jk w lo n m cs p):p.Ok n/\Aim p.picks=m/\PlanAt w w.heap.size cs p:=by
 obtain⟨e,d,a⟩:=h;grind
def Jk.low(h:Jk w lo n m cs p)(hl:lo'<=lo):Jk w lo' n m cs p:=by
 obtain⟨j,i,f⟩:=h;exact⟨j,i,fun W e=>f W fun k d a=>e k (BF hl d) a⟩
end
def Mo.Agn{a b c:Ad}{S:Bi}{g:Y}(m:Mo a b S)(k:Mo b c [g])(hg:a.heap.size<=g):Mo a c S:=
 ((m.mono (S':=g::S) fun _ h=>El _ h).trans (k.mono (S':=g::S) fun x h=>by grind)).fresh fun x h q=>by
  grind
def Mo.low{a b c:Ad}{S:Bi}(m:Mo a b S)(h:Below a.heap.size b c):Mo a c S:=
 ⟨h.os.trans m.os,h.tape.trans m.tape,h.output.trans m.output,BF m.size h.size,fun i hi hS=>(h.block i hi).trans (m.block i hi hS)⟩
def Bk.low{a b:Ad}{B g:Y}{T:Ay}{l:Bm}(h:Bk a g T l)(hb:Below B a b)(hg:g<B):Bk b g T l:=h.of_block (hb.block g hg)
def Up.set{c x i:Y}{l:Bi}(h:Up c l)(hx:x<=c):Up c (l.set i x):=fun y a=>by
 rcases List.mem_or_eq_of_mem_set a with z|z
 .exact h y z
 .omega
def FP.nil{w:Ad}{lo n:Y}{P:Y->Bi->Prop}:FP w lo [] 0 n P:=⟨Z,fun i hi=>by omega⟩
def Ks(l:Bi)(n:Y):Pl:=⟨Ef l n (Gm (Aim l)) (grpN (Aim l)) 4,QX l n (Gm (Aim l)) (grpN (Aim l)) 3⟩
def Adf{n a t:Y}(h:t<a):(VJ n a).getD t []=NP n a t n:=by
 unfold VJ;grind
def Adk{l:Bi}{n a G r t:Y}(h:t<a):(Ef l n a G (r+1)).getD t []=KF (wK (Ef l n a G r) l n a G t):=by
 rw[Ef,BX,DP,Nk h];rfl
def nI(l:Bi)(n many G:Y):∀r,Aim (Ef l n many G r)=many
 |0=>by rw[Ef,VJ,DQ,GV]
 |r+1=>by rw[Ef,DQ,GV]
def yT{l:Bi}{n a G r:Y}{ks:Bi}(h:Aim ks=G):Pv (Ef l n a G r) l a ks G=QX l n a G r:=by
 unfold Pv QX;grind
def sw{t a:Bi}(h:Up 20 t)(f:Aim a<=50):Ik t a<=1000:=by
 have:=VF (l:=a.map fun s=>t.getD s 0) (m:=20) fun x d=>by
  obtain⟨y,_,rfl⟩:=Ck.1 d;rw[BX];rcases e:t[y]? with _|z
  .simp
  .exact h z (RS e)
 rw[DQ]at this;unfold Ik;omega
def rP(l:Bi)(n:Y)(hn:3<=n/\n<=258)(h1:1<=Aim l)(h2:Aim l<=1638350)(cr:∀x∈l,x<n)(A:Av AC)(c C:Y)(cb:Aim l<=c)(w:Ad)(gn:C<=w.heap.size)(hs:Sl w C A (BC .i64 l)):
 Bn prog 230 [.slice A (Aim l) c,U (n:H)] w fun v w'=>(∃cs,v=.tuple #[.agg (Lg cs),U ((0:Y):H)]/\Jk w' w.heap.size n (grpN (Aim l)) cs (Ks l n))/\Bf w w':=by
 unfold Ks;obtain⟨d3,ca⟩:=ke (Aim l);have fb:=UN h1;have fa:grpN (Aim l)<=32767:=by unfold grpN;omega
 have cz:∀k,k<grpN (Aim l)->Aim (Ew l k)<=50/\50*k+Aim (Ew l k)<=Aim l:=fun k hk=>by
  obtain⟨q1,q2⟩:=ji l hk;omega
 refine Bw func230 Z ntmps230 Be Z ?_;refine(O 2) ?_;refine Mh Z Z Z Z ?_;rintro lb w1 L d4 D;refine(Zn) ?_;rintro ob w2 f1 d2 cf;refine(O 5) ?_;have x2:=D.trans cf;have ct:=d4.ext cf;have f5:=D.size;have f4:=cf.size;have gd:=d4.lt;have gc:=d2.lt;refine(O 2∘Zc (kn l n hn h1 h2 cr A c C w2 (hs.ext x2))) ?_;rintro _ _⟨rfl,rfl⟩;refine(O 8∘Zc (uC (Aim l) h1 J w2)) ?_;rintro _ _⟨rfl,rfl⟩;refine(O 7) ?_;generalize Gm (Aim l)=many at d3 ca;generalize hG:grpN (Aim l)=G at fb fa cz;obtain⟨n1,n2⟩:=hn;have cg:∀W,Bn prog 234 [U (Aim l:H)] W fun v w'=>v=U ((G:Y):H)/\W=w':=fun W=>by rw[<-hG];exact YI (Aim l) J W
 refine Lc (fun((wr,S,tb,kb):Ad×Y×Y×Y)=>(Bf w2 wr/\w2.heap.size<=S/\w2.heap.size<=tb/\w2.heap.size<=kb/\Bk wr S 260 [.slice (X ⟨tb,0,Aa⟩) many many,.slice (X ⟨kb,0,Aa⟩) G G]/\Bk wr tb 51 (BG many (.slice Aa 0 0))/\Bk wr kb 3 (BG G (U 0)),[(1,U n),(2,.pointer (X ⟨lb,0,Aa⟩)),(4,.pointer (X ⟨ob,0,Aa⟩)),(5,U ((0:Y):H)),(6,U many),(8,.pointer (X ⟨S,0,Aa⟩))],wr)) ?_ ?_
 .skip
  refine(Yr 9 (fun w'=>Bf w2 w'/\Bk w' lb 51 [.slice A (Aim l) c]) ⟨Bf.drew w2,ct.drew⟩) fun a=>(Gv [0,2,3]) ?_;refine Wn 1 4 7 Be ?_ ?_ ?_
  .refine DK 1 Z Z Z underlying258 GP Z Z Z J J ?_;rintro tb w1 L h1 D;have Q:=BF a.1.size L;refine⟨⟨a.1.trans D,a.2.ext D⟩,fun a=>?_⟩;refine Ye 4 7 ?_ ?_
   .refine(Jc 4 (cg w1)) ?_;rintro _ _⟨rfl,rfl⟩;refine⟨a,fun a=>?_⟩;refine Ye 5 7 ?_ ?_
    .refine DK 5 Z Z Z underlying51 BU Z Z Z J J ?_;rintro kb w5 B E o;have P:=BF a.1.size B;refine⟨⟨a.1.trans o,a.2.ext o⟩,fun a=>?_⟩;have h1:=h1.ext o;refine(Gv [6]∘Yn 7) ?_;rintro S w7 N K I;have ab:=BF a.1.size N;refine⟨⟨a.1.trans I,a.2.ext I⟩,fun a=>?_⟩;have h1:=h1.ext I;have E:=E.ext I;refine(Ys 8 K) ?_;rintro w8 T d;have h1:=h1.mo d (by first|simpa using h1.ne K Bc|(simp;omega));have E:=E.mo d (by first|simpa using E.ne K Bc|(simp;omega));refine⟨⟨Bv a.1 d a.1.size Bx,a.2.mo d Bx⟩,fun a=>?_⟩;refine(Yd∘Lm (w8,S,tb,kb)) ?_;exact⟨a.1,ab,Q,P,T,h1,E⟩
    .refine(Jn 7) ?_;rintro S w7 N K I;have ab:=BF a.1.size N;refine⟨⟨a.1.trans I,a.2.ext I⟩,fun a=>?_⟩;have h1:=h1.ext I;refine GW.one 5 Be<|DK 5 Z Z Z underlying51 BU Z Z Z J J ?_;rintro kb w5 B E o;have P:=BF a.1.size B;refine⟨⟨a.1.trans o,a.2.ext o⟩,fun a=>?_⟩;have h1:=h1.ext o;have K:=K.ext o;refine(Gv [6]∘Ys 8 K) ?_;rintro w8 T d;have h1:=h1.mo d (by first|simpa using h1.ne K Bc|(simp;omega));have E:=E.mo d (by first|simpa using E.ne K Bc|(simp;omega));refine⟨⟨Bv a.1 d a.1.size Bx,a.2.mo d Bx⟩,fun a=>?_⟩;refine(Yd∘Lm (w8,S,tb,kb)) ?_;exact⟨a.1,ab,Q,P,T,h1,E⟩
   .refine(Jn 7) ?_;rintro S w7 N K I;have ab:=BF a.1.size N;refine⟨⟨a.1.trans I,a.2.ext I⟩,fun a=>?_⟩;have h1:=h1.ext I;refine(Yc 4 (cg w7)) ?_;rintro _ _⟨rfl,rfl⟩;refine⟨a,fun a=>?_⟩;refine GW.one 5 Be<|DK 5 Z Z Z underlying51 BU Z Z Z J J ?_;rintro kb w5 B E o;have P:=BF a.1.size B;refine⟨⟨a.1.trans o,a.2.ext o⟩,fun a=>?_⟩;have h1:=h1.ext o;have K:=K.ext o;refine(Gv [6]∘Ys 8 K) ?_;rintro w8 T d;have h1:=h1.mo d (by first|simpa using h1.ne K Bc|(simp;omega));have E:=E.mo d (by first|simpa using E.ne K Bc|(simp;omega));refine⟨⟨Bv a.1 d a.1.size Bx,a.2.mo d Bx⟩,fun a=>?_⟩;refine(Yd∘Lm (w8,S,tb,kb)) ?_;exact⟨a.1,ab,Q,P,T,h1,E⟩
  .refine(Jc 4 (cg w2.drew)) ?_;rintro _ _⟨rfl,rfl⟩;refine⟨a,fun a=>?_⟩;refine Wn 1 5 7 Be ?_ ?_ ?_
   .refine DK 1 Z Z Z underlying258 GP Z Z Z J J ?_;rintro tb w1 L h1 D;have Q:=BF a.1.size L;refine⟨⟨a.1.trans D,a.2.ext D⟩,fun a=>?_⟩;refine Ye 5 7 ?_ ?_
    .refine DK 5 Z Z Z underlying51 BU Z Z Z J J ?_;rintro kb w5 B E o;have P:=BF a.1.size B;refine⟨⟨a.1.trans o,a.2.ext o⟩,fun a=>?_⟩;have h1:=h1.ext o;refine(Gv [6]∘Yn 7) ?_;rintro S w7 N K I;have ab:=BF a.1.size N;refine⟨⟨a.1.trans I,a.2.ext I⟩,fun a=>?_⟩;have h1:=h1.ext I;have E:=E.ext I;refine(Ys 8 K) ?_;rintro w8 T d;have h1:=h1.mo d (by first|simpa using h1.ne K Bc|(simp;omega));have E:=E.mo d (by first|simpa using E.ne K Bc|(simp;omega));refine⟨⟨Bv a.1 d a.1.size Bx,a.2.mo d Bx⟩,fun a=>?_⟩;refine(Yd∘Lm (w8,S,tb,kb)) ?_;exact⟨a.1,ab,Q,P,T,h1,E⟩
    .refine(Jn 7) ?_;rintro S w7 N K I;have ab:=BF a.1.size N;refine⟨⟨a.1.trans I,a.2.ext I⟩,fun a=>?_⟩;have h1:=h1.ext I;refine GW.one 5 Be<|DK 5 Z Z Z underlying51 BU Z Z Z J J ?_;rintro kb w5 B E o;have P:=BF a.1.size B;refine⟨⟨a.1.trans o,a.2.ext o⟩,fun a=>?_⟩;have h1:=h1.ext o;have K:=K.ext o;refine(Gv [6]∘Ys 8 K) ?_;rintro w8 T d;have h1:=h1.mo d (by first|simpa using h1.ne K Bc|(simp;omega));have E:=E.mo d (by first|simpa using E.ne K Bc|(simp;omega));refine⟨⟨Bv a.1 d a.1.size Bx,a.2.mo d Bx⟩,fun a=>?_⟩;refine(Yd∘Lm (w8,S,tb,kb)) ?_;exact⟨a.1,ab,Q,P,T,h1,E⟩
   .refine DK 5 Z Z Z underlying51 BU Z Z Z J J ?_;rintro kb w5 B E o;have P:=BF a.1.size B;refine⟨⟨a.1.trans o,a.2.ext o⟩,fun a=>?_⟩;refine Ye 1 7 ?_ ?_
    .refine DK 1 Z Z Z underlying258 GP Z Z Z J J ?_;rintro tb w1 L h1 D;have Q:=BF a.1.size L;refine⟨⟨a.1.trans D,a.2.ext D⟩,fun a=>?_⟩;have E:=E.ext D;refine(Gv [6]∘Yn 7) ?_;rintro S w7 N K I;have ab:=BF a.1.size N;refine⟨⟨a.1.trans I,a.2.ext I⟩,fun a=>?_⟩;have E:=E.ext I;have h1:=h1.ext I;refine(Ys 8 K) ?_;rintro w8 T d;have E:=E.mo d (by first|simpa using E.ne K Bc|(simp;omega));have h1:=h1.mo d (by first|simpa using h1.ne K Bc|(simp;omega));refine⟨⟨Bv a.1 d a.1.size Bx,a.2.mo d Bx⟩,fun a=>?_⟩;refine(Yd∘Lm (w8,S,tb,kb)) ?_;exact⟨a.1,ab,Q,P,T,h1,E⟩
    .refine(Jn 7) ?_;rintro S w7 N K I;have ab:=BF a.1.size N;refine⟨⟨a.1.trans I,a.2.ext I⟩,fun a=>?_⟩;have E:=E.ext I;refine GW.one 1 Be<|DK 1 Z Z Z underlying258 GP Z Z Z J J ?_;rintro tb w1 L h1 D;have Q:=BF a.1.size L;refine⟨⟨a.1.trans D,a.2.ext D⟩,fun a=>?_⟩;have E:=E.ext D;have K:=K.ext D;refine(Gv [6]∘Ys 8 K) ?_;rintro w8 T d;have E:=E.mo d (by first|simpa using E.ne K Bc|(simp;omega));have h1:=h1.mo d (by first|simpa using h1.ne K Bc|(simp;omega));refine⟨⟨Bv a.1 d a.1.size Bx,a.2.mo d Bx⟩,fun a=>?_⟩;refine(Yd∘Lm (w8,S,tb,kb)) ?_;exact⟨a.1,ab,Q,P,T,h1,E⟩
   .refine(Jn 7) ?_;rintro S w7 N K I;have ab:=BF a.1.size N;refine⟨⟨a.1.trans I,a.2.ext I⟩,fun a=>?_⟩;refine Ye 1 5 ?_ ?_
    .refine DK 1 Z Z Z underlying258 GP Z Z Z J J ?_;rintro tb w1 L h1 D;have Q:=BF a.1.size L;refine⟨⟨a.1.trans D,a.2.ext D⟩,fun a=>?_⟩;have K:=K.ext D;refine GW.one 5 Be<|DK 5 Z Z Z underlying51 BU Z Z Z J J ?_;rintro kb w5 B E o;have P:=BF a.1.size B;refine⟨⟨a.1.trans o,a.2.ext o⟩,fun a=>?_⟩;have K:=K.ext o;have h1:=h1.ext o;refine(Gv [6]∘Ys 8 K) ?_;rintro w8 T d;have h1:=h1.mo d (by first|simpa using h1.ne K Bc|(simp;omega));have E:=E.mo d (by first|simpa using E.ne K Bc|(simp;omega));refine⟨⟨Bv a.1 d a.1.size Bx,a.2.mo d Bx⟩,fun a=>?_⟩;refine(Yd∘Lm (w8,S,tb,kb)) ?_;exact⟨a.1,ab,Q,P,T,h1,E⟩
    .refine DK 5 Z Z Z underlying51 BU Z Z Z J J ?_;rintro kb w5 B E o;have P:=BF a.1.size B;refine⟨⟨a.1.trans o,a.2.ext o⟩,fun a=>?_⟩;have K:=K.ext o;refine GW.one 1 Be<|DK 1 Z Z Z underlying258 GP Z Z Z J J ?_;rintro tb w1 L h1 D;have Q:=BF a.1.size L;refine⟨⟨a.1.trans D,a.2.ext D⟩,fun a=>?_⟩;have K:=K.ext D;have E:=E.ext D;refine(Gv [6]∘Ys 8 K) ?_;rintro w8 T d;have E:=E.mo d (by first|simpa using E.ne K Bc|(simp;omega));have h1:=h1.mo d (by first|simpa using h1.ne K Bc|(simp;omega));refine⟨⟨Bv a.1 d a.1.size Bx,a.2.mo d Bx⟩,fun a=>?_⟩;refine(Yd∘Lm (w8,S,tb,kb)) ?_;exact⟨a.1,ab,Q,P,T,h1,E⟩
  .refine(Jn 7) ?_;rintro S w7 N K I;have ab:=BF a.1.size N;refine⟨⟨a.1.trans I,a.2.ext I⟩,fun a=>?_⟩;refine Ye 1 4 ?_ ?_
   .refine DK 1 Z Z Z underlying258 GP Z Z Z J J ?_;rintro tb w1 L h1 D;have Q:=BF a.1.size L;refine⟨⟨a.1.trans D,a.2.ext D⟩,fun a=>?_⟩;have K:=K.ext D;refine(Yc 4 (cg w1)) ?_;rintro _ _⟨rfl,rfl⟩;refine⟨a,fun a=>?_⟩;refine GW.one 5 Be<|DK 5 Z Z Z underlying51 BU Z Z Z J J ?_;rintro kb w5 B E o;have P:=BF a.1.size B;refine⟨⟨a.1.trans o,a.2.ext o⟩,fun a=>?_⟩;have K:=K.ext o;have h1:=h1.ext o;refine(Gv [6]∘Ys 8 K) ?_;rintro w8 T d;have h1:=h1.mo d (by first|simpa using h1.ne K Bc|(simp;omega));have E:=E.mo d (by first|simpa using E.ne K Bc|(simp;omega));refine⟨⟨Bv a.1 d a.1.size Bx,a.2.mo d Bx⟩,fun a=>?_⟩;refine(Yd∘Lm (w8,S,tb,kb)) ?_;exact⟨a.1,ab,Q,P,T,h1,E⟩
   .refine(Jc 4 (cg w7)) ?_;rintro _ _⟨rfl,rfl⟩;refine⟨a,fun a=>?_⟩;refine Ye 1 5 ?_ ?_
    .refine DK 1 Z Z Z underlying258 GP Z Z Z J J ?_;rintro tb w1 L h1 D;have Q:=BF a.1.size L;refine⟨⟨a.1.trans D,a.2.ext D⟩,fun a=>?_⟩;have K:=K.ext D;refine GW.one 5 Be<|DK 5 Z Z Z underlying51 BU Z Z Z J J ?_;rintro kb w5 B E o;have P:=BF a.1.size B;refine⟨⟨a.1.trans o,a.2.ext o⟩,fun a=>?_⟩;have K:=K.ext o;have h1:=h1.ext o;refine(Gv [6]∘Ys 8 K) ?_;rintro w8 T d;have h1:=h1.mo d (by first|simpa using h1.ne K Bc|(simp;omega));have E:=E.mo d (by first|simpa using E.ne K Bc|(simp;omega));refine⟨⟨Bv a.1 d a.1.size Bx,a.2.mo d Bx⟩,fun a=>?_⟩;refine(Yd∘Lm (w8,S,tb,kb)) ?_;exact⟨a.1,ab,Q,P,T,h1,E⟩
    .refine DK 5 Z Z Z underlying51 BU Z Z Z J J ?_;rintro kb w5 B E o;have P:=BF a.1.size B;refine⟨⟨a.1.trans o,a.2.ext o⟩,fun a=>?_⟩;have K:=K.ext o;refine GW.one 1 Be<|DK 1 Z Z Z underlying258 GP Z Z Z J J ?_;rintro tb w1 L h1 D;have Q:=BF a.1.size L;refine⟨⟨a.1.trans D,a.2.ext D⟩,fun a=>?_⟩;have K:=K.ext D;have E:=E.ext D;refine(Gv [6]∘Ys 8 K) ?_;rintro w8 T d;have E:=E.mo d (by first|simpa using E.ne K Bc|(simp;omega));have h1:=h1.mo d (by first|simpa using h1.ne K Bc|(simp;omega));refine⟨⟨Bv a.1 d a.1.size Bx,a.2.mo d Bx⟩,fun a=>?_⟩;refine(Yd∘Lm (w8,S,tb,kb)) ?_;exact⟨a.1,ab,Q,P,T,h1,E⟩
 .rintro⟨wr,S,tb,kb⟩⟨da,ab,Q,P,co,b2,cx⟩;refine(O 8) ?_;have f3:=da.size;have b4:S≠tb:=co.ne b2 Bc;have fs:=co.lt;have b7:=b2.lt;have fv:=cx.lt;refine Lc (fun((w4,vs):Ad×(Bm))=>(Bf w2 w4/\Bk w4 S 260 [.slice (X ⟨tb,0,Aa⟩) many many,.slice (X ⟨kb,0,Aa⟩) G G]/\Bk w4 tb 51 vs/\Bk w4 kb 3 (BG G (U 0))/\FP w4 wr.heap.size vs many n (fun i l=>Up 20 l/\l=NP n many i n)/\wr.heap.size<=w4.heap.size,[(1,U n),(2,.pointer (X ⟨lb,0,Aa⟩)),(4,.pointer (X ⟨ob,0,Aa⟩)),(5,U ((0:Y):H)),(6,U many),(8,.pointer (X ⟨S,0,Aa⟩))],w4)) ?_ ?_
  .refine(O 1)<|Lo (fun((t,us,wq):Y×(Bm)×Ad)=>(t<=many/\Bk wq tb 51 (us++BG (many-t) (.slice Aa 0 0))/\FP wq wr.heap.size us t n (fun i l=>Up 20 l/\l=NP n many i n)/\Bk wq S 260 [.slice (X ⟨tb,0,Aa⟩) many many,.slice (X ⟨kb,0,Aa⟩) G G]/\Bk wq kb 3 (BG G (U 0))/\wr.heap.size<=wq.heap.size/\Bf w2 wq,[(1,U n),(2,.pointer (X ⟨lb,0,Aa⟩)),(4,.pointer (X ⟨ob,0,Aa⟩)),(5,U ((0:Y):H)),(6,U many),(8,.pointer (X ⟨S,0,Aa⟩)),(40,U many),(41,U t)],wq,many-t)) (0,([]),wr) ?_ ?_
   .exact⟨BD _,b2,FP.nil,co,cx,Bq _,da⟩
   .rintro⟨t,us,wq⟩⟨bb,a2,bc,a0,a3,bm,ao⟩;refine(O 5)<|Zi (fun hc=>?_) fun hc=>?_
    .have b0:=bc.1;have en:t<Aim (us++BG (many-t) (Value.slice Aa 0 0)):=by rw[BA,Cm];omega
     refine(O 9∘Yr 7 (fun w'=>Bk w' S 260 [.slice (X ⟨tb,0,Aa⟩) many many,.slice (X ⟨kb,0,Aa⟩) G G]) a0.drew) fun a=>(Gv [0,1,2,3]) ?_;refine GW.one 4 Be<|DK 4 Z Z Z underlying51 BU Z Z Z J J ?_;rintro g w5 B e9 o;refine⟨a.ext o,fun a=>?_⟩;refine(Gv [5]∘Yt 6 (a2.drew.ext o) (hlt:=en)) ?_;rintro w6 dk cq;refine⟨a.mo cq (by simpa using b4),fun a=>?_⟩;refine(Yd∘O 6) ?_;rw[Xk hc b0]at dk;have xd:Bf wq w5:=(Bf.drew wq).trans o
     have c2:Bk w6 g 3 (BC .i64 (BG n 0)):=by
      rw[KB];exact e9.mo cq (by simp_all;omega)
     have m6:Mo wq w6 [tb]:=(Mo.Age xd _).trans cq;have B:wq.heap.size<=g:=B;have ea:tb≠g:=by have:=a2.lt;omega
     have gg:S≠g:=by have:=a0.lt;omega
     have b8:((us++[Value.slice (X ⟨g,0,Aa⟩) n n])++BG (many-(t+1)) (Value.slice Aa 0 0))[t]? =X (.slice (X ⟨g,0,Aa⟩) n n):=by
      rw[Cq,Hl J,b0,EP];rfl
     refine Lo (fun((s,xs,wi):Y×(Bi)×Ad)=>(s<=n/\(Aim xs=n/\xs=NP n many t s)/\Up 20 xs/\Bk wi g 3 (BC .i64 xs)/\Bk wi tb 51 ((us++[Value.slice (X ⟨g,0,Aa⟩) n n])++BG (many-(t+1)) (Value.slice Aa 0 0))/\Mo wq wi [tb],[(1,U n),(2,.pointer (X ⟨lb,0,Aa⟩)),(4,.pointer (X ⟨ob,0,Aa⟩)),(5,U ((0:Y):H)),(6,U many),(8,.pointer (X ⟨S,0,Aa⟩)),(9,U t),(40,U many),(41,U t),(50,U n),(51,U s)],wi,n-s)) (0,(BG n 0),w6) ?_ ?_
     .exact⟨BD _,⟨Cm,Z⟩,fun x hx=>by grind,c2,dk,m6⟩
     .rintro⟨s,xs,wi⟩⟨f9,⟨ce,c9⟩,df,ec,ba,a5⟩;have bf:=a0.mo a5 (by simpa using b4);refine(O 5)<|Zi (fun bi=>?_) fun bi=>?_
      .have gb:s*many<=258*6:=OE J ca;refine(O 14∘Zv (Bo ba (hi:=b8))∘O 2∘Zt ec (hlt:=by rw[DF];omega)) ?_;rintro w7 a6 aj;refine(O 11) ?_;replace a6:Bk w7 g 3 (BC .i64 (xs.set s 15)):=by rw[<-Ir];exact a6
       have cj:=ba.mo aj (by simpa using ea);have c7:=a5.Agn aj B;have c6:=df.set (i:=s) (show 15<=20 by decide);refine Zi (fun fc=>?_) fun fc=>?_
       .refine(O 2∘Zv (Bo (bf.mo aj Bh))∘O 2∘Zv (Bo cj (hi:=b8))∘O 2∘Zt a6 (hlt:=by rw[DF,HG];omega)) ?_;rintro w8 c1 d;refine(O 6) ?_;replace c1:Bk w8 g 3 (BC .i64 ((xs.set s 15).set s 1)):=by rw[<-Ir];exact c1
        refine Lb ((s+1),((xs.set s 15).set s 1),w8) ?_;exact⟨bi,⟨Bh,by rw[List.set_set,c9];exact mx bi Bh⟩,c6.set Bc,c1,cj.mo d (by simpa using ea),c7.Agn d B⟩
       .refine(O 6)<|Lb ((s+1),(xs.set s 15),w7) ?_;exact⟨bi,⟨Bh,by rw[c9];exact mx bi Bh⟩,c6,a6,cj,c7⟩
      .refine(O 6)<|Lb ((t+1),(us++[.slice (X ⟨g,0,Aa⟩) n n]),wi) ?_
       have e0:CV wi wr.heap.size (.slice (X ⟨g,0,Aa⟩) n n) xs:=by
        have:=Bp.Agf (s:=1) (cap:=n) ec (BF bm B) (by rw[DF,ce,Ic]) CE;unfold CV;rw[ce];exact this
       exact⟨hc,ba,(bc.mo a5 b7).snoc e0 ce ⟨df,Bh⟩,bf,a3.mo a5 (by simpa using(b2.ne cx Bc).symm),BF bm a5.size,Bv ao a5 ao.size Bx⟩
    .obtain rfl:t=many:=J;rw[EP,TT,List.append_nil]at a2;refine(O 1∘Lm (wq,us)) ?_;grind
  .rintro⟨w4,vs⟩⟨ei,ey,eo,gf,ew,eg⟩;refine(O 2∘Zv (by exact Gc Z Z)∘O 8)<|Lo (fun((r,vs,ks,wq):Y×(Bm)×(Bi)×Ad)=>(r<=4/\Bk wq tb 51 vs/\FP wq wr.heap.size vs many n (fun i x=>(Up 20 x/\x=(Ef l n many G r).getD i [])/\(0<r->LOk x))/\Bk wq S 260 [.slice (X ⟨tb,0,Aa⟩) many many,.slice (X ⟨kb,0,Aa⟩) G G]/\Bk wq kb 3 (BC .i64 ks)/\(Aim ks=G/\∀q,r=q+1->ks=QX l n many G q)/\(∀k∈ks,k<many)/\wr.heap.size<=wq.heap.size/\Bf w2 wq,[(1,U n),(2,.pointer (X ⟨lb,0,Aa⟩)),(4,.pointer (X ⟨ob,0,Aa⟩)),(5,U ((0:Y):H)),(6,U many),(8,.pointer (X ⟨S,0,Aa⟩)),(11,.func (.func 268) #[] #[.pointer (X ⟨lb,0,Aa⟩),.pointer (X ⟨S,0,Aa⟩)]),(78,U r)],wq,4-r)) (0,vs,(BG G 0),w4) ?_ ?_
   .exact⟨BD _,eo,ew.imp fun i x hi h=>⟨⟨h.1,h.2.trans (Adf hi).symm⟩,fun q=>by omega⟩,ey,by rw[KB];omega,⟨Cm,fun q hq=>by omega⟩,fun k hk=>by grind,eg,ei⟩
   .rintro⟨r,vs,ks,wq⟩⟨hr,a2,bc,a0,a3,⟨bh,e5⟩,cv,bm,ao⟩;have fr:=(hs.ext x2).ext ao;have d9:=bh;generalize fu:ks=ks0 at d9;refine(O 5)<|Zi (fun hc=>?_) fun hc=>?_
    .refine(O 6∘Gf) ?_;rintro wb w5 B em o;refine(O 10)<|Lo (fun((t,us,wx):Y×(Bm)×Ad)=>(t<=many/\Bk wx wb 51 (us++BG (many-t) (.slice Aa 0 0))/\Lj wx wq.heap.size us t n (fun _ x=>x=BG n 0)/\Bf wq wx,[(1,U n),(2,.pointer (X ⟨lb,0,Aa⟩)),(4,.pointer (X ⟨ob,0,Aa⟩)),(5,U ((0:Y):H)),(6,U many),(8,.pointer (X ⟨S,0,Aa⟩)),(11,.func (.func 268) #[] #[.pointer (X ⟨lb,0,Aa⟩),.pointer (X ⟨S,0,Aa⟩)]),(12,.slice (X ⟨wb,0,Aa⟩) many many),(78,U r),(83,U many),(84,U t)],wx,many-t)) (0,([]),w5) ?_ ?_
     .exact⟨BD _,em,⟨Z,fun i hi=>by omega,fun i j g hi=>by omega⟩,o⟩
     .rintro⟨t,us,wx⟩⟨bb,bq,b3,a4⟩;refine(O 5)<|Zi (fun al=>?_) fun al=>?_
      .have b0:=b3.1;refine(O 12∘Gf) ?_;rintro g w6 f0 c2 a9;refine(O 1) ?_;have b6:=bq.ext a9;have f6:=bq.lt;refine(Zt b6 (hlt:=by rw[BA,Cm];omega)) ?_;rintro w7 bx aj;refine(O 6) ?_;rw[Xk al b0]at bx
       have a6:Bk w7 g 3 (BC .i64 (BG n 0)):=by
        rw[KB];exact c2.mo aj Bx
       have f2:=a4.size;refine Lb ((t+1),(us++[.slice (X ⟨g,0,Aa⟩) n n]),w7) ?_;refine⟨al,bx,?_,Bv (a4.trans a9) aj (a4.trans a9).size Bx⟩;exact(b3.keep (w2:=w7) (fun g' l' q1 q2=>(q2.ext a9).mo aj (by simpa using(q2.ext a9).ne b6 Bc)) fun _ _ h=>h).snoc (fun i hi e=>by have:=b3.lt hi e;omega) J a6 Cm Z
      .obtain rfl:many=t:=J;rw[EP,TT,List.append_nil]at bq;refine(O 5∘Zv (Bo (a0.ext a4))∘O 4)<|Lo (fun((k,ks,wi):Y×(Bi)×Ad)=>(k<=G/\(Aim ks=G/\ks=Pv (Ef l n many G r) l many ks0 k)/\(∀x∈ks,x<many)/\Bk wi kb 3 (BC .i64 ks)/\Bk wi wb 51 us/\Lj wi wq.heap.size us many n (fun i x=>Up (50*k) x/\x=wK (Ef l n many G r) l n many k i)/\Mo wq wi [kb],[(1,U n),(2,.pointer (X ⟨lb,0,Aa⟩)),(4,.pointer (X ⟨ob,0,Aa⟩)),(5,U ((0:Y):H)),(6,U many),(8,.pointer (X ⟨S,0,Aa⟩)),(11,.func (.func 268) #[] #[.pointer (X ⟨lb,0,Aa⟩),.pointer (X ⟨S,0,Aa⟩)]),(12,.slice (X ⟨wb,0,Aa⟩) many many),(78,U r),(95,U G),(96,U k)],wi,G-k)) (0,ks,wx) ?_ ?_
       .exact⟨BD _,⟨bh,Cr⟩,cv,a3.ext a4,bq,b3.keep (fun _ _ _ q=>q) fun i x q=>⟨fun y hy=>by grind,q⟩,Mo.Age a4 _⟩
       .rintro⟨k,ks,wi⟩⟨ge,⟨bh,d6⟩,cv,cw,db,dv,mi⟩;have bf:=a0.mo mi (by simpa using a0.ne a3 Bc);have bb:=a2.mo mi (by simpa using a2.ne a3 Bc);have cn:=bc.moS mi Bh;have xi:Bf w2 wi:=Bv ao mi ao.size Bx;have e3:=ct.ext xi;have ep:=(hs.ext x2).ext xi;refine(O 5)<|Zi (fun a7=>?_) fun a7=>?_
        .have cc:=fun t (ht:t<many)=>sy l n many t k ht (by rw[hG];exact a7) h2 cr A c C lb S tb wr.heap.size _ vs cb wi ep e3 bf bb (Ef l n many G r) (cn.imp fun _ _ _ q=>q.1);refine(O 18)<|Lo (fun((t,V):Y×Y)=>(1<=t/\t<=many/\(V<many/\V=JD (Ef l n many G r) (Ew l k) t),[(1,U n),(2,.pointer (X ⟨lb,0,Aa⟩)),(4,.pointer (X ⟨ob,0,Aa⟩)),(5,U ((0:Y):H)),(6,U many),(8,.pointer (X ⟨S,0,Aa⟩)),(11,.func (.func 268) #[] #[.pointer (X ⟨lb,0,Aa⟩),.pointer (X ⟨S,0,Aa⟩)]),(12,.slice (X ⟨wb,0,Aa⟩) many many),(14,U k),(15,U V),(16,U t),(78,U r),(95,U G),(96,U k)],wi,many-t)) (1,0) ?_ ?_
         .exact⟨Bq _,J,J,(dM _ _).symm⟩
         .rintro⟨t,V⟩⟨f8,f7,b5,c4⟩;refine(O 7)<|Zi (fun al=>?_) fun al=>?_
          .refine(O 8) ?_;have c3:=dN (Ef l n many G r) (Ew l k) t;rw[<-c4]at c3;have ef:=cc t al;have ee:=cc V b5
           have ed:∀t,t<many->Ik ((Ef l n many G r).getD t []) (Ew l k)<=1000:=fun t ht=>by
            obtain⟨_,af,_,_,_,⟨hu,es⟩,_⟩:=cn.2 t ht;rw[<-es];exact sw hu (cz k a7).1
           have hx:=ed t al;have hy:=ed V b5;generalize Ik ((Ef l n many G r).getD t []) (Ew l k)=x at c3 ef hx;generalize Ik ((Ef l n many G r).getD V []) (Ew l k)=y at c3 ee hy;refine(Ea ef) ?_;rintro _ _⟨rfl,rfl⟩;refine(O 3∘Ea ee) ?_;rintro _ _⟨rfl,rfl⟩;refine(O 2)<|Zi (fun a1=>?_) fun a1=>?_
           .refine(O 10)<|Lb ((t+1),t) ?_;grind
           .refine(O 7)<|Lb ((t+1),V) ?_;grind
          .obtain rfl:many=t:=J;refine(O 8∘Zt cw (hlt:=by rw[DF];omega)) ?_;rintro w7 d8 aj;refine(O 3) ?_;rw[Ir]at d8;have m7:=mi.trans aj;have x7:Bf w2 w7:=Bv ao m7 ao.size Bx;have bx:=db.mo aj Bh;have et:=dv.keep (w2:=w7) (fun g' l' q1 q2=>q2.mo aj Bx) fun _ _ h=>h;have er:=(hs.ext x2).ext x7;refine(Zv (Bo (ct.ext x7))∘O 1∘Zc (jf l k (by rw[hG];exact a7) J A c C cb w7 er)) ?_;rintro _ _⟨⟨A',c',rfl,dn⟩,rfl⟩;refine(O 4) ?_;have e8:=(cz k a7).1;have eb:∀x∈Ew l k,x<n:=fun x hx=>cr x (TR (HH hx));have e6:=a7
           have d5:ks.set k V=Pv (Ef l n many G r) l many ks0 (k+1):=by
            rw[d6,c4];exact yU J
           have el:∀i,wK (Ef l n many G r) l n many (k+1) i=if i=V then JV (wK (Ef l n many G r) l n many k i) (Ew l k)else wK (Ef l n many G r) l n many k i:=fun i=>by rw[wK,<-c4]
           generalize Ew l k=gl at e8 eb dn el;have fl:C<=wq.heap.size:=by have:=x2.size;have:=ao.size;omega
           refine Lo (fun((j,wj):Y×Ad)=>(j<=Aim gl/\Lj wj wq.heap.size us many n (fun i x=>Up (50*k+j) x/\x=if i=V then JV (wK (Ef l n many G r) l n many k i) (gl.take j)else wK (Ef l n many G r) l n many k i)/\Bk wj wb 51 us/\Below wq.heap.size w7 wj,[(1,U n),(2,.pointer (X ⟨lb,0,Aa⟩)),(4,.pointer (X ⟨ob,0,Aa⟩)),(5,U ((0:Y):H)),(6,U many),(8,.pointer (X ⟨S,0,Aa⟩)),(11,.func (.func 268) #[] #[.pointer (X ⟨lb,0,Aa⟩),.pointer (X ⟨S,0,Aa⟩)]),(12,.slice (X ⟨wb,0,Aa⟩) many many),(15,U V),(78,U r),(95,U G),(96,U k),(121,.slice A' (Aim gl) c'),(122,U ((Aim gl:Y):H)),(123,U j)],wj,Aim gl-j)) (0,w7) ?_ ?_
           .exact⟨BD _,et.keep (fun _ _ _ q=>q) fun i x q=>⟨q.1,by rw[q.2];split<;>rfl⟩,bx,Below.refl _ _⟩
           .rintro⟨j,wj⟩⟨hj,cl,bs,bj⟩;refine(O 5)<|Zi (fun bl=>?_) fun bl=>?_
            .obtain⟨b,f,rfl,_,fd⟩:=(dn.below (bj.mono fl)).intAt J;have cd:=fd wj (Bf.refl _) j bl;have eh:=eb _ (BM bl);have ch:=oK (row:=wK (Ef l n many G r) l n many k V) bl;generalize gl[j]=y at cd eh ch;obtain⟨g,af,q1,q2,q3,q4,q5,q6⟩:=cl.2.1 V b5;rw[Ai Z]at q6;rw[<-q6,CF J]at ch;have hz:=q5 _ (BM (show y<Aim af by omega));have ds:(BC .i64 af)[y]? =X (U ((af[y]:Y):H)):=by rw[Fw J,CF J]
             generalize af[y]=z at hz ds ch;refine(O 6∘Zv (BZ cd)∘O 6∘Zv (Bo bs (hi:=q1))∘O 2∘Zv (Bo q3 (hi:=ds))∘O 2∘Zt q3 (hlt:=by rw[DF];omega)) ?_;rintro w9 c0 ai;refine(O 6) ?_;replace c0:Bk w9 g 3 (BC .i64 (af.set y (z+1))):=by rw[<-Ir];exact c0
             refine Lb ((j+1),w9) ?_;exact⟨bl,cl.put b5 q1 ai c0 Bh ⟨Up.set (fun x hx=>BF (q5 x hx) J) J,Bh⟩ fun i l' hi h=>⟨fun x hx=>BF (h.1 x hx) J,Bh⟩,bs.mo ai (by simpa using bs.ne q3 Bc),Bv bj ai (BF mi.size (BF aj.size bj.size)) (by simp;omega)⟩
            .obtain rfl:j=Aim gl:=J;have P:kb<wq.heap.size:=a3.lt;refine(O 6)<|Lb ((k+1),(ks.set k V),wj) ?_
             exact⟨e6,⟨Bh,d5⟩,fun x hx=>by
              grind,d8.low bj P,bs,cl.keep (fun _ _ _ q=>q) fun i l' h=>⟨fun x hx=>BF (h.1 x hx) J,Bh⟩,m7.low bj⟩
        .obtain rfl:G=k:=J;have fn:wq.heap.size<=wb:=B;refine(O 8)<|Lo (fun((t,a8,wz):Y×(Bm)×Ad)=>(t<=many/\Bk wz tb 51 a8/\FP wz wr.heap.size a8 many n (fun i x=>Up 20 x/\(i<t->LOk x/\x=KF (wK (Ef l n many G r) l n many G i)))/\Mo wi wz [tb],[(1,U n),(2,.pointer (X ⟨lb,0,Aa⟩)),(4,.pointer (X ⟨ob,0,Aa⟩)),(5,U ((0:Y):H)),(6,U many),(8,.pointer (X ⟨S,0,Aa⟩)),(11,.func (.func 268) #[] #[.pointer (X ⟨lb,0,Aa⟩),.pointer (X ⟨S,0,Aa⟩)]),(12,.slice (X ⟨wb,0,Aa⟩) many many),(78,U r),(139,U many),(140,U t)],wz,many-t)) (0,vs,wi) ?_ ?_
         .exact⟨BD _,bb,cn.imp fun i x _ q=>⟨q.1.1,fun z=>by omega⟩,Mo.refl _ _⟩
         .rintro⟨t,a8,wz⟩⟨ht,dg,ck,mz⟩;have d0:=bf.mo mz (by simpa using b4);have c8:wr.heap.size<=wz.heap.size:=BF bm (BF mi.size mz.size);have Q:wb≠tb:=J;have ek:=db.mo mz (by simpa using Q);refine(O 5)<|Zi (fun al=>?_) fun al=>?_
          .obtain⟨g,af,q1,q2,q3,q4,q5,q6⟩:=dv.2.1 t al;have e7:=q3.mo mz Bh;have gk:50*G<=1638350:=J;have cm:=fun W (hb:Bk W g 3 (BC .i64 af))=>vW af J J (fun x hx=>BF (q5 x hx) J) (X ⟨g,0,Aa⟩) n _ W hb.sl;rw[q4]at cm;have c5:=jO (w:=af) J J (fun x hx=>BF (q5 x hx) J);refine(O 8∘Yr 13 (fun w'=>Bk w' S 260 [.slice (X ⟨tb,0,Aa⟩) many many,.slice (X ⟨kb,0,Aa⟩) G G]/\Bk w' wb 51 us) (HZ d0.drew ek.drew)) fun a=>(Gv [0,1,2,3,4,5]∘Yw 6 (he:=by exact fun _ fi=>Bo fi.2 (hi:=q1))∘Yc 7 (cm _ e7.drew)) ?_;rintro _ w8⟨⟨u,rfl,cp⟩,bn⟩;refine⟨⟨a.1.ext bn,a.2.ext bn⟩,fun a=>?_⟩;refine(Gv [8,9,10,11]) ?_;obtain⟨Au,cu,rfl,_,_⟩:=cp.sl;refine(Yt 12 (dg.drew.ext bn) (hlt:=by rw[ck.1];omega)) ?_;rintro w9 b1 ai;refine⟨⟨a.1.mo ai (by simpa using b4),a.2.mo ai (by simpa using Q)⟩,fun a=>?_⟩;refine(Yd∘O 5) ?_;have xd:Bf wz w8:=(Bf.drew wz).trans bn;have d1:CV w9 wr.heap.size (.slice Au (Aim (KF af)) cu) (KF af):=Bp.more (Bp.mo cp ai fun k hk=>by have:=(cp.lt k hk).1;have:wz.heap.size<=k:=this;simp;omega) c8;refine Lb ((t+1),(a8.set t (.slice Au (Aim (KF af)) cu)),w9) ?_;exact⟨al,b1,((ck.ext xd).mo ai b7).set al d1 (c5.2.trans q4) ⟨fun x hx=>(c5.1.pos x hx).2,fun _=>⟨c5.1,Bh⟩⟩ fun j l' hj q=>⟨q.1,fun z=>q.2 J⟩,mz.trans ((Mo.Age xd _).trans ai)⟩
          .obtain rfl:many=t:=J;refine(O 6)<|Lb ((r+1),a8,ks,wz) ?_;exact⟨hc,dg,ck.imp fun i l' hi q=>⟨⟨q.1,by rw[Adk hi];grind⟩,fun _=>(q.2 hi).1⟩,d0,cw.mo mz (by simpa using cw.ne bb Bc),⟨bh,fun q hq=>by rw[d6,show q=r by omega];exact yT d9⟩,cv,c8,Bv xi mz xi.size Bx⟩
    .obtain rfl:r=4:=J;have ez:=d2.ext ao;refine(O 3∘Zv (Cf a0)∘Zs ez) ?_;rintro w9 e2 ai;refine(O 2) ?_;have xw:=x2.trans ao;obtain⟨ls,g1,g2,g3⟩:=(bc.keep (w2:=w9) fun u l' q=>Bp.mo q ai fun k hk=>by have:=(q.lt k hk).1;simp;omega).lists;have b1:=a2.mo ai Bx;have d7:=a3.mo ai Bx;have e1:Aim ls=many:=g1;refine(Du e2) ?_
     have b9:∀t∈ls,Aim t=n/\LOk t:=fun t ht=>by
      obtain⟨i,hi,rfl⟩:=Hm.1 ht;grind
     have e4:ls=Ef l n many G 4:=Ni (by rw[e1,nI]) fun i h1 h2=>by
      grind
     rw[<-e4,<-e5 3 Z];refine⟨⟨_,Z,⟨Bh,Bh,fun t ht=>(b9 t ht).1,⟨n1,n2⟩,fun t ht=>(b9 t ht).2,fun k hk=>by grind⟩,bh,fun W hW=>⟨_,many,_,G,vs,Bh,(b1.of_block (hW tb J b1.lt)).sl,(g2.keep fun u l' q=>Bp.Agr q fun k hk=>hW k (by have:=(q.lt k hk).1;omega) (q.lt k hk).2).rows,(d7.of_block (hW kb J d7.lt)).sl⟩⟩,Bv xw ai xw.size Bx⟩
end
end Go.Proofs.YtkmlafmjaeeanaaGreatDoor
