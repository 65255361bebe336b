/- TopSlots, part D: functions of blocks, streams, headers, records and the catalogue. -/
import Derived.Test.YtkmlafmjaeeanaaGreatDoorMrjC
set_option linter.all false
set_option maxHeartbeats 2000000
set_option maxRecDepth 20000
open Go Go.RowKit Go.Proofs.Tryz
open _root_ renaming rfl→Z,Nat→Y,Int→H,List→Ae,if_neg→Ag,if_pos→Ai,Array→Ap,congrArg→Ar,Option→Av,Bool→Aw,trivial→AB,UInt8→AH,String→AJ,absurd→AK,decide_eq_true→AM,decide_eq_false→AN,of_decide_eq_true→AO,dif_pos→AQ,of_decide_eq_false→AR
open _root_.And renaming intro→HZ
open _root_.Array renaming replicate→JW
open _root_.Bool renaming true→Af,false→Aj
open _root_.Go renaming World→Ad,Value→Ah,TypeId→Ay,Addr→AC,Operand→AD,Program→AE,Act→AF,Oper→AG,IntKind→AI,Code→AL,Exit→AP
open _root_.List renaming range→BE,replicate→BG,length→DW,Pairwise→GS,toArray→Lg,getD→TK,length→Aim
open _root_.Nat renaming blt→BL,beq→Jw,reducePow→Lh
open _root_.Option renaming some→Ns,some→X,none→Aa
open _root_.Prod renaming mk→Qq
open _root_.UInt8 renaming ofNat→BS
namespace Go.Proofs.YtkmlafmjaeeanaaGreatDoor
section
attribute [local irreducible] OW KW QW EX GW NV
open Bz
def Ra(p:Pl){n:Y}(a:p.Ok n)(l:Bi)(f:grpN (Aim l)<=Aim p.picks)(hl:∀x∈l,x<n):∀i,i<=Aim l->Aim (Ej p (l.take i))<=20*i
 |0,_=>Bq _
 |i+1,h=>by
  have ih:=Ra p a l f hl i J;have hid:i/50<Aim p.picks:=by unfold grpN at f;omega
  have e:=a.lt _ (BM hid);have j:=hl _ (BM (show i<Aim l by omega));rw[lR p l J,BA,CF hid];generalize p.picks[i/50]=k at e;generalize l[i]=x at j;have d:=BM e;rw[show p.tabs.getD k []=p.tabs[k]from by grind];have m:=a.len _ d;have g:=(a.ok _ d).pos;generalize p.tabs[k]=t at m g;unfold Ku;rw[nb_length,CF J];have:=(g _ (BM (show x<Aim t by omega))).2;omega
def Vj(p:Pl){n:Y}(a:p.Ok n):Aim (planBits p)<=1000000:=by
 have h:=VB (m:=Aim p.tabs) p.picks (BE (Aim p.tabs)) GV (fun x d=>CQ.2 d) a.lt;have g:=OE a.tabs.2 a.picks.2;have k:=a.low;have i:=XI p.tabs fun t f=>⟨by rw[a.len t f];omega,fun e=>by have:=a.len t f;grind,fun x d=>((a.ok t f).pos x d).2⟩;have j:=a.tabs;unfold planBits;simp only[BA,nb_length];omega
def Acd(p:Pl)(n:Y)(t:p.Ok n)(l:Bi)(L:Aim l<=1638350)(m:grpN (Aim l)<=Aim p.picks)(o:∀x∈l,x<n)(B:Y)(cs:Bm)(A:Av AC)(c:Y)(w:Ad)(h:PlanAt w B cs p)(hs:Sl w B A (BC .i64 l))(hB:B<=w.heap.size):
 Bn prog 232 [.agg cs.toArray,.slice A (Aim l) c] w fun v w'=>v=.tuple #[U ((CP p l:Y):H),U ((0:Y):H)]/\Bf w w':=by
 have k:=h;have k1:=Vj p t;have k2:=Ra p t l m o (Aim l) (Bq _);rw[DY]at k2;obtain⟨A1,c1,A2,c2,vs,rfl,s1,s2,s3⟩:=h;refine Bw func232 Z ntmps232 (by rfl) Z ?_;refine(O 2) ?_;refine DB Z Z Z ?_;rintro pb T af r d;refine(O 5) ?_;have e:Below B w T:=d.mono hB;have ai:=d.size;refine(Zv (Cf r)∘O 1∘Zc (je p n t l L m o B _ A c T (k.below e) (hs.below e) J)) ?_;rintro _ w2⟨rfl,G⟩;refine(O 3∘Zn) ?_;rintro bb w3 W P j;refine(Zs P) ?_;rintro D f K;refine(O 8) ?_;replace f:Bk D bb 226 (DT (Ej p l)):=f;have C:Bf w2 D:=Bv j K j.size Bx;have a:=G.trans C;have Q:=d.trans a;refine(Cd 17∘O 4∘Zv (Cf (r.ext a))∘Zc (jj p n t B _ D (k.below (e.trans (a.mono J))) (BF hB Q.size))) ?_;rintro _ w5⟨rfl,E⟩;refine(O 3∘Zn) ?_;rintro ab w6 V N i;refine(Zs N) ?_;rintro S q I;refine(O 5) ?_;replace q:Bk S ab 226 (DT (planBits p)):=q;have y:Bf w5 S:=Bv i I i.size Bx;have g:=E.trans y;refine(O 2∘Zv (Bo (f.ext g))∘O 4∘BH) ?_;exact⟨Z,Q.trans g⟩
def Kt(l:Bi)(n:Y):Bi:=JV (BG n 0) l
def OY(l:Bi)(n:Y):Pl:=⟨[Gk (Kt l n),Gk (Kt l n)],BG (grpN (Aim l)) 0⟩
def uK(l:Bi)(n:Y)(hn:3<=n/\n<=258)(h1:1<=Aim l)(h2:Aim l<=1638350)(al:∀x∈l,x<n)(A:Av AC)(c C:Y)(w:Ad)(hs:Sl w C A (BC .i64 l)):
 Bn prog 231 [.slice A (Aim l) c,U (n:H)] w fun v w'=>(∃cs,v=.tuple #[.agg (Lg cs),U ((0:Y):H)]/\Jk w' w.heap.size n (grpN (Aim l)) cs (OY l n))/\Bf w w':=by
 unfold OY;have bb:=UN h1;have ba:grpN (Aim l)<=32767:=by unfold grpN;omega
 refine Bw func231 Z ntmps231 Be Z ?_;refine(O 2∘Zn) ?_;rintro I w1 bl aj r;refine(O 7) ?_;have bm:=r.size;refine(Zc (kn l n hn h1 h2 al A c C w1 (hs.ext r))) ?_;rintro _ _⟨rfl,rfl⟩;refine(O 7) ?_;obtain⟨n1,n2⟩:=hn;refine(Gf) ?_;rintro h w2 bj bn ab;refine(O 9) ?_;have x2:=r.trans ab;have a7:=aj.ext ab;have bq:I≠h:=by have:=aj.lt;omega
 refine Lc (fun((a,wr):(Bi)×Ad)=>((Aim a=n/\a=Kt l n)/\Up (Aim l) a/\Bk wr h 3 (BC .i64 a)/\Bf w wr/\Bk wr I 260 [.slice Aa 0 0,.slice Aa 0 0],[(0,.slice A (Aim l) c),(4,.pointer (X ⟨I,0,Aa⟩)),(6,.slice (X ⟨h,0,Aa⟩) n n)],wr)) ?_ ?_
 .refine(O 1)<|Lo (fun((i,a,wr):Y×(Bi)×Ad)=>(i<=Aim l/\(Aim a=n/\a=JV (BG n 0) (l.take i))/\Up i a/\Bk wr h 3 (BC .i64 a)/\Mo w2 wr [h],[(0,.slice A (Aim l) c),(4,.pointer (X ⟨I,0,Aa⟩)),(6,.slice (X ⟨h,0,Aa⟩) n n),(20,.slice A (Aim l) c),(21,U ((Aim l:Y):H)),(22,U i)],wr,Aim l-i)) (0,(BG n 0),w2) ?_ ?_
  .exact⟨BD _,⟨Cm,Z⟩,fun x hx=>by grind,by rw[KB];omega,Mo.refl _ _⟩
  .rintro⟨i,a,wr⟩⟨hi,⟨D,m⟩,g,K,hm⟩;have xr:Bf w wr:=Bv x2 hm x2.size Bx;refine(O 5)<|Zi (fun hc=>?_) fun hc=>?_
   .obtain⟨b,f,rfl,_,bf⟩:=hs.intAt J;have p:=bf wr xr i hc;have a1:=al _ (BM hc);have d:=oK (row:=BG n 0) hc;rw[<-m]at d;generalize l[i]=y at p a1 d;rw[CF J]at d;have hz:=g _ (BM (show y<Aim a by omega));have ai:(BC .i64 a)[y]? =X (U ((a[y]:Y):H)):=by rw[Fw J,CF J]
    generalize a[y]=z at hz ai d;refine(O 6∘Zv (BZ p)∘O 6∘Zv (Bo K (hi:=ai))∘O 2∘Zt K (hlt:=by grind)) ?_;rintro w3 e a8;refine(O 6) ?_;replace e:Bk w3 h 3 (BC .i64 (a.set y (z+1))):=by rw[<-Ir];exact e
    refine Lb ((i+1),(a.set y (z+1)),w3) ?_;exact⟨hc,⟨Bh,d.symm⟩,Up.set (fun x hx=>TW (g x hx)) J,e,hm.trans a8⟩
   .obtain rfl:i=Aim l:=J;refine(O 1∘Lm (a,wr)) ?_;exact⟨⟨D,by rw[m,DA (Bq _)];rfl⟩,g,K,xr,a7.mo hm Bh⟩
 .rintro⟨a,wr⟩⟨⟨D,m⟩,g,K,xr,E⟩;rw[<-m];have hf:=fun W (hb:Bk W h 3 (BC .i64 a))=>uu a J J (fun x hx=>BF (g x hx) J) (X ⟨h,0,Aa⟩) n _ W hb.sl;have bc:=gK (w:=a) J J;have a0:=Yx a;rw[D]at hf a0;generalize Gk a=fl at hf bc a0;refine(O 3∘Zc (hf wr K)) ?_;rintro _ w3⟨⟨u1,rfl,Q⟩,j⟩;refine(O 9) ?_;have e:=K.ext j;refine(Zc (hf w3 e)) ?_;rintro _ w4⟨⟨u2,rfl,P⟩,V⟩;refine(O 10) ?_;obtain⟨A1,c1,rfl,_,_⟩:=Q.sl;obtain⟨A2,c2,rfl,_,_⟩:=P.sl;refine Li 2 Z Z underlying258 GP Z Z Z Z (by rfl) Bc ?_;rintro sb w5 bi a3 T;refine(O 2∘Zc (YI (Aim l) J w5)) ?_;rintro _ _⟨rfl,rfl⟩;generalize grpN (Aim l)=G at bb ba;refine(Gf) ?_;rintro kb w6 bh a9 S;refine(O 1) ?_;have L:=T.trans S;have N:=V.trans L;have x6:=j.trans N;have xw:=xr.trans x6;have a5:=E.ext x6
  have B:Gz w6 (I+1) [.slice A1 (Aim fl) c1,.slice A2 (Aim fl) c2] [fl,fl]:=by
   have e0:Gz w6 (I+1) [] []:=⟨Z,fun i hi=>by grind⟩;have ho:=E.lt;have h3:=j.size;exact(e0.snoc (Bp.more (CV.ext Q N) J)).snoc (Bp.more (CV.ext P L) J)
  have a2:=a3.ext S;refine(Zs a5) ?_;rintro w9 a6 o;refine(O 2) ?_;have h4:=V.size;have h3:=j.size;have h5:=T.size;have bs:=E.lt;have af:=a2.mo o Bx;have ao:=a9.mo o Bx;have a4:=B.mo o J;refine(Du a6) ?_;refine⟨⟨_,Z,⟨⟨Bl,Bl⟩,Bh,fun t ht=>?_,⟨n1,n2⟩,fun t ht=>?_,fun k hk=>?_⟩,Cm,fun W hW=>⟨_,2,_,G,_,by show _=[Value.slice _ 2 _,Value.slice _ (Aim (BG G 0)) _];rw[Cm];rfl,(af.of_block (hW sb J af.lt)).sl,(a4.keep fun u l' q=>Bp.Agr q fun k hk=>hW k (by have:=(q.lt k hk).1;omega) (q.lt k hk).2).rows,by show Sl _ _ _ (BC .i64 (BG G 0));rw[KB];exact(ao.of_block (hW kb J ao.lt)).sl⟩⟩,Bv xw o xw.size Bx⟩
  .grind
  .grind
  .grind
def Jk.two{w:Ad}{e n m:Y}{d:Bm}{p:Pl}(h:Jk w e n m d p):∃a b,d=[a,b]/\a.oneCell'=Af/\b.oneCell'=Af:=by
 obtain⟨i,g,A1,k,A2,j,f,rfl,_⟩:=h.now;exact⟨_,_,Z,Z,Z⟩
def mZ{p:Pl}{n:Y}(e:p.Ok n){l:Bi}(g:Aim l<=1638350)(a:grpN (Aim l)<=Aim p.picks)(d:∀x∈l,x<n):CP p l<=100000000:=by
 have h:=Vj p e;have f:=Ra p e l a d (Aim l) (Bq _);rw[DY]at f;unfold CP;omega
def nc(n:Y)(l:Bi)(d:Aim l<=1638350)(a:∀x∈l,x<n)(e:Bm)(A:Av AC)(c f:Y)(w:Ad)(p:Pl)(h:Jk w f n (grpN (Aim l)) e p)(g:Sl w w.heap.size A (BC .i64 l)):
 Bn prog 232 [.agg e.toArray,.slice A (Aim l) c] w fun v w'=>v=.tuple #[U ((CP p l:Y):H),U ((0:Y):H)]/\Bf w w':=by
 obtain⟨k,j,i⟩:=h.now;exact Acd p n k l d (OA j.symm) a _ e A c w i g (Bq _)
def Px(l:Bi)(n:Y):Pl:=if CP (OY l n) l<CP (Ks l n) l then OY l n else Ks l n
def rj(l:Bi)(n:Y)(hn:3<=n/\n<=258)(h1:1<=Aim l)(h2:Aim l<=1638350)(e:∀x∈l,x<n)(A:Av AC)(c C:Y)(G:Aim l<=c)(w:Ad)(L:C<=w.heap.size)(P:Sl w C A (BC .i64 l)):
 Bn prog 177 [.slice A (Aim l) c,U (n:H)] w fun v w'=>(∃cs,v=.tuple #[.agg (Lg cs),U ((0:Y):H)]/\Jk w' w.heap.size n (grpN (Aim l)) cs (Px l n))/\Bf w w':=by
 refine Bw func177 Z ntmps177 (by rfl) Z ?_;refine(O 2∘Zn) ?_;rintro ob w1 a5 q f;refine(O 6) ?_;have W:=f.size;refine(Zc (rP l n hn h1 h2 e A c C G w1 J (P.ext f))) ?_;rintro _ w2⟨⟨cs,rfl,i⟩,ai⟩;refine(O 3) ?_;obtain⟨ca,cb,rfl,oa,a7⟩:=i.two;refine(Zn) ?_;rintro ab w3 a4 a2 D;refine(Zs a2) ?_;rintro T y al;refine(O 8) ?_;replace y:Bk T ab 260 [ca,cb]:=y;have o:Bf w2 T:=Bv D al D.size Bx;have k:=ai.trans o;refine(Cd 21∘O 6∘Zc (uK l n hn h1 h2 e A c C T (P.ext (f.trans k)))) ?_;rintro _ w5⟨⟨ba,rfl,h⟩,af⟩;refine(O 3) ?_;obtain⟨da,db,rfl,od,a6⟩:=h.two;refine(Zn) ?_;rintro bb w6 a3 a0 B;refine(Zs a0) ?_;rintro S t aj;refine(O 4) ?_;replace t:Bk S bb 260 [da,db]:=t;have m:Bf w5 S:=Bv B aj B.size Bx;have j:=af.trans m;have x17:=k.trans j;have x7:=f.trans x17;have K:=y.ext j;refine(Zv (Cf K)∘O 1∘Zc (nc n l h2 e _ A c _ S _ (i.ext (o.trans j)) ((P.ext x7).more (BF L x7.size)))) ?_;rintro _ w8⟨rfl,a⟩;refine(O 8) ?_;have k2:=mZ i.1 h2 (OA i.2.1.symm) e;have k1:=mZ h.1 h2 (OA h.2.1.symm) e;have Q:=x7.trans a;have I:=t.ext a;refine(Zv (Cf I)∘O 1∘Zc (nc n l h2 e _ A c _ w8 _ (h.ext (m.trans a)) ((P.ext Q).more (BF L Q.size)))) ?_;rintro _ w9⟨rfl,d⟩;refine(O 13) ?_;unfold Px;generalize a9:CP (Ks l n) l=za at k2;generalize a8:CP (OY l n) l=zb at k1;have N:=Q.trans d;have E:=q.ext ((x17.trans a).trans d);refine Zi (fun r=>?_) fun r=>?_
 .have ao:=I.ext d;refine(O 2∘Zv (Cf ao)∘Zs E) ?_;rintro wa p g;refine(O 2∘Du p) ?_;have V:=(f.trans k).size;rw[Ai r];exact⟨⟨_,Z,((h.ext ((m.trans a).trans d)).mo g (by have:=q.lt;have:=k.size;omega)).low V⟩,Bv N g N.size Bx⟩
 .have a1:=(K.ext a).ext d;refine(O 3∘Zv (Cf a1)∘Zs E) ?_;rintro wa p g;refine(O 2∘Du p) ?_;rw[Ag r];exact⟨⟨_,Z,((i.ext (((o.trans j).trans a).trans d)).mo g q.lt).low W⟩,Bv N g N.size Bx⟩
def bw:∀(gl row:Bi),Aim (JV row gl)=Aim row
 |[],row=>rfl
 |y::gl,row=>by
  show Aim (JV (row.set y _) gl)=_;rw[bw gl,HG]
def oL:∀(gl row:Bi) (c:Y),Up c row->Up (c+Aim gl) (JV row gl)
 |[],row,c,h=>h
 |y::gl,row,c,h=>by
  have e:c+Aim (y::gl)=(c+1)+Aim gl:=by rw[Cv];omega
  rw[e];refine oL gl (row.set y (row.getD y 0+1)) (c+1) (Up.set (fun x a=>TW (h x a)) ?_);rw[BX];rcases q:row[y]? with _|z
  .simp
  .exact Nat.succ_le_succ (h z (RS q))
def oM(a:Ae (Bi))(l:Bi)(n d t:Y):∀k,Aim (wK a l n d k t)=n/\Up (50*k) (wK a l n d k t)
 |0=>⟨Cm,fun x hx=>by rw[cZ hx];simp⟩
 |k+1=>by
  obtain⟨h1,h2⟩:=oM a l n d t k;have hg:Aim (Ew l k)<=50:=by unfold Ew;rw[BY];omega
  rw[wK];split
  .exact⟨by rw[bw];omega,fun x hx=>BF (oL _ _ _ h2 x hx) J⟩
  .exact⟨h1,fun x hx=>BF (h2 x hx) J⟩
def dL(tabs:Ae (Bi))(gl:Bi):∀t,JD tabs gl (t+1)<t+1
 |0=>by rw[dM];simp
 |t+1=>by
  rw[dN];split
  .simp
  .exact Nat.lt_succ_of_lt (dL tabs gl t)
def rO{l:Bi}{n:Y}(h:3<=n/\n<=258)(h1:1<=Aim l)(h2:grpN (Aim l)<=32767):(Ks l n).Ok n/\(Ks l n).picks.length=grpN (Aim l):=by
 obtain⟨q,p⟩:=ke (Aim l);have r:=UN h1;have g:(Ks l n).picks.length=grpN (Aim l):=by unfold Ks QX;rw[DQ,GV]
 have f:(Ks l n).tabs.length=Gm (Aim l):=nI _ _ _ _ _
 have mem:∀t∈(Ks l n).tabs,Aim t=n/\LOk t:=fun t a=>by
  obtain⟨i,_,rfl⟩:=Ck.1 a;obtain⟨o,d⟩:=oM (Ef l n (Gm (Aim l)) (grpN (Aim l)) 3) l n (Gm (Aim l)) i (grpN (Aim l));have:=jO (w:=wK (Ef l n (Gm (Aim l)) (grpN (Aim l)) 3) l n (Gm (Aim l)) (grpN (Aim l)) i) J J fun x a=>BF (d x a) J;grind
 refine⟨⟨J,J,fun t a=>(mem t a).1,h,fun t a=>(mem t a).2,fun k j=>?_⟩,g⟩;rw[f];obtain⟨i,_,rfl⟩:=Ck.1 (show k∈QX l n (Gm (Aim l)) (grpN (Aim l)) 3 from j);obtain⟨m,e⟩:∃m,Gm (Aim l)=m+1:=⟨Gm (Aim l)-1,J⟩;rw[e];exact dL _ _ m
def ur{l:Bi}{n:Y}(d:3<=n/\n<=258)(h1:1<=Aim l)(h2:grpN (Aim l)<=32767):(OY l n).Ok n/\(OY l n).picks.length=grpN (Aim l):=by
 have f:Aim (Kt l n)=n:=by unfold Kt;rw[bw,Cm]
 have g:=UN h1;refine⟨⟨⟨by show 2<=2;omega,by show 2<=6;omega⟩,by show 1<=Aim (BG _ 0)/\Aim (BG _ 0)<=_;grind,fun t a=>?_,d,fun t a=>?_,fun k e=>?_⟩,Cm⟩
 .have:t=Gk (Kt l n):=by simpa using(show t∈[Gk (Kt l n),Gk (Kt l n)]from a)
  rw[this,Yx];omega
 .have:t=Gk (Kt l n):=by simpa using(show t∈[Gk (Kt l n),Gk (Kt l n)]from a)
  rw[this];exact gK J J
 .have:k=0:=(List.mem_replicate.1 e).2;subst this;show 0<2;simp
def zd{l:Bi}{n:Y}(a:3<=n/\n<=258)(h1:1<=Aim l)(h2:grpN (Aim l)<=32767):(Px l n).Ok n/\(Px l n).picks.length=grpN (Aim l):=by
 unfold Px;split
 .exact ur a h1 h2
 .exact rO a h1 h2
end
section
attribute [local irreducible] OW KW QW EX GW NV
def oB(v n:Y)(hv:v<4294967296)(f:n<=64)(w:Ad):
 Bn prog 95 [.int .u32 v,U n] w fun r w'=>r=.int .u32 (HY n v 0:Y)/\w=w':=by
 refine Bw func95 Z ntmps95 (by rfl) Z ?_;refine(O 15)<|Lo (fun((k,x,o):Y×Y×Y)=>(k<=n/\x<4294967296/\o<4294967296/\HY (n-k) x o=HY n v 0,[(0,.int .u32 x),(5,.int .u32 o),(6,U n),(7,U k)],w,n-k)) (0,v,0) ?_ ?_
 .grind
 .rintro⟨k,x,o⟩⟨g,d,e,a⟩;refine(O 5)<|Zi (fun h=>?_) fun h=>?_
  .refine(O 6) ?_;refine OW.val Z Z (by first|exact Hk (s:=1) (p:=2) (m:=4294967295) Z Z Bc Bc Z J|exact IF (s:=1) (p:=2) (m:=4294967296) Z Z Bc Bc Z Bc)<|(O 1∘Zv (by exact Nb (b:=1) (j:=1) (p:=2) (m:=4294967295) Z Z Bc Bc Z J)∘Zv (by exact Ol (m:=4294967295) Z Z Z J)∘O 4∘Zv (by exact IG (s:=1) (p:=2) Z Z Bc Bc)∘O 7)<|Lb ((k+1),(x/2),(o*2%4294967296|||x%2)) ?_
   exact⟨J,J,Mg (n:=32) J J,by
    rw[show n-k=(n-(k+1))+1 by omega]at a;exact a⟩
  .refine(O 6∘Bu) ?_;obtain rfl:k=n:=J;rw[EP]at a;exact⟨by rw[<-a];rfl,Z⟩
def Ob:Bm:=BG 256 (.int .u32 0)
def NY:TI prog 178 (.agg Ob.toArray) 256 1024:=by unfold TI Ob;kernel_rfl
def VK:Bm:=(BE 256).map fun i=>Value.int .u32 (Sq i:Y)
def aP(i:Y)(h:i<256):VK[i]? =X (.int .u32 (Sq i:Y)):=by simp[VK,h]
def Rt:Aim VK=256:=by simp[VK]
def nH(w:Ad):Bn prog 94 [] w fun r w'=>r=.agg VK.toArray/\Bf w w':=by
 refine Bw func94 Z ntmps94 (by rfl) Z ?_;refine(O 2∘Zv (by exact EX.alloc (l:=Ob) NY Z)∘O 3∘Zv (by exact EX.alloc (l:=Ob) NY Z)∘O 7∘Cw 1 (.pointer (X ⟨w.heap.size+1,0,Aa⟩)) (e:=by simp))<|Lo (fun((k,l,wr):Y×(Bm)×Ad)=>(k<=256/\Aim l=256/\(∀j,j<k->l[j]? =X (.int .u32 (Sq j:Y)))/\Bk wr (w.heap.size+1) 178 l/\Bk wr w.heap.size 178 Ob/\Bf w wr,[(0,.pointer (X ⟨w.heap.size,0,Aa⟩)),(1,.pointer (X ⟨w.heap.size+1,0,Aa⟩)),(4,U k)],wr,256-k)) (0,Ob,_) ?_ ?_
 .refine⟨J,Cm,fun j h=>absurd h J,?_,(Bk.new w _ _).alloc _,(Bf.alloc _ _).trans (Bf.alloc _ _)⟩;have:=Bk.new (w.alloc (.cells Ob.toArray 178)) 178 Ob;simp_all
 .rintro⟨k,l,wr⟩⟨K,I,C,d,f,x⟩;refine(O 5)<|Zi (fun h=>?_) fun h=>?_
  .refine(O 12) ?_;refine OW.val Z Z (by first|exact Hk (s:=24) (p:=16777216) (m:=4294967295) Z Z Bc Bc Z J|exact IF (s:=24) (p:=16777216) (m:=4294967296) Z Z Bc Bc Z Bc)<|(O 8)<|Lo (fun((m,r):Y×Y)=>(m<=8/\r<4294967296/\r=Sk m (k*16777216),[(0,.pointer (X ⟨w.heap.size,0,Aa⟩)),(1,.pointer (X ⟨w.heap.size+1,0,Aa⟩)),(2,U k),(3,.int .u32 r),(4,U k),(10,U m)],wr,8-m)) (0,(k*16777216)) ?_ ?_
   .exact⟨J,J,Z⟩
   .rintro⟨m,r⟩⟨G,E,a⟩;refine(O 5)<|Zi (fun D=>?_) fun D=>?_
    .refine(O 6∘Zv (by exact Wd (b:=2147483648) (m:=4294967295) Z Z Z J)∘O 2)<|Zi (fun t=>?_) fun t=>?_
     .refine(O 2) ?_;refine OW.val Z Z (by first|exact Hk (s:=1) (p:=2) (m:=4294967295) Z Z Bc Bc Z J|exact IF (s:=1) (p:=2) (m:=4294967296) Z Z Bc Bc Z Bc)<|(Zv (by exact Jq (b:=79764919) (m:=4294967295) Z Z Z J)∘O 7)<|Lb ((m+1),((r*2%4294967296) ^^^ 79764919)) ?_;refine⟨J,OG (n:=32) J J,?_⟩;rw[eL,<-a,Qy,Ai t]
     .refine(O 2) ?_;refine OW.val Z Z (by first|exact Hk (s:=1) (p:=2) (m:=4294967295) Z Z Bc Bc Z J|exact IF (s:=1) (p:=2) (m:=4294967296) Z Z Bc Bc Z Bc)<|(O 7)<|Lb ((m+1),(r*2%4294967296)) ?_;refine⟨J,J,?_⟩;rw[eL,<-a,Qy,Ag t]
    .refine(O 5) ?_;refine RX Z (RD LO Z Z Z (d) J)<|(O 6) ?_;obtain rfl:m=8:=J;refine Lb ((k+1),(l.set k (.int .u32 r)),_) ?_;refine⟨J,Bh,fun j B=>?_,d.set k _,f.far Bl _,Below.setCell x Bl _⟩;rcases Db j k with i|i
     .grind
     .obtain rfl:j=k:=J;rw[List.getElem?_set_self J,a];rfl
  .refine(O 3) ?_;obtain rfl:k=256:=J
   have o:l=VK:=by
    apply GU;intro j;rcases Db j 256 with i|i
    .rw[C j i,aP j i]
    .rw[IM J,IM (by rw[Rt];omega)]
   subst o;refine(Zv (by exact Jl underlying178 Z NY Z d Rt)) ?_;refine WW Z NY Z Z Rt (Ng.2 fun v A=>by obtain⟨_,_,rfl⟩:=Ck.1 A;rfl) f Cm ?_;intro w' q y;refine(O 1) ?_;refine Gd<|retA Z Z underlying178 Z NY q Rt ?_;exact⟨Z,x.grown y (fun g y=>by grind)⟩
end
section
def vB{k:AI}{l:Bi}{i:Y}(h:i<Aim l):(BC k l)[i]? =X (.int k (l[i]:Y)):=by simp[BC,h]
end
section
attribute [local irreducible] OW KW QW EX GW NV
def xG(r:Y)(t:r<4294967296)(s:Bg)(I:Aim s<=1000000000)(w:Ad):
 Bn prog 181 [.int .u32 r,Bj s] w fun v w'=>v=.int .u32 (Ny r s:Y)/\Bf w w':=by
 refine Bw func181 Z ntmps181 (by rfl) Z ?_;refine(O 6∘Zc (nH w)) ?_;rintro _ E⟨rfl,a⟩;refine(Zn) ?_;rintro o D y j f;refine WW Z NY Z Z Rt (Ng.2 fun v q=>by obtain⟨_,_,rfl⟩:=Ck.1 q;rfl) j Cm ?_;intro l C i;refine(O 9) ?_;have G:=(a.trans f).grown i (fun g i=>by cases i;have:=a.size;omega);refine Lo (fun((k,x):Y×Y)=>(k<=Aim s/\x<4294967296/\x=Ny r (s.take k),[(0,.int .u32 x),(1,Bj (s)),(5,.pointer (X ⟨o,0,Aa⟩)),(9,U ((Aim s:Y):H)),(10,U k)],l,Aim s-k)) (0,r) ?_ ?_
 .exact⟨J,t,Z⟩
 .rintro⟨k,x⟩⟨K,a,e⟩;refine(O 5)<|Zi (fun h=>?_) fun h=>?_
  .have B:=s[k].toNat_lt;have d:x/16777216 ^^^ s[k].toNat<256:=OG (n:=8) J B;have A:=XH (x/16777216 ^^^ s[k].toNat);refine(O 10) ?_;refine OW.val Z Z (by first|exact Hk (s:=8) (p:=256) (m:=4294967295) Z Z Bc Bc Z J|exact IF (s:=8) (p:=256) (m:=4294967296) Z Z Bc Bc Z Bc)<|(O 1∘Zv (by exact IG (s:=24) (p:=16777216) Z Z Bc Bc)∘O 4∘Zv (by exact Jq (m:=255) Z Z Z J)∘O 1∘Zv (Bo C (hi:=aP _ d))∘Zv (by exact Jq (m:=4294967295) Z Z Z J)∘O 7)<|Lb ((k+1),(OP x s[k].toNat)) ?_;exact⟨J,XD _ _,by rw[aS s k h,rY,<-e]⟩
  .refine(O 6∘Bu) ?_;grind
def Uq(s:Bg)(d:Aim s<=1000000000)(w:Ad):
 Bn prog 132 [Bj s] w fun v w'=>v=.int .u32 (Em s:Y)/\Bf w w':=by
 have e:=rX 4294967295 s J;refine Bw func132 Z ntmps132 (by rfl) Z ?_;refine(O 7∘Zc (xG 4294967295 J s d w)) ?_;rintro _ f⟨rfl,a⟩;refine(Zv (by exact cF (m:=4294967295) Z Z Z J)∘O 2∘Bu) ?_;exact⟨Z,a⟩
def nA(l:Bi)(A:Av AC)(c:Y)(hl:∀x∈l,x<4294967296)(k:Aim l<=9223372036854775807)(w:Ad)(B:Y)(f:Sl w B A (BC .u32 l)):
 Bn prog 120 [.slice A (Aim l) c] w fun r w'=>r=.int .u32 (Hc l:Y)/\w=w':=by
 refine Bw func120 Z ntmps120 (by rfl) Z ?_;refine(O 16)<|Lo (fun((i,x):Y×Y)=>(i<=Aim l/\x<4294967296/\x=Hc (l.take i),[(3,.int .u32 x),(6,.slice A (Aim l) c),(7,U ((Aim l:Y):H)),(8,U i)],w,Aim l-i)) (0,0) ?_ ?_
 .exact⟨J,J,Z⟩
 .rintro⟨i,x⟩⟨q,e,a⟩;refine(O 5)<|Zi (fun h=>?_) fun h=>?_
  .obtain⟨b,o,rfl,_,j⟩:=f.at_ (by rw[DF];omega);have d:=hl l[i] Bl;have g:(x*2%4294967296)|||x/2147483648<4294967296:=Mg (n:=32) J J
   refine(O 6∘Zv (BZ (j i _ (vB h)))∘O 5) ?_;refine OW.val Z Z (by first|exact Hk (s:=1) (p:=2) (m:=4294967295) Z Z Bc Bc Z J|exact IF (s:=1) (p:=2) (m:=4294967296) Z Z Bc Bc Z Bc)<|(O 1∘Zv (by exact IG (s:=31) (p:=2147483648) Z Z Bc Bc)∘Zv (by exact Ol (m:=4294967295) Z Z Z J)∘O 5∘Zv (by exact Jq (m:=4294967295) Z Z Z J)∘O 7)<|Lb ((i+1),(NA x l[i])) ?_;exact⟨J,Ut _ _ d e,by rw[aS l i h,sC,<-a]⟩
  .refine(O 6∘Bu) ?_;grind
end
section
attribute [local irreducible] OW KW QW EX GW NV
open Bz
noncomputable def CY(s:Bg):Pl:=Px (listOf (enc s)) (Aim (used (enc s))+2)
def oJ(t:Bg):Aim (used t)<=256:=Afc t
def aM(u:Bg):Aim (JT u)<=272:=by
 have h:∀l:Bi,Aim (l.flatMap fun i=>if DC u i then Da u i else[])<=16*Aim l:=fun l=>by
  induction l with
  |nil=>simp
  |cons i l ih=>
   rw[EY,BA,Cv];split
   .rw[JQ];omega
   .grind
 have:=h (BE 16);unfold JT;grind
def ZV(s:Bg)(j:Aim s<=100000):Qp s (CY s):=fun h=>by
 have a:=enc_ne h;have g:=enc_len (Aim s) s (Bq _);obtain⟨d,i,_,_⟩:=listOf_len (enc s) a;have e:=VT a;have f:=oJ (enc s);exact zd ⟨J,J⟩ d (by unfold grpN;omega)
def rz(s:Bg)(h0:s≠[])(i:Aim s<=100000):Aim (blkB s (CY s))<=90000000:=by
 have a:=enc_ne h0;have h:=enc_len (Aim s) s (Bq _);obtain⟨k,j,f,_⟩:=listOf_len (enc s) a;obtain⟨d,e⟩:=ZV s i h0;have m:=Vj _ d;have g:=Ra _ d (listOf (enc s)) (OA e.symm) f (Aim (listOf (enc s))) (Bq _);rw[DY]at g;have l:=aM (used (enc s));unfold blkB;simp only[BA,nb_length,Cv];omega
def dV(s:Bg)(a:Aim s<=100000):Aim (blocksB s (CY s))<=90000000:=by
 unfold blocksB;split
 .simp
 .rename_i h;exact rz s h a
def uv{α:Type}{l:Ae α}{L:Ae (Ae α)}(h:l∈L):Aim l<=Aim L.flatten:=by
 induction L with
 |nil=>grind
 |cons x L ih=>
  grind
def blk_s(s:Bg)(h0:s≠[])(hs:Aim s<=100000)(w:Ad):
 Bn prog 131 [Bj s] w fun v w'=>(Qp s (CY s)/\v=.tuple #[.agg (DT (blkB s (CY s))).toArray,U ((0:Y):H)])/\Bf w w':=by
 have d:=enc_ne h0;have b4:=enc_len (Aim s) s (Bq _);have cm:=Qw s;refine Bw func131 Z ntmps131 Be Z ?_;refine(O 2∘Zn) ?_;rintro ob w1 cx b8 bq;refine(O 6∘Zv (by exact HD (r:=[]) Z Z)∘O 1∘Cd 21 (e:=h0)∘O 5∘Zc (Aai s J w1)) ?_;rintro _ w2⟨rfl,bn⟩;refine(O 9) ?_;have al:∀m:Pl,m.Ok (Aim (used (enc s))+2)->Aim m.picks=grpN (Aim (listOf (enc s)))->Qp s m:=fun m a b _=>⟨a,b⟩;have a1:∀m,blkB s m=nb 48 54156738319193++(nb 32 (Em s)++(Aj::(nb 24 (Iz (Gp (enc s)))++(JT (used (enc s))++(planBits m++Ej m (listOf (enc s))))))):=fun m=>rfl;have A:CY s=Px (listOf (enc s)) (Aim (used (enc s))+2):=rfl;generalize CY s=pS at A;generalize enc s=t at d b4 al a1 A;have hp:=ZQ t d;obtain⟨l1,l2,l3,l4⟩:=listOf_len t d;obtain⟨r1,r2,r3⟩:=dK (ZK t) d;have b2:=VT d;have x:=oJ t;refine(Cd 27∘O 5∘Zc (uy t d J w2)) ?_;rintro _ w3⟨rfl,bm⟩;refine(O 14∘Cd 36∘O 5∘Zc (of_s t J w3)) ?_;rintro _ w4⟨rfl,bl⟩;refine(O 6) ?_;have c2:Aim (FG t (Gp t))=Aim t:=r2;refine(Zc (uB _ _ _ J x (used_may d) hp.front w4)) ?_;rintro _ w5⟨⟨x5,rfl,o5⟩,bj⟩;refine(O 12) ?_;obtain⟨A5,c5,rfl,_,a6⟩:=o5.sl;refine(Cd 48∘O 7) ?_;have c1:=hp.len;refine(Zc (Afy (Aim (used t)) ⟨b2,x⟩ _ J hp.lt A5 c5 _ w5 a6)) ?_;rintro _ w6⟨⟨x6,rfl,o6⟩,bi⟩;refine(O 12) ?_;have a7:CV w6 w5.heap.size x6 (listOf t):=o6;obtain⟨A6,c6,rfl,cn,S⟩:=a7.sl;refine(Cd 59∘O 8∘Zc (rj (listOf t) (Aim (used t)+2) ⟨J,J⟩ l1 J l3 A6 c6 _ cn w6 (Bq _) S)) ?_;rintro _ w7⟨⟨cs,rfl,a0⟩,ai⟩;refine(O 3) ?_;obtain⟨ca,cb,rfl,oa,c0⟩:=a0.two;refine(Zn) ?_;rintro pb w8 cw b5 af;refine(Zs b5) ?_;rintro g n ch;refine(O 8) ?_;replace n:Bk g pb 260 [ca,cb]:=n;have p:Bf w7 g:=Bv af ch af.size Bx;refine(Cd 71∘O 4∘Zc (Pp g)) ?_;rintro _ wa⟨E,rfl,b1,f⟩;refine(O 5∘Zc (GJ g.heap.size E [] 54156738319193 48 Bc Bc Bc Bc wa b1)) ?_;rintro _ wc⟨rfl,b0,Q⟩;refine(O 5∘Zc (Uq s J wc)) ?_;rintro _ wd⟨rfl,i⟩;refine(O 1∘Zc (GJ g.heap.size E _ (Em s) 32 J Bc cm (by rw[Ev,nb_length];decide) wd (b0.ext i))) ?_;rintro _ we⟨rfl,bx,te⟩;refine(O 4∘Zc (GJ g.heap.size E _ 0 1 Bc Bc Bc (by simp only[BA,nb_length,EZ];decide) we bx)) ?_;rintro _ wf⟨rfl,bs,tf⟩;refine(O 6) ?_;have aj:Iz (Gp t)<16777216:=J;refine(Zc (GJ g.heap.size E _ (Iz (Gp t)) 24 J Bc aj (by simp only[BA,nb_length,EZ];decide) wf bs)) ?_;rintro _ wg⟨rfl,q,tg⟩;refine(O 4) ?_;have P:Bf w1 g:=(((((bn.trans bm).trans bl).trans bj).trans bi).trans ai).trans p;have cz:=P.size;have a4:Bf g wg:=tg.below (tf.below (te.below ((Q.below f f.size (Bq _)).trans (i.mono (BF f.size Q.size))) (BF f.size (BF Q.size i.size)) (Bq _)) (BF f.size (BF Q.size (BF i.size te.size))) (Bq _)) (BF f.size (BF Q.size (BF i.size (BF te.size tf.size)))) (Bq _);obtain⟨G,q2,q3⟩:=(a0.ext p).now;rw[<-A]at G q2 q3;generalize a2:[]++nb 48 54156738319193++nb 32 (Em s)++nb 1 0++nb 24 (Iz (Gp t))=HW at q;have c3:Aim HW=105:=by rw[<-a2];simp only[BA,nb_length,EZ]
 refine(Zc (Oa g.heap.size E _ wg q)) ?_;rintro _ _⟨rfl,rfl⟩;refine(O 1∘Zc (MW g.heap.size E _ wg q)) ?_;rintro _ _⟨rfl,rfl⟩;refine(O 1∘Zn) ?_;rintro hb wh cv cl ab;refine(Zs cl) ?_;rintro wi D cg;refine(O 4) ?_;replace D:Bk wi hb 226 (DT HW):=D;have a3:Bf wg wi:=Bv ab cg ab.size Bx;refine(Zc (Acq (used t) x (used_may d) wi)) ?_;rintro _ wj⟨rfl,bh⟩;refine(O 3∘Zn) ?_;rintro a8 wk cu b9 W;refine(Zs b9) ?_;rintro wl B cf;refine(O 4) ?_;replace B:Bk wl a8 226 (DT (JT (used t))):=B;have K:Bf wi wl:=bh.trans (Bv W cf W.size Bx);have k:=(a4.trans a3).trans K;refine(Zv (Cf (n.ext k))∘Zc (jj pS _ G _ _ wl (q3.ext k) k.size)) ?_;rintro _ wm⟨rfl,bf⟩;refine(O 3∘Zn) ?_;rintro a5 wn ct b3 V;refine(Zs b3) ?_;rintro wo y ce;refine(O 4) ?_;replace y:Bk wo a5 226 (DT (planBits pS)):=y;have o:Bf wl wo:=bf.trans (Bv V ce V.size Bx);have h:=k.trans o;refine(Zv (Cf (n.ext h))∘O 1) ?_;have L:Bf w6 g:=ai.trans p;refine(Zc (je pS _ G (listOf t) J (OA q2.symm) l3 _ _ A6 c6 wo (q3.ext h) (((S.ext L).more L.size).ext h) h.size)) ?_;rintro _ wp⟨rfl,bc⟩;refine(O 3∘Zn) ?_;rintro a9 wq cr ck T;refine(Zs ck) ?_;rintro wr C cd;refine(O 4) ?_;replace C:Bk wr a9 226 (DT (Ej pS (listOf t))):=C;have j:Bf wo wr:=bc.trans (Bv T cd T.size Bx);refine(Zv (Cf (((D.ext K).ext o).ext j))∘Zv (Cf ((B.ext o).ext j))∘Zv (Cf (y.ext j))∘Zv (Cf C)) ?_;refine Mi 4 ([DT HW,DT (JT (used t)),DT (planBits pS),DT (Ej pS (listOf t))]) Z Z underlying227 GN Z Bc Z Z Z Bl Bc ?_;rintro eb ws cq co bb;have k1:=Vj pS G;have k2:=Ra pS G (listOf t) (OA q2.symm) l3 (Aim (listOf t)) (Bq _);rw[DY]at k2;have k3:=aM (used t)
 have ao:[HW,JT (used t),planBits pS,Ej pS (listOf t)].flatten=blkB s pS:=by
  rw[a1,<-a2,show nb 1 0=[Aj]from Z];simp only[Nj,List.flatten_nil,List.append_nil,Ev,Cq,RT,FM]
 have cp:Aim (blkB s pS)<=100000000:=by
  rw[<-ao];simp only[Nj,List.flatten_nil,BA,EZ];omega
 have cj:=NF [HW,JT (used t),planBits pS,Ej pS (listOf t)] (fun l hl=>by
  simp only[List.mem_cons,List.not_mem_nil,or_false]at hl;rcases hl with rfl|rfl|rfl|rfl<;>omega) Bl Bh (X ⟨eb,0,Aa⟩) 4 _ ws co.sl
 rw[ao]at cj;refine(Zc cj) ?_;rintro _ wt⟨rfl,ba⟩;refine(O 2) ?_;have N:Bf w1 wt:=(((P.trans (h.trans j))).trans bb).trans ba;have b7:=b8.ext N;refine(Zs b7) ?_;rintro wu b6 cc;refine(O 2) ?_;have I:=bq.trans N;refine(Du b6) ?_;exact⟨⟨al pS G q2,Z⟩,Bv I cc I.size Bx⟩
end
section
open Fld Ust Pax Pth Tar
def Io(s:Bg):Bg:=s++Cx (Gj (Aim s)-Aim s)
def UK(s:Bg):Aim (Io s)=Gj (Aim s):=by
 have:=Yk (Aim s);unfold Io;rw[BA,Cx,Cm];omega
def Lv(x:En):Bg:=if(BP x.path).2.2=Af then CW (CM x.path 48 (Aim x.data))else FU Hh 120 (Di ⟨Ec,x.path⟩)++CW (CM (x.path.take 100) 48 (Aim x.data))
def tT(x:En):JM x=Lv x++Io x.data:=by
 unfold JM Lv Io;split
 .unfold FU;simp
 .unfold FU;simp
noncomputable def Cj(x:En):Bg:=Lv x++Io (Bz.packS x.data (CY x.data))
noncomputable def NH(x:En):Bg×Y:=if Cy x.path≠0 then([],140)else if 8192<Aim x.data then([],3)else(Cj x,0)
structure Fits(x:En):Prop where
 path:Cy x.path=0
 data:Aim x.data<=8192
def lY{s:Bg}(h:Aim s<=120):1<=Aim (Di ⟨Ec,s⟩)/\Aim (Di ⟨Ec,s⟩)<=512:=by
 have a:=Pu h;have f:=ad a;have e:=SC _ a;have d:CP ⟨Ec,s⟩=JH (rest ⟨Ec,s⟩)+rest ⟨Ec,s⟩:=rfl;omega
def lB{s:Bg}(h:Aim s<=120):Aim (FU Hh 120 (Di ⟨Ec,s⟩))=1024:=by
 have a:=lY h;rw[az (YH J)];unfold Gj;omega
def YN{x:En}(h:Fits x):Aim (Lv x)=if(BP x.path).2.2=Af then 512 else 1536:=by
 have a:Aim x.data<=262144:=by have:=h.data;omega
 unfold Lv;split
 .rename_i q;exact(YG h.path a q).len
 .rw[BA,lB (Qx h.path).2.2.1,(YF h.path a).len]
def ZO{s:Bg}(h:Aim s<=8192):10<=Aim (Bz.packS s (CY s))/\Aim (Bz.packS s (CY s))<=12000000:=by
 have:=dV s J;unfold Bz.packS;rw[Bz.pack_length,Bz.streamB_length];omega
def JN{x:En}(h:Fits x):Aim (Cj x)%512=0/\1024<=Aim (Cj x)/\Aim (Cj x)<=13000000:=by
 have d:=YN h;have a:=ZO h.data;unfold Cj;rw[BA,UK];unfold Gj;grind
def jZ{x:En}(h:Fits x):NH x=(Cj x,0):=by
 have:=h.data;unfold NH;rw[Ag (by rw[h.path];simp),Ag J]
def Lw(s:Bg)(k:Y):Hd×Aw:=if Aim s<512 then(IT,Aj)else((He (s.take 512)).1,decide ((He (s.take 512)).2=0) && decide ((He (s.take 512)).1.kind=k))
def YO{p:Bg}{k n:Y}(g:Tar.Good p k n)(b:Bg)(j:Y):Lw (CW (CM p k n)++b) j=(CM p k n,decide (k=j)):=by
 have a:=g.len;unfold Lw;rw[Ag Bh,Hp a,g.dec];rfl
def Ady{pre suf s:Bg}(h:Aim s<=8192):Bz.takeS (pre++Bz.packS s (CY s)++suf) (Aim pre)=X (s,Aim pre+Aim (Bz.packS s (CY s))):=
 Bz.takeS_pack (ZV s J) h pre suf
end
section
attribute [local irreducible] OW KW QW EX GW NV
open Bz
def bM{n most M:Y}:∀(l out:Bi) (run w:Y) (ps:Bi),(∀x∈out,x<=M)->(∀x∈l,x<=M)->Fo n most out run w l=X ps->∀x∈ps,x<=M
 |[],out,run,w,ps,_,_,h=>by rw[Fo]at h;cases h
 |s::l,out,run,w,ps,ho,hl,h=>by
  have hl2:=fun x a=>hl x (El _ a)
  have d:∀x∈out++BG run 0,x<=M:=fun x a=>by
   grind
  rw[Fo]at h;split at h
  .cases h
  .split at h
   .split at h
    .cases h
    .exact bM l _ _ _ ps ho hl2 h
   .split at h
    .grind
    .split at h
     .cases h
     .refine bM l _ _ _ ps (fun x a=>?_) hl2 h;rcases Dz.1 a with z|z
      .grind
      .simp_all;omega
def XN:∀(l:Bg) (same:Y) (out:Bg),(dec same out l).2=0∨(1<=(dec same out l).2/\(dec same out l).2<=30)
 |[],same,out=>by
  rw[dec];grind
 |x::r,same,out=>by
  rw[dec];split
  .split
   .exact .inr ⟨by show 1<=3;decide,by show 3<=30;decide⟩
   .exact XN r _ _
  .split
   .exact .inr ⟨by show 1<=3;decide,by show 3<=30;decide⟩
   .exact XN r _ _
def Afv(n most:Y)(hn:1<=n/\n<=256)(hm:most<=262144)(l:Bi)(hl:Aim l<=1000000000)(hp:∀p∈l,p<=1000000000)(A:Av AC)(c C:Y)(w:Ad)(hs:Sl w C A (BC .i64 l)):
 Bn prog 206 [U (n:H),U (most:H),.slice A (Aim l) c] w fun v w'=>(∃u p,∃e:Y,v=.tuple #[u,U (e:H)]/\CV w' w.heap.size u p/\((e=0/\Fo n most [] 0 1 l=X p/\Aim p<=most)∨(GQ e/\Fo n most [] 0 1 l=Aa)))/\Bf w w':=
 (Afu n most hn hm l hl hp A c C w hs).mono fun v w'⟨h,x⟩=>by
  refine⟨?_,x⟩;rcases h with⟨u,p,h1,h2,h3,h4⟩|⟨h1,e,h2,h3⟩
  .grind
  .exact⟨_,[],e,h3,CV.nil _ _,.inr ⟨h2,h1⟩⟩
def Aez{u:Bg}{l:Bi}{row most:Y}(h:Fo (Aim u) most [] 0 1 l=Aa):JU u l row most=Aa:=by unfold JU;rw[h]
def Aex{u:Bg}{l ps:Bi}{row most:Y}(h:Fo (Aim u) most [] 0 1 l=X ps):JU u l row most=match GC u ps with
 |none=>Aa
 |some c=>if row<Aim c then(if(dec 0 [] (back c row)).2=0 then X (dec 0 [] (back c row)).1 else Aa)else Aa:=by unfold JU;grind
def qZ(L:Bg)(row:Y):Aim (back L row)=Aim L:=Xl _ _ _ _
def Afa(u:Bg)(hu:1<=Aim u/\Aim u<=256)(m:Pk u)(l:Bi)(hl:Aim l<=2000000)(L:∀x∈l,x<=1000)(row most:Y)(hr:row<=1000000000)(hm:most<=262144)(A:Av AC)(c C:Y)(w:Ad)(hs:Sl w C A (BC .i64 l)):
 Bn prog 163 [Bj u,.slice A (Aim l) c,U (row:H),U (most:H)] w fun v w'=>(∃t,∃e:Y,v=.tuple #[Bj t,U (e:H)]/\((e=0/\JU u l row most=X t)∨(GQ e/\JU u l row most=Aa)))/\Bf w w':=by
 refine Bw func163 Z ntmps163 (by rfl) Z ?_;refine(O 11∘Zc (Afv (Aim u) most hu hm l J (fun x hx=>by grind) A c C w hs)) ?_;rintro _ D⟨⟨x1,g,e1,rfl,o1,r⟩,k⟩;refine(O 12)<|Zi (fun S=>?_) fun S=>?_
 .rcases r with⟨rfl,_⟩|⟨i,T⟩
  .exact AK Z S
  .refine(O 6∘BH) ?_;exact⟨⟨[],e1,Z,.inr ⟨i,Aez T⟩⟩,k⟩
 .rcases r with⟨rfl,i,T⟩|⟨i,T⟩
  .have f:=Aex (row:=row) i;have ab:=bM l [] 0 1 g Bl L i;obtain⟨A1,c1,rfl,_,E⟩:=o1.sl
   have c2:Bn prog 207 [.slice A1 (Aim g) c1,Bj u] D fun v w'=>(∃x,∃e:Y,v=.tuple #[Bj x,U (e:H)]/\((e=0/\GC u g=X x)∨(GQ e/\GC u g=Aa)))/\Bf D w':=
    (Abo g u J (fun x hx=>by grind) hu.2 m A1 c1 _ D E).mono fun v w'⟨h,x⟩=>by
     grind
   refine(O 5∘Zc c2) ?_;rintro _ B⟨⟨a,e2,rfl,p⟩,K⟩;refine(O 12) ?_;have x2:=k.trans K;refine Zi (fun Q=>?_) fun Q=>?_
   .rcases p with⟨rfl,_⟩|⟨j,W⟩
    .exact AK Z Q
    .rw[W]at f;refine(O 6∘BH) ?_;grind
   .rcases p with⟨rfl,j⟩|⟨j,W⟩
    .rw[j]at f;simp only at f;have af:=dJ g u a j
     have c3:Bn prog 208 [Bj a,U (row:H)] B fun v w'=>(∃x,∃e:Y,v=.tuple #[Bj x,U (e:H)]/\((e=0/\row<Aim a/\x=back a row)∨(GQ e/\¬row<Aim a)))/\Bf B w':=
      (ra a row J hr B).mono fun v w'⟨h,x⟩=>by
       refine⟨?_,x⟩;rw[h];by_cases q:row<Aim a
       .grind
       .rw[Ag q];exact⟨[],50,Z,.inr ⟨⟨Bc,Bc⟩,q⟩⟩
     refine(O 5∘Zc c3) ?_;rintro _ w3⟨⟨tx,e3,rfl,o⟩,I⟩;refine(O 12) ?_;have x3:=x2.trans I;refine Zi (fun P=>?_) fun P=>?_
     .rcases o with⟨rfl,_⟩|⟨y,V⟩
      .exact AK Z P
      .rw[Ag V]at f;refine(O 6∘BH) ?_;grind
     .rcases o with⟨rfl,y,rfl⟩|⟨y,V⟩
      .rw[Ai y]at f;have N:Aim (back a row)<=1000000000:=by rw[qZ];omega
       have n:=XN (back a row) 0 [];refine(O 4∘Zc (Aag (back a row) N w3)) ?_;rintro _ w4⟨rfl,G⟩;refine(O 5) ?_;generalize dec 0 [] (back a row)=d at f n;refine(BH) ?_;refine⟨⟨d.1,d.2,Z,?_⟩,x3.trans G⟩;rcases n with z|⟨z1,z2⟩
       .grind
       .rw[Ag J]at f;exact .inr ⟨⟨z1,J⟩,f⟩
      .exact AK (Dm.1 P) (by have:=y.1;omega)
    .exact AK (Dm.1 Q) (by have:=j.1;omega)
  .exact AK (Dm.1 S) (by have:=i.1;omega)
def uU(m:Y)(p0 p1 p2 f:Ah)(w:Ad):CallsDIn Fence.wide m prog 195 #[p0,p1,p2,f] .returning w fun e u' w'=>e=.returned (.tuple #[])/\u'=.returning/\w'=w:=by
 refine callsDIn_of_wpSIn func195 Z AB fun l n h=>?_;have a:recoverD (l::n)=Aa:=by simp[recoverD,h]
 have j:Fr 20 (Ln 0 [p0,p1,p2,f]) { tmps:=#[p0,p1,p2,f]++JW 16 undef,defers:=[] }:=Fr.start [p0,p1,p2,f] 16;refine wpSIn_seq (wpSIn_region ?_);refine Afe (i:=0) (rest:=[1]) Z a ?_;refine bz (j.put Z _) Z (CI Z) ?_;have g:=(j.put (d:=7) Z .nilIface).put (d:=4) Z .nilIface;refine wpSIn_seq (wpSIn_region ?_);refine bz (i:=0) (rest:=[1]) g Z (EX.move Z) ?_;refine bz (i:=1) (rest:=[]) (g.put Z _) Z (pB (fun d=>by simp[Op.equalIn,run_underlying underlying20,Sem.run_bind]) Z) ?_;have k:=((g.put (d:=8) Z .nilIface).put (d:=9) Z (.bool Aj));refine wpSIn_cond (t:=Aj) (k.ev (x:=.tmp 9) Z) ?_;refine wpSIn_of_wpIn Z (wpIn_skip ?_);exact⟨Z,.returning,by rw[<-h],.tuple #[],results_none (by rfl) _ _ _,Z,Z,Z⟩
def UO(d a D:Y)(s:Bg)(p n:Y)(h:n<=64)(g:p+n<=8*Aim s)(j:Aim s<=1000000000)(w:Ad)(k:Bk w d 253 [.pointer (X ⟨a,0,Aa⟩)])(f:RdAt w D a s p):
 Bn prog 196 [U (n:H),.pointer (X ⟨d,0,Aa⟩)] w fun v w'=>v=.int .u64 ((num (BW s p n):Y):H)/\RdAt w' D a s (p+n)/\Tm w w' D IZ:=by
 have e:=MT D a s p n h J J w f;rw[Rb g]at e;refine Bw func196 Z ntmps196 (by rfl) Z ?_;refine(O 8∘Zc e) ?_;rintro _ i⟨rfl,m,l⟩;refine(O 12∘Cd 13∘O 7∘Bu) ?_;grind
def kH(w:Ad):Bn prog 197 [.bool Af] w fun v w'=>v=.tuple #[]/\w=w':=by
 refine Bw func197 Z ntmps197 (by rfl) Z ?_;refine(O 7) ?_;refine KW.done<|HS Z ?_;simp
def uZ(s:Bg)(p:Y)(hp:p+105<=8*Aim s)(hs:Aim s<=1000000000)(h1:num (BW s p 48)=54156738319193)(h2:Co s (p+80)=Aj)(w:Ad):
 Bn prog 159 [Bj s,U (p:H)] w fun v w'=>v=.tuple #[.int .u32 ((num (BW s (p+48) 32):Y):H),U ((num (BW s (p+81) 24):Y):H),U ((p+105:Y):H),U ((0:Y):H)]/\Bf w w':=by
 refine Sa 3 func159 Z ntmps159 Be Z ?_;refine BT<|KR.region<|Jz (l:=[.int .u32 0]) Z Z LO Z ?_;rintro a1 w1 b7 a7 ab;refine Jz (l:=[U 0]) Z Z BU Z ?_;rintro a2 w2 b6 a6 E;refine Jz (l:=[U 0]) Z Z BU Z ?_;rintro a3 w3 b5 a5 y;refine Jz (l:=[U 0]) Z Z VO Z ?_;rintro a4 A b4 bs j;refine OR.nil<|BT<|KR.region<|OR.val Z Z (Gc Z Z)<|qm Z Z Z<|OR.nil<|BT<|KR.region<|OR.val Z Z (EX.move Z)<|OR.val Z Z (EX.move Z) ?_;have x4:=((ab.trans E).trans y).trans j;refine OR.call Z Z Z (Po s p J J A) ?_;rintro _ w5⟨P,rfl,G,a8⟩;refine Jz (l:=[.pointer Aa]) Z Z bd Z ?_;rintro cb w6 b3 bq W;refine JA Z bd Z Z (by first|rfl|assumption|exact Bp.one Cr) (bq) Bl ?_;rintro w7 I bi;refine OR.nil<|BT<|BT<|KR.region ?_;have S:Bf w5 w7:=Bv W bi W.size Bx;have V:=a8.trans S;have bh:=G.ext S;refine OR.val Z Z (Cg underlying253 Z Z (I.cell_of Z))<|OR.val Z Z (by first|exact bY underlying253 Z Z|exact bX underlying253 Z Z)<|OR.nil<|RL Z<|KR.skip<|BT<|KR.region<|OR.val Z Z (Gc Z Z)<|OR.val Z Z (CI Z)<|OR.nil<|BT<|KR.region<|OR.val Z Z (CI Z)<|OR.nil<|BT<|KR.region<|OR.val Z Z (EX.move Z)<|OR.val Z Z (EX.move Z)<|Qn Z Z Z Z Z (UO cb P A.heap.size s p 48 Bc J hs w7 I bh) ?_;rintro _ w8⟨rfl,bf,t8⟩;refine OR.val Z Z (by first|exact Oe (b:=54156738319193) Z Z|exact Of Z Z)<|OR.as 23 (.bool Af) Z (Ar Value.bool (AM (h1)))<|Qn Z Z Z Z Z (kH w8) ?_;rintro _ _⟨rfl,rfl⟩;refine OR.nil<|BT<|KR.region<|OR.val Z Z (EX.move Z) ?_;have z1:=ab.size;have z2:=E.size;have z3:=y.size;have z4:=j.size;have l1:=a7.lt;have l2:=a6.lt;have l3:=a5.lt;have T:Bf A w8:=t8.below V V.size (Bq _);have a0:=t8.bk I Z;have b9:=Kq s (p+48) 32;refine Qn Z Z Z Z Z (UO cb P A.heap.size s (p+48) 32 Bc J hs w8 a0 bf) ?_;rintro _ w9⟨rfl,bc,t9⟩;refine OR.val Z Z (by first|exact LS (m:=4294967295) underlying211 underlying58 Z Z J|exact MY (m:=4294967296) underlying211 underlying58 Z Z Bc|exact EX.convZ underlying211 underlying58 Z) ?_;have h:Bf A w9:=t9.below T T.size (Bq _);have ao:=t9.bk a0 Z;have g:=(((a7.ext E).ext y).ext j).ext h;refine JA Z LO Z Z (by first|rfl|assumption|exact Bp.one Cr) (g) Bl ?_;rintro wa bx e;refine OR.nil<|BT<|KR.region<|OR.val Z Z (EX.move Z)<|OR.val Z Z (EX.move Z) ?_;have al:=ao.mo e (by simpa using ao.ne g Bc);have bb:=bc.tm (Tm.set g e (BD a1)) Z Z
 have b2:num (BW s (p+48+32) 1)=0:=by
  have:=SU (s:=s) (p:=p+48+32) J;rw[Rb J]at this;injection this with this _;rw[this,show p+48+32=p+80 by omega,h2];rfl
 refine Qn Z Z Z Z Z (UO cb P A.heap.size s (p+48+32) 1 Bc J hs wa al bb) ?_;rintro _ wb⟨rfl,ba,L⟩;refine OR.val Z Z (by first|exact Oe (b:=0) Z Z|exact Of Z Z)<|OR.as 31 (.bool Af) Z (Ar Value.bool (AM (b2)))<|Qn Z Z Z Z Z (kH wb) ?_;rintro _ _⟨rfl,rfl⟩;refine OR.nil<|BT<|KR.region<|OR.val Z Z (EX.move Z) ?_;have aj:=L.bk al Z;have ca:=Kq s (p+48+32+1) 24;refine Qn Z Z Z Z Z (UO cb P A.heap.size s (p+48+32+1) 24 Bc J hs wb aj ba) ?_;rintro _ wc⟨rfl,a9,K⟩;refine OR.val Z Z (by first|exact LS (m:=9223372036854775807) underlying211 underlying3 Z Z J|exact EX.convZ underlying211 underlying3 Z) ?_;have ai:=K.bk aj Z;have b8:=(Tm.set g e (BD a1));have t:Bk wc a2 3 [U 0]:=K.bk (L.bk ((((a6.ext y).ext j).ext h).mo e Bx) Z) Z;refine JA Z BU Z Z (by first|rfl|assumption|exact Bp.one Cr) (t) Bl ?_;rintro D f i;refine OR.nil<|BT ?_;replace f:Bk D a2 3 [U ((num (BW s (p+48+32+1) 24):Y):H)]:=f;have x:Bk D a1 58 [.int .u32 ((num (BW s (p+48) 32):Y):H)]:=(K.bk (L.bk bx Z) Z).mo i Bx;have r:=ai.mo i (by simpa using ai.ne t Bc);have C:Bk D a3 3 [U 0]:=(K.bk (L.bk (((a5.ext j).ext h).mo e Bx) Z) Z).mo i Bx;have B:Bk D a4 34 [U 0]:=(K.bk (L.bk ((bs.ext h).mo e Bx) Z) Z).mo i Bx;have G:=a9.tm (Tm.set t i (BD a2)) Z Z;refine cV (N:=8) (fun w'=>Bk w' a1 58 [.int .u32 ((num (BW s (p+48) 32):Y):H)]/\Bk w' a2 3 [U ((num (BW s (p+48+32+1) 24):Y):H)]/\Bk w' cb 253 [.pointer (X ⟨P,0,Aa⟩)]) Be Z ?_;have d:=HZ x.drew (HZ f.drew r.drew);refine(Gv [0,1,2]∘Yc 3 (SS A.heap.size P s _ _ (G.ext (Bf.drew D)))) ?_;rintro _ _⟨rfl,rfl⟩;refine⟨d,fun d=>?_⟩;refine(Yt 4 x.drew) ?_;rintro we bn q;refine⟨⟨bn,d.2.1.mo q Bx,d.2.2.mo q (by simpa using r.ne x Bc)⟩,fun d=>?_⟩;refine(Yt 5 d.2.1) ?_;rintro wf bm o;refine⟨⟨d.1.mo o Bx,bm,d.2.2.mo o (by simpa using r.ne f Bc)⟩,fun d=>?_⟩;have b1:=(C.drew.mo q Bx).mo o Bx;refine(Yt 6 b1) ?_;rintro wg bl n;refine⟨⟨d.1.mo n Bx,d.2.1.mo n Bx,d.2.2.mo n (by simpa using r.ne C Bc)⟩,fun d=>?_⟩;have b0:=((B.drew.mo q Bx).mo o Bx).mo n Bx;refine(Yt 7 b0) ?_;rintro wh bj k;refine⟨⟨d.1.mo k Bx,d.2.1.mo k Bx,d.2.2.mo k (by simpa using r.ne B Bc)⟩,fun d=>?_⟩;refine(Yd) ?_;refine LP ?_;have af:=bl.mo k Bx;refine Ke<|zV func195 Z (.inr Z) Z Z (fun a ha=>Abh Z underlying58 Z underlying3 Z underlying3 Z underlying34 Z Z Z Z Z d.1 d.2.1 af bj a ha) (uU _ _ _ _ _ _) ?_;have xa:Bf w wa:=Bv (x4.trans h) e (x4.trans h).size Bx;have xb:Bf w wb:=L.below xa xa.size x4.size;have xc:Bf w wc:=K.below xb xb.size x4.size;have xd:Bf w D:=Bv xc i xc.size Bx;have Q:=xd.trans (Bf.drew D);have xe:Bf w we:=Bv Q q Q.size Bx;have xf:Bf w wf:=Bv xe o xe.size Bx;have xg:Bf w wg:=Bv xf n xf.size Bx;refine⟨?_,Bv xg k xg.size Bx⟩;rfl
def nK{s:Bg}{p most:Y}{r:Bg×Y×Y}(h:NW s p most=X r):p+105<=8*Aim s/\num (BW s p 48)=54156738319193/\Co s (p+80)=Aj/\∃u q pl q2 l q3,MS s (p+105)=X (u,q)/\MR s q (Aim u+2)=X (pl,q2)/\Ip pl.tabs s (Aim u+1) pl.picks q2 []=X (l,q3)/\JU u l (num (BW s (p+81) 24)) most=X r.1/\Em r.1=num (BW s (p+48) 32)/\r=(r.1,Em r.1,q3):=by
 unfold NW at h;split at h
 .cases h
 split at h
 .cases h
 grind
def XO:∀(l:Bg) (same:Y) (out:Bg),Aim out<=262144->Aim (dec same out l).1<=262144
 |[],same,out,h=>by
  rw[dec];grind
 |x::r,same,out,h=>by
  rw[dec];split
  .split
   .exact BD _
   .exact XO r _ _ Bh
  .split
   .exact BD _
   .exact XO r _ _ Bh
def Aey{u t:Bg}{l:Bi}{row most:Y}(h:JU u l row most=X t):Aim t<=262144:=by
 unfold JU at h;split at h
 .cases h
 split at h
 .cases h
 split at h
 .split at h
  .injection h with h;rw[<-h];exact XO _ _ _ (BD _)
  .cases h
 .cases h
def rG(s:Bg)(p most:Y)(hm:1<=most/\most<=262144)(y:Aim s<=1000000000)(r:Bg×Y×Y)(h:NW s p most=X r)(w:Ad):
 Bn prog 118 [Bj s,U (p:H),U (most:H)] w fun v w'=>v=.tuple #[Bj r.1,.int .u32 ((Em r.1:Y):H),U ((r.2.2:Y):H),U ((0:Y):H)]/\Bf w w':=by
 obtain⟨h1,h2,h3,u,q,k,q2,l,E,e1,e2,e3,e4,e5,e6⟩:=nK h;obtain⟨m1,m2⟩:=hm;obtain⟨f1,f2,f3⟩:=Adu e1;have e7:r.2.2=E:=by rw[e6]
 rw[e7];generalize r.1=t at e4 e5;refine Bw func118 Z ntmps118 (by rfl) Z ?_;refine(O 13)<|Zd 19 (fun c1=>?_) fun c1=>?_
 .omega
 .refine(O 4∘Cd 22∘O 6∘Zc (uZ s p h1 y h2 h3 w)) ?_;rintro _ C⟨rfl,P⟩;refine(O 16∘Cd 32∘O 6) ?_
  have c2:Bn prog 160 [Bj s,U ((p+105:Y):H)] C fun v w'=>v=.tuple #[Bj u,U (q:H),U ((0:Y):H)]/\Bf C w':=(Acv s (p+105) h1 y C).mono fun v w'⟨h,x⟩=>by
   grind
  refine(Zc c2) ?_;rintro _ w2⟨rfl,N⟩;refine(O 14∘Cd 42∘O 9) ?_;have Q:1<=Aim u:=Kg.2 f1.1;refine(Zc (uQ s q (Aim u+2) f3 ⟨J,J⟩ y w2)) ?_;rintro _ B⟨⟨cs,q',e,rfl,g⟩,L⟩;refine(O 4) ?_
  have ab:e=0/\q'=q2/\k.Ok (Aim u+2)/\PlanAt B B.heap.size cs k/\q2<=8*Aim s:=by
   rcases g with⟨a,a0,b,c,d,f⟩|⟨_,b⟩
   .grind
   .grind
  obtain⟨rfl,rfl,ok,o,S⟩:=ab;have n:=o;obtain⟨A1,aj,A2,ai,vs,rfl,_,_,_⟩:=n;refine(Zn) ?_;rintro pb w4 al af m;refine(Zs af) ?_;rintro A j T;refine(O 9) ?_;replace j:Bk A pb 260 [.slice A1 (Aim k.tabs) aj,.slice A2 (Aim k.picks) ai]:=j;have i:Bf B A:=Bv m T m.size Bh;refine(Cd 55∘O 4∘Zv (Cf j)∘O 2∘Zc (get_s k (Aim u+2) ok _ _ s y q' S A (o.ext i) i.size)) ?_;rintro _ w6⟨⟨lv,l',q4,e,rfl,ol,g⟩,K⟩;refine(O 14) ?_
  have W:e=0/\q4=E/\l'=l/\Aim l<=1638350/\(∀x∈l,x<Aim u+2)/\E<=8*Aim s:=by
   rcases g with⟨a,b,c,d,f⟩|⟨_,b⟩
   .grind
   .grind
  obtain⟨rfl,rfl,rfl,a4,a3,a2⟩:=W;obtain⟨Al,cl,rfl,_,D⟩:=ol.sl;have ao:=Kq s (p+81) 24;refine(Cd 66∘O 8∘Zc (Afa u ⟨Q,f2⟩ f1 l' J (fun x hx=>by grind) (num (BW s (p+81) 24)) most J m2 Al cl _ w6 D)) ?_;rintro _ w7⟨⟨t',e,rfl,g⟩,I⟩;refine(O 8) ?_
  have V:e=0/\t'=t:=by
   rcases g with⟨a,b⟩|⟨_,b⟩
   .grind
   .grind
  obtain⟨rfl,rfl⟩:=V;have a1:=Aey e4;refine(O 4∘Zoa 78 (e:=Z)∘O 1∘Zc (Uq t' J w7)) ?_;rintro _ w8⟨rfl,G⟩;refine(O 4∘Cd 83 (e:=by exact fun z=>z e5)∘O 8∘Cd 85∘O 12) ?_;refine Gd<|ret4 Z Z Z Z Z ?_;rw[e5];exact⟨Z,((((((P.trans N).trans L).trans i).trans K).trans I).trans G)⟩
def ng(s:Bg)(p n:Y)(j:n<=64)(i:p+n<=8*Aim s)(l:Aim s<=1000000000)(w:Ad):
 Bn prog 117 [Bj s,U (p:H),U (n:H)] w fun v w'=>v=.tuple #[.int .u64 ((num (BW s p n):Y):H),U ((0:Y):H)]/\Bf w w':=by
 refine Bw func117 Z ntmps117 (by rfl) Z ?_;refine(O 9∘Zc (Po s p J J w)) ?_;rintro _ f⟨h,rfl,d,a⟩;refine(O 6) ?_;have e:=MT w.heap.size h s p n j J J f d;rw[Rb i]at e;refine(Zc e) ?_;rintro _ k⟨rfl,_,g⟩;refine(O 5∘BH) ?_;exact⟨Z,g.below a a.size (Bq _)⟩
def mu(k:Y)(hk:k<=100)(w:Ad):Bn prog 119 [U (k:H)] w fun v w'=>v=U ((min (k*100000) 262144:Y):H)/\w=w':=by
 refine Bw func119 Z ntmps119 (by rfl) Z ?_;refine(O 11∘Bu) ?_;simp
def bGetD{s:Bg}{i:Y}(h:i<Aim s):s.getD i 0=s[i]:=by
 grind
def jk{s:Bg}{p k:Y}(h:Bz.headT s p=X k):p+4<=Aim s/\s.getD p 0=66/\s.getD (p+1) 0=90/\s.getD (p+2) 0=104/\(s.getD (p+3) 0).toNat=k+48/\1<=k/\k<=9:=by
 unfold Bz.headT at h;grind
def Abw(s:Bg)(p k:Y)(r:Aim s<=1000000000)(h:Bz.headT s p=X k)(w:Ad):
 Bn prog 116 [Bj s,U (p:H)] w fun v w'=>v=.tuple #[U (k:H),U ((0:Y):H)]/\w=w':=by
 obtain⟨A,n,l,j,g,y,x⟩:=jk h;rw[bGetD J]at n l j g;refine Bw func116 Z ntmps116 (by rfl) Z ?_;refine(O 11)<|Lo (fun(i:Y)=>(i<=4,[(0,Bj (s)),(1,U p),(8,U i)],w,4-i)) 0 ?_ ?_
 .simp
 .rintro i t;refine(O 5)<|Zi (fun f=>?_) fun f=>?_
  .refine(O 18∘Cd 16∘O 12) ?_
   have a:i=0/\s[p+i]=66∨i=1/\s[p+i]=90∨i=2/\s[p+i]=104∨i=3/\(s[p+i]).toNat=k+48:=by
    rcases(by omega:i=0∨i=1∨i=2∨i=3)with rfl|rfl|rfl|rfl
    .grind
    .grind
    .grind
    .omega
   generalize s[p+i]=c at a;refine(O 4)<|Zd 24 (fun o=>?_) fun o=>?_
   .have d:c=([66,90,104]:Bg)[i]:=by
     rcases a with⟨rfl,q⟩|⟨rfl,q⟩|⟨rfl,q⟩|⟨rfl,q⟩
     .exact q
     .exact q
     .exact q
     .omega
    refine(O 2∘Zv (by exact EW (s:=[66,90,104]) underlying9 Z Z (BN J))∘O 3∘Ig 30 (e:=by exact fun h=>h (by rw[d]))∘O 3∘Ig 33∘O 16)<|Lb (i+1) ?_;omega
   .obtain rfl:i=3:=J
    have d:c.toNat=k+48:=by
     rcases a with⟨q,_⟩|⟨q,_⟩|⟨q,_⟩|⟨_,q⟩
     .omega
     .omega
     .omega
     .exact q
    refine(O 9∘Zoa 33 (e:=Z)∘O 3∘Ig 36∘O 6∘Cd 41∘O 7)<|Lb 4 ?_;omega
  .refine(O 7∘Zv (by exact Kb (b:=48) (m:=255) Z Z Z J)∘O 4∘BH) ?_;grind
abbrev Nu(s:Bg):={x:Bg//x=s/\x≠[]}
abbrev Oq(s:Bg):=Ae (Nu s)
def KG(s:Bg):Oq s:=if h:s=[]then[]else[⟨s,Z,h⟩]
def vI(f i most:Y)(s:Bg)(P:2*Aim s<=most)(hm:most<=1000000000)(w:Ad)(B:Bk w f 9 [Bj s])(T:Bk w i 3 [U (most:H)]):
 SeqM 2 prog 170 [.pointer (X ⟨f,0,Aa⟩),.pointer (X ⟨i,0,Aa⟩)] (fun x:Nu s=>[Bj x.1]) [f] (fun W=>Bk W i 3 [U (most:H)]) (fun xs=>xs=KG s) (fun pre=>True) 1 w:=fun l g Jx W hW L ai K hY h0=>by
 have af:Bk W f 9 [Bj s]:=B.ext hW
 have k:Bn prog 170 [.func (.yield l) #[] #[],.pointer (X ⟨f,0,Aa⟩),.pointer (X ⟨i,0,Aa⟩)] W fun v W'=>(∃xs,xs=KG s/\g xs W')∨(∃pre,True/\Jx pre W'):=by
  refine Sa 2 func170 Z ntmps170 (by rfl) Z ?_;refine KR.block<|pU (fun(q:(Bg)) (pre:(Oq s)) (wr:Ad)=>g pre wr/\Bk wr f 9 [Bj q]/\(pre=[]/\q=s∨pre=KG s/\q=[])) (fun(q:(Bg)) (pre:(Oq s)) (wr:Ad)=>[(0,.func (.yield l) #[] #[]),(1,.pointer (X ⟨f,0,Aa⟩)),(2,.pointer (X ⟨i,0,Aa⟩))]) (fun(q:(Bg)) (pre:(Oq s)) (wr:Ad)=>wr) (fun(q:(Bg)) (pre:(Oq s)) (wr:Ad)=>Aim q) (s) ([]) (W) ⟨Z,Z,Z,AB⟩ Z ?_ ?_
  .grind
  .rintro q pre wr⟨p,I,hc⟩;have hG:=K pre wr p;refine BT<|BT<|KR.region<|OR.val Z Z (Cg underlying9 Z Z (I.cell_of Z))<|OR.val Z Z (Nc (r:=[]) Z Z)<|OR.nil<|LW Z (fun a=>?_) (fun a=>?_)
   .obtain⟨rfl,rfl⟩:pre=[]/\q=s:=by
     grind
    have C:KG q=[⟨q,Z,a⟩]:=dif_neg a;have Q:1<=Aim q:=Kg.2 a;refine KR.skip<|KR.block<|BT<|KR.region<|OR.val Z Z (Cg underlying9 Z Z (I.cell_of Z))<|OR.val Z Z (Cg underlying3 Z Z (hG.cell_of Z))<|OR.call Z Z Z (fit_s q most P hm wr) ?_;rintro _ t⟨rfl,j⟩;refine OR.val Z Z (CI Z)<|OR.nil<|BT<|BT ?_;have n:=I.ext j;have G:g [] t:=L _ _ _ p (Mo.Age j _)
    have A:∀(x:Nu q) (h:Ad),g [] h->Ug prog 1 l [Bj x.1] h fun v W'=>∃b,v=.bool b/\((b=Af/\g [x] W'/\W'.heap[f]? =h.heap[f]?)∨(b=Aj/\Jx [x] W')):=fun x h E=>
     YieldAt.mono (hY [] x h E Nat.one_pos) (by
      grind)
    refine KR.region<|OR.val Z Z (EX.move Z)<|OR.val Z Z (by first|exact Oi (b:=1) Z Z|exact Oj Z Z)<|OR.val Z Z (EX.move Z)<|OR.as 12 (.bool Aj) Z (Ar Value.bool (AN J))<|OR.val Z Z (EX.move Z)<|OR.val Z Z (Cg underlying9 Z Z (n.cell_of Z))<|OR.val Z Z (EX.move Z)<|OR.val Z Z (Ka underlying9 Z Z J) ?_;have d:q.take (Aim q)=q:=DA (Bq _);refine WS Z Z Z Z Z (A ⟨q.take (Aim q),d,by rw[d];exact a⟩ t G) ?_;rintro _ o⟨y,rfl,hv⟩;refine OR.val Z Z (by first|exact TA Z|exact Tz Z)<|OR.val Z Z (Jp Z Z)<|OR.nil ?_;rcases y with _|_
    .obtain⟨_,hjz⟩:Aj=Aj/\Jx [⟨q.take (Aim q),d,by rw[d];exact a⟩] o:=by
      grind
     refine PZ Z<|Ke<|SY (.inr Z) Z Z Z ?_;grind
    .obtain⟨_,hjz,hkz⟩:Af=Af/\g [⟨q.take (Aim q),d,by rw[d];exact a⟩] o/\o.heap[f]? =t.heap[f]?:=by
      grind
     have m:Bk o f 9 [Bj q]:=n.of_block hkz;refine RL Z<|KR.skip<|KR.region<|OR.val Z Z (Cg underlying9 Z Z (m.cell_of Z))<|OR.val Z Z (EX.move Z)<|OR.val Z Z (Nd underlying9 Z Z J)<|JA Z Gs Z Z (by rfl) (m) (Bq _) ?_;rintro N ab D;refine OR.nil<|KV<|pP ([]) ([⟨q,Z,a⟩]) (N) ⟨Z,Z,Z,AB⟩ Z ?_ Bh;refine⟨L _ _ _ Bh D,?_,.inr ⟨C.symm,Z⟩⟩;grind
   .obtain rfl:q=[]:=Dm.1 a;refine Qa Z<|KR.done<|SY (.inl Z) Z Z Z ?_;refine .inl ⟨KG s,Z,?_⟩;rcases hc with⟨rfl,rfl⟩|⟨rfl,_⟩
    .exact p
    .exact p
 exact callsIn_wide.2 (k.2.mono fun e W'⟨v,V,S⟩=>⟨⟨v,V⟩,S⟩)
def yN(s:Bg)(most:Y)(w:Ad):Bn prog 130 [Bj s,U (most:H)] w fun v w'=>∃sb mb,v=.func (.func 170) #[] #[.pointer (X ⟨sb,0,Aa⟩),.pointer (X ⟨mb,0,Aa⟩)]/\w.heap.size<=sb/\w.heap.size<=mb/\Bk w' sb 9 [Bj s]/\Bk w' mb 3 [U (most:H)]/\Bf w w':=by
 refine Bw func130 Z ntmps130 (by rfl) Z ?_;refine(O 2) ?_;refine Mh Z Z Z Z ?_;rintro sb j f h d;refine Mh Z Z Z Z ?_;rintro mb i e g a;refine(O 4∘Zv (by exact Gc Z Z)∘O 2∘Bu) ?_;exact⟨sb,mb,Z,f,BF d.size e,h.ext a,g,d.trans a⟩
end
section
open Pth
def Dd(l:Cl):Bm:=l.map fun s=>Bj s
def Aer(l:Cl):Aim (Dd l)=Aim l:=by simp[Dd]
def bv(l:Cl)(x:Bg):Dd (l++[x])=Dd l++[Bj x]:=by simp[Dd]
def jE(A:Av AC)(c:Y)(l:Cl)(B:Y)(w:Ad)(f:Sl w B A (Dd l))(y:B<=w.heap.size)(t:Aim l<=c)(hl:wt l<=140737488355328):
 Bn prog 126 [.slice A (Aim l) c,Bj [47]] w fun v w'=>v=Bj (Is l)/\Bf w w':=by
 have i:(!(f126.name== "runtime.NumGoroutine") && f126.body.isSome)=Af:=Be;by_cases m:l=[]
 .subst m;refine(GY func126 i ((Tryz.strings_Join_none A c ⟨#[47]⟩ w).mono (fun e w' h=>⟨h.1,(show Bf w w' by rw[h.2];exact Bf.refl _)⟩))).mono ?_;rintro v w'⟨rfl,n⟩;exact⟨Z,n⟩
 .rcases f with f|⟨bk,o,rfl,p,g⟩
  .exact AK (by simpa[Dd]using f) m
  .have a:(l.map fun s=>(⟨s.toArray⟩:ByteArray)).map (·.data.toList)=l:=by
    rw[EE];exact List.map_id l
   have d:Aim (l.map fun s=>(⟨s.toArray⟩:ByteArray))=Aim l:=Bl
   have h:=Tryz.strings_Join bk o c (l.map fun s=>(⟨s.toArray⟩:ByteArray)) ⟨#[47]⟩ w (fun j x k=>by
    have:(Dd l)[j]? =X (.string x):=by
     simp only[Dd,DP]at k ⊢;obtain⟨s,r,rfl⟩:=Nq.1 k;rw[r];rfl
    grind) J (by rw[d];have:=VV l;omega) J (by rw[a];show Aim (Go.Lib.join l [47])<=_;rw[YU];have:=jD l;omega)
   rw[a,d]at h;have e:Go.Lib.join l (⟨#[47]⟩:ByteArray).data.toList=Is l:=YU l;rw[e]at h;refine(GY func126 i (h.mono (fun e w' q=>q))).mono ?_;simp
def KpS(sb:Y)(W W':Ad):Prop:=W'.heap[sb]? =W.heap[sb]?
def lC{s:Bg}{i a:Y}(h:i<=Aim s)(hf:a<=i):s.drop a=(s.drop a).take (i-a)++s.drop i:=by
 have:=Ho (i-a) (s.drop a);simp_all
def vJ(d:Y)(s:Bg)(hs:Aim s<=1000000000000)(w:Ad)(D:Bk w d 9 [Bj s]):
 SeqStopsK Fence.wide 2 prog 125 [Value.pointer (X ⟨d,0,Aa⟩)].toArray (fun x=>#[Bj x]) (KpS d) (fun xs=>xs=BO s) (fun pre=>pre<+:BO s) (Aim s+1) w:=fun l r Jx W hW hJ af hY h0=>by
 have ab:Bk W d 9 [Bj s]:=D.ext hW
 have A:Bn prog 125 [.func (.yield l) #[] #[],.pointer (X ⟨d,0,Aa⟩)] W fun v W'=>(∃xs,xs=BO s/\r xs W')∨(∃pre,pre<+:BO s/\Jx pre W'):=by
  have V:Aim (BO s)<=Aim s+1:=by have:=VV (BO s);rw[Tt]at this;exact this
  refine Sa 2 func125 Z ntmps125 (by rfl) Z ?_;refine BT<|KR.region<|OR.val Z Z (CI Z)<|OR.nil<|BT<|KR.region<|OR.val Z Z (CI Z)<|OR.nil<|KR.block<|pV (fun(i:Y) (a:Y) (pre:Cl) (wr:Ad)=>i<=Aim s+1/\a<=i/\(i<=Aim s->BO s=pre++BO (s.drop a)/\∀c∈(s.drop a).take (i-a),c≠47)/\(i=Aim s+1->pre=BO s)/\r pre wr/\Bk wr d 9 [Bj s]) (fun(i:Y) (a:Y) (pre:Cl) (wr:Ad)=>[(0,.func (.yield l) #[] #[]),(1,.pointer (X ⟨d,0,Aa⟩)),(3,U a),(4,U i)]) (fun(i:Y) (a:Y) (pre:Cl) (wr:Ad)=>wr) (fun(i:Y) (a:Y) (pre:Cl) (wr:Ad)=>Aim s+1-i) (0) (0) ([]) (W) ⟨Z,Z,Z,Z,AB⟩ Z ?_ ?_
  .grind
  .rintro i a pre wr⟨hi,N,hp,P,L,n⟩;refine BT<|BT<|KR.region<|OR.val Z Z (EX.move Z)<|OR.val Z Z (Cg underlying9 Z Z (n.cell_of Z))<|OR.val Z Z (Na underlying9 Z)<|OR.val Z Z (by first|exact bZ Z Z|exact ci Z Z)<|OR.nil<|LW Z (fun k=>?_) (fun k=>?_)
   .obtain⟨j,o⟩:=hp k
    have B:Aim pre<Aim s+1:=by
     have h1:=Kg.2 (Vi (s.drop a));have h2:=Ar DW j;rw[BA]at h2;omega
    have t:∀x:Bg,Ug prog 1 l [Bj x] wr fun v W'=>∃b,v=.bool b/\((b=Af/\r (pre++[x]) W'/\KpS d wr W')∨(b=Aj/\Jx (pre++[x]) W')):=fun x=>
     YieldAt.mono (hY pre x wr L B) (by
      grind)
    refine KR.skip<|BT<|KR.block<|BT<|KR.region<|OR.val Z Z (EX.move Z)<|OR.val Z Z (Cg underlying9 Z Z (n.cell_of Z))<|OR.val Z Z (Na underlying9 Z)<|OR.val Z Z (by first|exact Oe Z Z|exact Of Z Z)<|OR.val Z Z (EX.move Z)<|Qo 15 Z (fun G=>?_) (fun G=>?_)
    .have E:BO s=pre++[(s.drop a).take (i-a)]:=by
      have e:(s.drop a).take (i-a)=s.drop a:=DA Bh;rw[e]at o ⊢;rw[j,ZS _ o]
     refine Hr Z Z<|Hr Z Z<|Hr Z Z<|Hr Z Z<|OR.val Z Z (Om Z Z)<|OR.nil<|PZ Z<|BT<|BT<|KR.region<|OR.val Z Z (EX.move Z)<|OR.val Z Z (Cg underlying9 Z Z (n.cell_of Z))<|OR.val Z Z (EX.move Z)<|OR.val Z Z (EX.move Z)<|OR.val Z Z (Oo underlying9 Z Z Z J)<|WS Z Z Z Z Z (t _) ?_;rintro _ f⟨y,rfl,S⟩;refine OR.val Z Z (by first|exact TA Z|exact Tz Z)<|OR.nil<|RJ Z (fun C=>?_) (fun C=>?_)
     .obtain⟨rfl,hj1⟩:y=Aj/\Jx (pre++[(s.drop a).take (i-a)]) f:=by
       grind
      refine Ke<|SY (.inr Z) Z Z Z ?_;grind
     .obtain⟨rfl,hj1,hk⟩:y=Af/\r (pre++[(s.drop a).take (i-a)]) f/\KpS d wr f:=by
       grind
      refine KR.skip<|KR.region<|OR.val Z Z (EX.move Z)<|OR.val Z Z (by first|exact JX (b:=1) (m:=9223372036854775807) Z Z Z J|exact JZ (m:=9223372036854775807) Z Z Z Z J)<|OR.val Z Z (CI Z)<|OR.nil<|KV<|KR.region<|OR.val Z Z (EX.move Z)<|OR.val Z Z (by first|exact JX (b:=1) (m:=9223372036854775807) Z Z Z J|exact JZ (m:=9223372036854775807) Z Z Z Z J)<|OR.val Z Z (CI Z)<|OR.nil ?_;have K:Bk f d 9 [Bj s]:=n.of_block hk;refine Wp (i+1) (i+1) (pre++[(s.drop a).take (i-a)]) (f) ⟨Z,Z,Z,Z,AB⟩ Z ?_ J;grind
    .skip
     refine OR.val Z Z (Cg underlying9 Z Z (n.cell_of Z))<|OR.val Z Z (EX.move Z)<|OR.val Z Z (EW underlying9 Z Z (BN J))<|OR.val Z Z (by first|exact Oe (b:=47) Z Z|exact Of Z Z)<|OR.val Z Z (Jp Z Z)<|OR.nil<|LW Z (fun I=>?_) (fun I=>?_)
     .refine BT<|BT<|KR.region<|OR.val Z Z (EX.move Z)<|OR.val Z Z (Cg underlying9 Z Z (n.cell_of Z))<|OR.val Z Z (EX.move Z)<|OR.val Z Z (EX.move Z)<|OR.val Z Z (Oo underlying9 Z Z Z J) ?_;have p:i<Aim s:=J
      have Q:s.drop i=47::s.drop (i+1):=by
       rw[Ds p];congr 1;exact Ll.1 I
      have E:BO s=(pre++[(s.drop a).take (i-a)])++BO (s.drop (i+1)):=by
       rw[j,lC k N,Q,ZR _ _ o,<-Q,<-lC k N];simp
      refine WS Z Z Z Z Z (t _) ?_;rintro _ f⟨y,rfl,S⟩;refine OR.val Z Z (by first|exact TA Z|exact Tz Z)<|OR.nil<|RJ Z (fun C=>?_) (fun C=>?_)
      .obtain⟨rfl,hj1⟩:y=Aj/\Jx (pre++[(s.drop a).take (i-a)]) f:=by
        grind
       refine Ke<|SY (.inr Z) Z Z Z ?_;grind
      .obtain⟨rfl,hj1,hk⟩:y=Af/\r (pre++[(s.drop a).take (i-a)]) f/\KpS d wr f:=by
        grind
       refine KR.skip<|KR.region<|OR.val Z Z (EX.move Z)<|OR.val Z Z (by first|exact JX (b:=1) (m:=9223372036854775807) Z Z Z J|exact JZ (m:=9223372036854775807) Z Z Z Z J)<|OR.val Z Z (CI Z)<|OR.nil<|KV<|KR.region<|OR.val Z Z (EX.move Z)<|OR.val Z Z (by first|exact JX (b:=1) (m:=9223372036854775807) Z Z Z J|exact JZ (m:=9223372036854775807) Z Z Z Z J)<|OR.val Z Z (CI Z)<|OR.nil ?_;have K:Bk f d 9 [Bj s]:=n.of_block hk;refine Wp (i+1) (i+1) (pre++[(s.drop a).take (i-a)]) (f) ⟨Z,Z,Z,Z,AB⟩ Z ?_ J;grind
     .have p:i<Aim s:=J;refine KR.skip<|KV<|KR.region<|OR.val Z Z (EX.move Z)<|OR.val Z Z (by first|exact JX (b:=1) (m:=9223372036854775807) Z Z Z J|exact JZ (m:=9223372036854775807) Z Z Z Z J)<|OR.val Z Z (CI Z)<|OR.nil<|Wp (i+1) (a) (pre) (wr) ⟨Z,Z,Z,Z,AB⟩ Z ?_ J;refine⟨J,J,fun _=>⟨j,?_⟩,fun h=>by omega,L,n⟩
      have e:(s.drop a).take (i+1-a)=(s.drop a).take (i-a)++[s[i]]:=by
       rw[show i+1-a=i-a+1 by omega,Me,TL,show a+(i-a)=i by omega,BN p];rfl
      rw[e];intro c g;rcases Dz.1 g with g|g
      .grind
      .simp only[CG]at g;subst g;exact fun q=>I (by simp_all)
   .obtain rfl:i=Aim s+1:=J;refine Qa Z<|KR.done<|SY (.inl Z) Z Z Z ?_;grind
 exact callsIn_wide.2 (A.2.mono fun e W'⟨v,G,T⟩=>⟨⟨v,G⟩,T⟩)
def Bk.isCells{w:Ad}{b:Y}{T:Ay}{l:Bm}(h:Bk w b T l):∃o:Obj,w.heap[b]? =X o/\o.isCells=Af:=by
 obtain⟨a,h,_⟩:=h;exact⟨_,h,Z⟩
def Bk.Agj{A B:Ad}{row:Av Y}{C b:Y}{T:Ay}{l:Bm}(h:Bk A b T l)(hg:A.grownBy B row)(hr:∀r,row=X r->C<=r/\∃o:Obj,A.heap[r]? =X o/\o.isCells=Aj):Bk B b T l:=
 h.of_block (hg.block b h.lt fun e=>by
  obtain⟨_,o,ho,hn⟩:=hr b e.symm;obtain⟨o',ho',hc⟩:=h.isCells;grind)
def Bp.Agj{A B:Ad}{row:Av Y}{C B0 s n:Y}{T:Ay}{v:Ah}{xs:Bm}(h:Bp A B0 T s v n xs)(hg:A.grownBy B row)(hr:∀r,row=X r->C<=r/\∃o:Obj,A.heap[r]? =X o/\o.isCells=Aj):Bp B B0 T s v n xs:=
 h.Agr fun k hk=>by
  obtain⟨_,l,hb⟩:=h.blkT k hk;refine hg.block k hb.lt fun e=>?_;obtain⟨_,o,ho,hn⟩:=hr k e.symm;obtain⟨o',ho',hc⟩:=hb.isCells;grind
def Bf.Agj{w A B:Ad}{row:Av Y}{C:Y}(h:Bf w A)(hC:w.heap.size<=C)(hg:A.grownBy B row)(hr:∀r,row=X r->C<=r/\∃o:Obj,A.heap[r]? =X o/\o.isCells=Aj):Bf w B:=
 h.grown hg fun k e=>BF hC (hr k e).1
def Mo.keeps{w w':Ad}{S:Bi}(h:Mo w w' S)(hS:∀k∈S,∃T l,Bk w k T l):KeepsOthers w w':=
 ⟨h.size,fun k o hk ho=>by
  refine(h.block k (LR.1 hk).1 fun hm=>?_).trans hk;obtain⟨T,l,hb⟩:=hS k hm;obtain⟨o',ho',hc⟩:=hb.isCells;grind⟩
def rS(s:Bg)(hs:Aim s<=1000000000000)(w:Ad):Bn prog 98 [Bj s] w fun v w'=>v=.tuple #[Bj (GF s).1,U (((GF s).2:Y):H)]/\Bf w w':=by
 refine Sa 3 func98 Z ntmps98 Be Z ?_;refine BT<|KR.region<|qj Z Z Z Z ?_;rintro N C cb y a;refine OR.val Z Z (CI Z)<|OR.val Z Z (CI Z)<|OR.nil<|KR.scope (fun _ _ _ h=>h)<|BT<|KR.region<|dm 0 Z Z underlying97 Gs Z Z Z Z (by rfl) Bc ?_;rintro gb w2 bq ai t;refine Jz (l:=[.slice Aa 0 0]) Z Z VQ Z ?_;rintro ob w3 ca bc L;have cd:C.heap.size<=ob:=by have:=t.size;omega
 refine JA Z VQ Z Z (by first|rfl|assumption|exact Bp.one Cr) (bc) Bl ?_;rintro w4 ba bh;refine OR.nil<|BT<|KR.region<|OR.val Z Z (Gc Z Z)<|OR.val Z Z (CI Z)<|OR.nil<|BT<|BT<|KR.region ?_;simp only[IN]at ba
 have a8:Bp w4 C.heap.size 9 1 (.slice (X ⟨gb,0,Aa⟩) 0 0) 0 (Dd []):=((Bp.Agf (l:=[]) ai bq Z Bc).ext L).mo bh (fun k j=>by
  have:=(ai.ext L).ne bc Bc;simp[Value.ownBlock]at j;grind)
 have K:Bf C w4:=Bv (t.trans L) bh (t.trans L).size (fun k j=>by grind);have a6:Bk w4 N 9 [Bj s]:=y.ext K;refine OR.val Z Z (Cg underlying9 Z Z (a6.cell_of Z))<|OR.val Z Z (Na underlying9 Z)<|OR.val Z Z (EX.move Z)<|OR.nil<|KR.block<|pT (fun(i:Y)=>i<=Aim s/\∀c∈s.take i,32<=c.toNat/\c.toNat<=126) (fun(i:Y)=>[(1,.pointer (X ⟨N,0,Aa⟩)),(4,.pointer (X ⟨ob,0,Aa⟩)),(5,.func (.func 125) #[] #[.pointer (X ⟨N,0,Aa⟩)]),(13,U ((Aim s:Y):H)),(14,U i)]) (fun(i:Y)=>w4) (fun(i:Y)=>Aim s-i) (0) ⟨Z,Z,Z,Z,Z,AB⟩ Z ?_ ?_
 .simp
 .rintro i⟨hi,bn⟩;refine BT<|KR.region<|OR.val Z Z (by first|exact Oi Z Z|exact Oj Z Z)<|OR.nil<|BT<|LW Z (fun bi=>?_) (fun bi=>?_)
  .have a1:¬(32<=s[i].toNat/\s[i].toNat<=126)->GF s=([],140):=fun h=>by
    unfold GF;rw[Ag];rintro⟨d,_⟩;exact h (d _ (BM bi))
   refine KR.skip<|BT<|KR.block<|BT<|KR.region<|OR.val Z Z (EX.move Z)<|OR.val Z Z (CI Z)<|OR.nil<|BT<|KR.region<|OR.val Z Z (Cg underlying9 Z Z (a6.cell_of Z))<|OR.val Z Z (EX.move Z)<|OR.val Z Z (EW underlying9 Z Z (BN J))<|OR.val Z Z (by first|exact Oi (b:=32) Z Z|exact Oj Z Z)<|OR.val Z Z (EX.move Z)<|Qo 21 Z (fun d=>?_) (fun d=>?_)
   .refine Hr Z Z<|Hr Z Z<|Hr Z Z<|Hr Z Z<|OR.val Z Z (Om Z Z)<|OR.nil<|PZ Z<|BT<|KR.region<|OR.val Z Z (CI Z)<|OR.val Z Z (CI Z)<|OR.nil<|Ke<|mg (.inr Z) Z Z Z Z Z ?_;rw[a1 J];exact⟨Z,a.trans K⟩
   .skip
    refine OR.val Z Z (Cg underlying9 Z Z (a6.cell_of Z))<|OR.val Z Z (EX.move Z)<|OR.val Z Z (EW underlying9 Z Z (BN J))<|OR.val Z Z (by first|exact Og (b:=126) Z Z|exact Oh Z Z)<|OR.val Z Z (Jp Z Z)<|OR.nil<|LW Z (fun g=>?_) (fun g=>?_)
    .refine BT<|KR.region<|OR.val Z Z (CI Z)<|OR.val Z Z (CI Z)<|OR.nil<|Ke<|mg (.inr Z) Z Z Z Z Z ?_;rw[a1 J];exact⟨Z,a.trans K⟩
    .refine KR.skip<|KV<|KR.region<|OR.val Z Z (by first|exact JX (b:=1) (m:=9223372036854775807) Z Z Z J|exact JZ (m:=9223372036854775807) Z Z Z Z J)<|OR.val Z Z (EX.move Z)<|OR.nil<|pO (i+1) ⟨Z,Z,Z,Z,Z,AB⟩ Z ?_ J;refine⟨J,fun c hc=>?_⟩;rw[Me,BN bi]at hc;grind
  .have bx:fits s:=by
    rw[DA J]at bn;exact bn
   refine Qa Z<|BT<|KR.region<|Jz (l:=[.bool Aj]) Z Z ti4 Z ?_;rintro bb w5 b9 bj I;have cg:C.heap.size<=bb:=by have:=K.size;omega
   refine JA Z ti4 Z Z (by first|rfl|assumption|exact Bp.one Cr) (bj) Bl ?_;rintro w6 b0 bf;refine OR.nil<|BT<|pR<|BT<|BT<|KR.region<|OR.val Z Z (EX.move Z)<|OR.nil<|KR.block ?_;simp only[IN]at b0;have p:Bf C w6:=Bv (K.trans I) bf (K.trans I).size (fun k j=>by grind);have b4:Bk w6 ob 97 [.slice (X ⟨gb,0,Aa⟩) 0 0]:=(ba.ext I).mo bf (by simp;exact(ba.ext I).ne bj Bc)
   have a7:Bp w6 C.heap.size 9 1 (.slice (X ⟨gb,0,Aa⟩) 0 0) 0 (Dd []):=(a8.ext I).mo bf (fun k j=>by
    have:=((ai.ext L).mo bh (by simp;exact(ai.ext L).ne bc Bc)).ext I|>.ne bj Bc
    simp[Value.ownBlock]at j;grind)
   have b6:N<w6.heap.size:=by have:=y.lt;have:=p.size;omega
   refine pX Z (Nat.le_add_left _ _) func125 Be Z Z Z (fun _ _=>rfl) Bl (vJ N s hs w6 (y.ext p)) (fun h k=>k.trans h) (fun W l o o' hl h _ _=>World.putObj_heap_other J) (fun pre W=>∃v,Bk W ob 97 [v]/\Bp W C.heap.size 9 1 v (Aim (kept pre)) (Dd (kept pre))/\Bk W bb 4 [.bool Aj]/\Bf C W/\dd∉pre) (fun c pre W=>∃p0,c=.exit 2/\pre=p0++[dd]/\∃v,Bk W ob 97 [v]/\Bp W C.heap.size 9 1 v (Aim (kept p0)) (Dd (kept p0))/\Bk W bb 4 [.bool Af]/\Bf C W) (fun pre A B b2 h hg S=>let ⟨v,d,g,G,E,h5⟩:=h;⟨v,d.Agj hg S,g.Agj hg S,G.Agj hg S,E.Agj p.size hg S,h5⟩) (fun c pre A B b2 h hg S=>let ⟨p0,e1,e2,v,d,g,G,E⟩:=h;⟨p0,e1,e2,v,d.Agj hg S,g.Agj hg S,G.Agj hg S,E.Agj p.size hg S⟩) (⟨_,b4,a7,b0,p,Bl⟩) ?_ ?_ ?_
   .rintro l pre x W⟨v,d,g,G,E,h5⟩b8;have cc:Bk W N 9 [Bj s]:=y.ext E;have cf:Aim (kept pre)<=Aim pre:=List.length_filter_le _ _
    have aj:Pc x=Aj->x≠dd->(KeepsOthers W W/\KpS N W W/\∃v,Bk W ob 97 [v]/\Bp W C.heap.size 9 1 v (Aim (kept (pre++[x]))) (Dd (kept (pre++[x])))/\Bk W bb 4 [.bool Aj]/\Bf C W/\dd∉pre++[x]):=fun j hd=>by
     rw[jF,j,Ag Bl];exact⟨KeepsOthers.refl W,Z,v,d,g,G,E,Bh⟩
    refine KR.block<|BT<|BT<|KR.region<|OR.val Z Z (EX.move Z)<|OR.nil<|KR.block<|BT<|BT<|KR.region<|OR.val Z Z (HD (r:=[]) Z Z)<|OR.val Z Z (CI Z)<|OR.nil<|LW Z (fun Q=>?_) (fun Q=>?_)
    .refine KR.as 31 (.bool Af) Z (Ar Value.bool (AM (Q)))<|KR.skip<|PZ Z<|Qa Z<|KR.done ?_;exact fun _ _=>aj (by rw[Q];rfl) (by rw[Q];decide)
    .refine KR.region<|OR.val Z Z (HD (r:=[46]) Z Z)<|OR.val Z Z (CI Z)<|OR.nil<|LW Z (fun a=>?_) (fun a=>?_)
     .refine Qa Z<|KR.done ?_;exact fun _ _=>aj (by rw[a];rfl) (by rw[a];decide)
     .refine BT<|KR.region<|OR.val Z Z (HD (r:=[46,46]) Z Z)<|OR.val Z Z (CI Z)<|OR.nil<|LW Z (fun t=>?_) (fun t=>?_)
      .refine BT<|KR.region<|JA Z ti4 Z Z (by first|rfl|assumption|exact Bp.one Cr) (G) Bl ?_;rintro W2 b1 f;refine OR.nil<|pQ Z ?_;simp only[IN]at b1;exact fun _ _=>⟨f.keeps (fun k j=>by grind),pre,Z,by rw[t];rfl,v,d.mo f (by simp;exact d.ne G Bc),g.mo f (fun k j=>by simp;exact fun q=>g.ne G Bc k j q.symm),b1,Bv E f E.size (fun k j=>by grind)⟩
      .have b5:Pc x=Af:=by simp[Pc,Q,a]
       refine KR.skip<|KV<|KR.region<|OR.val Z Z (Cg underlying97 Z Z (d.cell_of Z))<|OR.val Z Z (EX.move Z)<|OR.push Z Z (fun _=>rfl) Z underlying97 Gs Z Z (fun _=>rfl) Z (E) (g) CE J ?_;rintro _ v2 W2 T al bs ce;have f:Mo W W2 v.ownBlock.toList:=Mo.grown bs (fun k e=>by grind);have nb:ob∉v.ownBlock.toList:=fun q=>g.ne d Bc ob (by simpa using q) Z;have b3:bb∉v.ownBlock.toList:=fun q=>g.ne G Bc bb (by simpa using q) Z;have V:=d.mo f nb;have a2:=G.mo f b3;refine JA Z VQ Z Z (by first|rfl|assumption|exact Bp.one Cr) (V) Bl ?_;rintro W3 a0 af;refine OR.nil<|KV ?_;simp only[IN]at a0;refine KR.done ?_
       have a9:Bp W3 C.heap.size 9 1 v2 (Aim (kept (pre++[x]))) (Dd (kept (pre++[x]))):=by
        rw[jF,Ai b5,BA,bv];exact T.mo af (fun k j=>by simp;exact fun q=>T.ne V Bc k j q.symm)
       have P:Bf C W3:=Bv al af al.size (fun k j=>by grind);have b7:Bk W3 N 9 [Bj s]:=y.ext P;refine fun _ _=>⟨(f.keeps fun k j=>?_).trans (af.keeps fun k j=>?_),?_,v2,a0,a9,a2.mo af (by simp;exact a2.ne V Bc),P,by simp only[Dz,CG,not_or];exact⟨h5,fun q=>t q.symm⟩⟩
       .obtain⟨_,l,hb⟩:=g.blkT k Bh;grind
       .grind
       .show W3.heap[N]? =W.heap[N]?;exact(P.block N y.lt).trans (E.block N y.lt).symm
   .rintro D xs W hD rfl⟨v,d,g,G,E,h5⟩hK;obtain⟨A,c,rfl,hc,a5⟩:=g.slice;have a4:wt (kept (BO s))<=140737488355328:=by have q1:=bJ Pc (BO s);have q2:=Tt s;unfold kept;omega
    have bl:D<W.heap.size:=(LR.1 hK).1;refine KV<|BT<|KR.region<|OR.val Z Z (Cg underlying97 Z Z (d.cell_of Z))<|OR.call Z Z Z (jE A c (kept (BO s)) _ W a5 (Bq _) hc a4) ?_;rintro _ W2⟨rfl,n⟩;refine OR.val Z Z (CI Z)<|OR.nil<|BT<|BT ?_;have ab:W2.heap[D]? =X (.deferred (X [])):=(n.block D bl).trans hK;have a3:Bf w (W2.putObj D (.deferred Aa)):=Bf.putObj ((a.trans E).trans n) (by have:=a.size;have:=p.size;omega) _;have bm:=G.ext n;refine KR.region<|OR.val Z Z (Cg underlying4 Z Z (bm.cell_of Z))<|OR.val Z Z (EX.move Z)<|OR.val Z Z (EX.move Z)<|OR.val Z Z (HD (r:=[]) Z Z)<|OR.val Z Z (Jp Z Z)<|OR.val Z Z (EX.move Z)<|Qo 47 Z (fun j1=>?_) (fun j1=>?_)
    .refine Hr Z Z<|Hr Z Z<|Hr Z Z<|OR.val Z Z (Om Z Z)<|OR.nil<|PZ Z<|BT<|KR.region<|OR.val Z Z (CI Z)<|OR.val Z Z (CI Z)<|OR.nil<|Ke<|Vv (.inr Z) Z Z (ab) Z Z Z ?_;have e:GF s=([],140):=by unfold GF;rw[Ag (fun q=>q.2.2.1 j1)]
     grind
    .refine OR.val Z Z (EX.move Z)<|OR.val Z Z (Na underlying9 Z)<|OR.val Z Z (by first|exact Og (b:=120) Z Z|exact Oh Z Z)<|OR.val Z Z (Jp Z Z)<|OR.nil<|LW Z (fun j2=>?_) (fun j2=>?_)
     .refine BT<|KR.region<|OR.val Z Z (CI Z)<|OR.val Z Z (CI Z)<|OR.nil<|Ke<|Vv (.inr Z) Z Z (ab) Z Z Z ?_;have e:GF s=([],140):=by unfold GF;rw[Ag (fun q=>by omega)]
      rw[e];exact⟨Z,a3⟩
     .refine KR.skip<|BT<|KR.region<|OR.val Z Z (EX.move Z)<|OR.val Z Z (CI Z)<|OR.val Z Z (CI Z)<|OR.nil<|Ke<|Vv (.inr Z) Z Z (ab) Z Z Z ?_;have e:GF s=(Is (kept (BO s)),0):=by unfold GF;rw[Ai ⟨bx,h5,j1,J⟩]
      rw[e];exact⟨Z,a3⟩
   .rintro D c pre W hD ao⟨p0,rfl,rfl,v,d,g,G,E⟩hK;obtain⟨A,c,rfl,hc,a5⟩:=g.slice
    have a4:wt (kept p0)<=140737488355328:=by
     have q1:=bJ Pc p0;have q2:=Tt s;obtain⟨r,S⟩:=ao;rw[<-S,bI,bI]at q2;unfold kept;omega
    have e:GF s=([],140):=by
     unfold GF;rw[Ag];rintro⟨_,h,_⟩;exact h (ao.subset Bl)
    have bl:D<W.heap.size:=(LR.1 hK).1;refine Qa Z<|BT<|KR.region<|OR.val Z Z (Cg underlying97 Z Z (d.cell_of Z))<|OR.call Z Z Z (jE A c (kept p0) _ W a5 (Bq _) hc a4) ?_;rintro _ W2⟨rfl,n⟩;refine OR.val Z Z (CI Z)<|OR.nil<|BT<|BT ?_;have ab:W2.heap[D]? =X (.deferred (X [])):=(n.block D bl).trans hK;have a3:Bf w (W2.putObj D (.deferred Aa)):=Bf.putObj ((a.trans E).trans n) (by have:=a.size;have:=p.size;omega) _;have bm:=G.ext n;refine KR.region<|OR.val Z Z (Cg underlying4 Z Z (bm.cell_of Z))<|OR.val Z Z (EX.move Z)<|Hr Z Z<|Hr Z Z<|OR.val Z Z (Om Z Z)<|OR.val Z Z (EX.move Z)<|Hr Z Z<|Hr Z Z<|Hr Z Z<|OR.val Z Z (Om Z Z)<|OR.nil<|PZ Z<|BT<|KR.region<|OR.val Z Z (CI Z)<|OR.val Z Z (CI Z)<|OR.nil<|Ke<|Vv (.inr Z) Z Z (ab) Z Z Z ?_;grind
end
section
attribute [local irreducible] OW KW QW EX GW NV
open Bz
def vV:pack (Bz.bitsOf Bz.magicT)=Bz.magicT:=by rfl
def Rg(l:Ae Bs)(x:Bs):Jd (l++[x])=Jd l++[DT x].flatten:=by
 simp
def nF(s:Bg):∀x∈HU s,x<4294967296:=fun x a=>by
 unfold HU at a;split at a
 .grind
 .rw[CG.1 a];exact Qw s
def PkI{s:Bg}(w:Ad)(B ab ub sb mb tb eb:Y)(pre:Oq s)(W:Ad):Prop:=∃v u,Bk W ab 227 [v]/\Bp W w.heap.size 226 2 v (1+Aim pre) (Jd (Bz.bitsOf Bz.magicT::pre.map (fun x=>blkB x.1 (CY x.1))))/\(∀k,v.ownBlock=X k->k≠sb/\k≠mb)/\Bk W ub 210 [u]/\Bp W w.heap.size 58 1 u (Aim pre) (BC .u32 (pre.map (fun x=>Em x.1)))/\(∀k,u.ownBlock=X k->k≠sb/\k≠mb)/\Bk W mb 3 [U ((20000:Y):H)]/\Bk W tb 9 [Bj []]/\Bk W eb 34 [U 0]/\Bf w W/\B<=W.heap.size
def PkI.abd{s:Bg}{w:Ad}{B o j a m l n:Y}(S:∀k∈[a],w.heap.size<=k)(V:w.heap.size<=B)(y:o≠a/\j≠a/\m≠a/\l≠a/\n≠a):Abd [a] B (PkI (s:=s) w B o j a m l n):=fun pre A C T h d e=>by
 obtain⟨v,u,Q,P,N,L,K,I,G,E,D,i,g⟩:=h;obtain⟨x,t,r,q,p⟩:=y;have f:∀{k:Y},k≠a->k∉[a]:=Bl;exact⟨v,u,Q.abd d e (f x),P.abd d e Bh,N,L.abd d e (f t),K.abd d e Bh,I,G.abd d e (f r),E.abd d e (f q),D.abd d e (f p),Bv i d J Bh,BF g d.size⟩
def yH(s:Bg)(hs:Aim s<=8192)(w:Ad):
 Bn prog 100 [Bj s,U ((1:Y):H),U ((20000:Y):H)] w fun v w'=>v=.tuple #[Bj (packS s (CY s)),U ((0:Y):H)]/\Bf w w':=by
 refine Sa 3 Bl Z ntmps100 Be Z ?_;refine BT<|KR.region<|Jz (l:=[Bj _]) Z Z Gs Z ?_;rintro tb w1 fs c6 cc;refine Jz (l:=[U 0]) Z Z VO Z ?_;rintro eb w2 fn db b1;refine OR.nil<|BT<|BT<|KR.region<|OR.val Z Z (EX.move Z)<|OR.val Z Z (by first|exact Oi (b:=1) Z Z|exact Oj Z Z)<|OR.val Z Z (EX.move Z)<|Qo 18 Z (fun c1=>?_) (fun c1=>?_)
 .omega
 .refine OR.val Z Z (EX.move Z)<|OR.val Z Z (by first|exact Og (b:=9) Z Z|exact Oh Z Z)<|OR.val Z Z (Jp Z Z)<|OR.val Z Z (EX.move Z)<|Qo 22 Z (fun c2=>?_) (fun c2=>?_)
  .omega
  .refine OR.val Z Z (EX.move Z)<|OR.val Z Z (by first|exact Oi (b:=1) Z Z|exact Oj Z Z)<|OR.val Z Z (Jp Z Z)<|OR.val Z Z (EX.move Z)<|Qo 26 Z (fun c3=>?_) (fun c3=>?_)
   .omega
   .refine OR.val Z Z (EX.move Z)<|OR.val Z Z (EX.move Z)<|OR.call Z Z Z (mu 1 Bc w2) ?_;rintro _ _⟨rfl,rfl⟩;refine OR.val Z Z (by first|exact Og Z Z|exact Oh Z Z)<|OR.val Z Z (Jp Z Z)<|OR.nil<|KR.as 31 (.bool Aj) Z (Ar Value.bool (AN Bc))<|RL Z<|KR.skip<|BT<|BT<|KR.region<|OR.val Z Z (EX.move Z)<|OR.val Z Z (Na underlying9 Z)<|OR.val Z Z (by first|exact Og (b:=262144) Z Z|exact Oh Z Z)<|OR.nil<|KR.as 34 (.bool Aj) Z (Ar Value.bool (AN J))<|RL Z<|KR.skip<|BT<|KR.region<|OR.val Z Z (EX.move Z)<|OR.val Z Z (by first|exact JX (a:=48) (m:=9223372036854775807) Z Z Z J|exact JZ (m:=9223372036854775807) Z Z Z Z J)<|OR.val Z Z (by first|exact LS (m:=255) underlying3 underlying5 Z Z J|exact MY (m:=256) underlying3 underlying5 Z Z Bc|exact EX.convZ underlying3 underlying5 Z)<|dm 1 Z Z underlying23 CD Z Z Z Z (by rfl) Bc ?_;rintro bb w3 fl cl c0;replace cl:Bk w3 bb 5 (BI [49]):=cl;refine OR.val Z Z (cM underlying23 underlying5 underlying9 Z (cl.sl) (Z))<|OR.val Z Z (JY (s:=[66,90,104]) Z Z Bl)<|OR.val Z Z (RF (pl:=[(0,1),(1,1)]) (ks:=[0,1]) (is:=[0,1]) (zs:=[Bj [],U 0]) underlying226 GN Be Z Z Z (by first|rfl|(simp only[II,IJ,ID,IE,Bool.and_eq_true,Value.oneCell'];repeat (first|assumption|exact Bp.one Cr|constructor))) (by simp only[LK,IN,Lf];rfl))<|qk 1 ([[Bj [66,90,104,49],U 32]]) Z Z underlying227 GN Z Bc Z Z Z Bl Bc ?_;rintro gb w4 fi b3 cz
    replace b3:Bk w4 gb 226 (Jd [Bz.bitsOf Bz.magicT]):=by
     have e:Jd [Bz.bitsOf Bz.magicT]=[Bj [66,90,104,49],U 32]:=by
      show[Bj (pack (Bz.bitsOf Bz.magicT)),Value.int .i64 ((Aim (Bz.bitsOf Bz.magicT):Y):H)]=_;rw[vV,Bz.bitsOf_length];rfl
     rw[e];exact b3
    refine Jz (l:=[.slice Aa 0 0]) Z Z VN Z ?_;rintro ab w5 fd dn cb;have z1:=cc.size;have z2:=b1.size;have z3:=c0.size;have z4:=cz.size;have z5:=cb.size;have f5:=c6.lt;have f4:=db.lt;have f3:=b3.lt;have f2:=dn.lt;have b7:=(c0.trans cz).trans cb;have x5:=(cc.trans b1).trans b7;refine JA Z VN Z Z (by first|rfl|assumption|exact Bp.one Cr) (dn) Bl ?_;rintro w6 cn cj;refine OR.nil<|BT<|KR.region ?_;replace cn:Bk w6 ab 227 [.slice (X ⟨gb,0,Aa⟩) 1 1]:=cn;have z6:=cj.size;have d3:Bf w2 w6:=Bv b7 cj b7.size Bx;have cs:Bp w6 w.heap.size 226 2 (.slice (X ⟨gb,0,Aa⟩) 1 1) 1 (Jd [Bz.bitsOf Bz.magicT]):=(Bp.Agf (s:=2) (cap:=1) (b3.ext cb) J Z CE).mo cj (by simp[Value.ownBlock];omega);refine Jz (l:=[.slice Aa 0 0]) Z Z og Z ?_;rintro ub w7 fc c5 ca;refine OR.nil<|BT<|BT<|KR.region<|OR.val Z Z (EX.move Z)<|OR.val Z Z (EX.move Z) ?_;have z7:=ca.size;have f1:=c5.lt;refine OR.call Z Z Z (yN s 20000 w7) ?_;rintro _ w8⟨sb,mb,rfl,e8,e9,cf,bq,j⟩;refine OR.nil<|KR.block ?_;have z8:=j.size;have fv:=cf.lt;have f0:=bq.lt;have b6:Bf w2 w8:=(d3.trans ca).trans j;have x8:Bf w w8:=(cc.trans b1).trans b6;have cq:=ca.trans j;have cr:=cs.ext cq;have e2:=cn.ext cq;have eh:=c5.ext j;have el:=(c6.ext b1).ext b6;have ew:=db.ext b6
    have c9:mb≠sb:=fun e=>by
     rw[e]at bq;exact AK Z (bq.ne cf Bc)
    have ds:∀k∈[sb],w.heap.size<=k:=fun k p=>by simp at p;omega
    refine pY Z (Nat.le_add_left _ _) func170 Be Z Z Z (fun x:Nu s=>Bj x.1) (fun k p=>by simp at p;omega) (vI sb mb 20000 s J Bc w8 cf bq) (PkI w w8.heap.size ab ub sb mb tb eb) (fun c (pre:Oq s) W=>False) (PkI.abd ds (BF x8.size (Bq _)) ⟨J,J,c9,J,J⟩) (fun c pre A B T h hm hT=>h.elim) (fun pre W h=>let ⟨_,_,_,_,_,_,_,_,h7,_⟩:=h;h7) (⟨_,_,e2,cr,(fun k p=>by simp[Value.ownBlock]at p;omega),eh,Bp.nil _ _ _ _,(fun k p=>by simp[Value.ownBlock]at p),bq,el,ew,x8,Bq _⟩) ?_ ?_ ?_
    .rintro l pre x W⟨v,u,h1,h2,h3,h4,h5,h6,h7,h8,h9,a2,d0⟩fa _;obtain⟨x,ea,cw⟩:=x;subst ea;have en:pre=[]:=List.length_eq_zero_iff.1 J;subst en;have gg:=Qw x;refine KR.block<|BT<|KR.region<|OR.val Z Z (EX.move Z)<|OR.call Z Z Z (blk_s x cw J W) ?_;rintro _ wa⟨⟨ge,rfl⟩,a8⟩;refine OR.val Z Z (EX.move Z)<|OR.val Z Z (EX.extract Z Z)<|OR.val Z Z (EX.extract Z Z) ?_;generalize e6:blkB x (CY x)=BB;refine Jz (l:=[Bj [],U 0]) Z Z GN Z ?_;rintro e7 wb fb e0 cx;refine qo Z GN Z Z Z (by first|rfl|(simp only[II,IJ,ID,IE,Bool.and_eq_true,Value.oneCell'];repeat (first|assumption|exact Bp.one Cr|constructor))) (e0) Bl ?_;rintro wc ck ep;refine OR.val Z Z (CI Z)<|OR.nil<|BT<|BT<|KR.region<|OR.val Z Z (EX.move Z)<|OR.val Z Z (by first|exact cC (b:=0) Z Z|exact cD Z Z)<|OR.nil ?_;replace ck:Bk wc e7 226 (DT BB):=ck;have xc:Bf W wc:=Bv (a8.trans cx) ep (a8.trans cx).size (by simp;have:=a8.size;omega);refine KR.as 53 (.bool Aj) Z (Ar Value.bool (AN Bc))<|RL Z<|KR.skip<|BT<|KR.region ?_;have zc:=xc.size;have f8:=fun k p=>(h2.lt k p);have f9:=fun k p=>(h5.lt k p);have m1:=(h1.ext xc);refine OR.val Z Z (Cg underlying227 Z Z (m1.cell_of Z))<|OR.val Z Z (Jl underlying226 Z GN Z (ck) (Z))<|qn (w.heap.size) Z Z (fun _=>rfl) Z underlying227 GN Z Bc Bc Z Z (fun _=>rfl) (by rfl) ((a2.trans xc).size) (h2.ext xc) CE J ?_;rintro _ v2 wd ct b9 d2;have d8:ab∉v.ownBlock.toList:=fun q=>h2.ne h1 Bc ab (by simpa using q) Z;have d9:=m1.mo b9 d8;refine JA Z VN Z Z (by first|rfl|assumption|exact Bp.one Cr) (d9) Bl ?_;rintro we b0 ch;refine OR.nil ?_;replace b0:Bk we ab 227 [v2]:=b0;have d7:ub∉v.ownBlock.toList:=fun q=>h2.ne h4 Bc ub (by simpa using q) Z;have bi:Bk we ub 210 [u]:=((h4.ext xc).mo b9 d7).mo ch Bx;have bh:Mo W we (ab::v.ownBlock.toList):=((Mo.Age xc _).trans (b9.mono fun k p=>El _ p)).trans (ch.mono fun k p=>by rw[CG.1 p];exact Fa ..)
     have ee:∀k,u.ownBlock=X k->k≠ab/\k∉v.ownBlock.toList/\k≠ub:=fun k p=>by
      obtain⟨_,l5,bx⟩:=h5.blkT k p;refine⟨bx.ne h1 Bc,fun q=>?_,bx.ne h4 Bc⟩;obtain⟨_,l2,e1⟩:=h2.blkT k (by simpa using q);exact bx.ne e1 Bc Z
     have b4:Bp we w.heap.size 58 1 u 0 []:=Bp.mo h5 bh fun k p=>by
      grind
     refine cU (fun(u2:Ah) (wf:Ad)=>Mo we wf (ub::u.ownBlock.toList)/\Bk wf ub 210 [u2]/\Bp wf w.heap.size 58 1 u2 1 [.int .u32 ((Em x:Y):H)]/\(u2.ownBlock=u.ownBlock∨∃g,u2.ownBlock=X g/\we.heap.size<=g)) (fun(u2:Ah) (wf:Ad)=>[(2,U ((20000:Y):H))]) (fun(u2:Ah) (wf:Ad)=>wf) ?_ ?_
     .have cp:∀(w8 w9 L V:Ad) (K:Ah),Bf we.drew w8->Bf w8 w9->Bp L 0 58 1 K (0+1) ([]++[.int .u32 ((Em x:Y):H)])->w9.grownBy L u.ownBlock->(K.ownBlock=u.ownBlock∨K.ownBlock=X w9.heap.size)->Bk V ub 210 [K]->Mo L V [ub]->Mo we V (ub::u.ownBlock.toList)/\Bk V ub 210 [K]/\Bp V w.heap.size 58 1 K 1 [.int .u32 ((Em x:Y):H)]/\(K.ownBlock=u.ownBlock∨∃g,K.ownBlock=X g/\we.heap.size<=g):=fun w8 w9 L V K a b c d e f g=>by
       have x9:Bf we w9:=((Bf.drew we).trans a).trans b;have ze:=x9.size;have zz:w.heap.size<=we.heap.size:=BF a2.size bh.size
       have da:∀k,K.ownBlock=X k->w.heap.size<=k/\k≠ub:=fun k p=>by
        rcases e with e|e
        .grind
        .rw[e]at p;injection p with p;have:=bi.lt;omega
       refine⟨((Mo.Age x9 _).trans ((Mo.grown d (fun k p=>by rw[p];simp)).mono fun k p=>El _ p)).trans (g.mono fun k p=>by rw[CG.1 p];exact Fa ..),f,(Bp.base c fun k p=>(da k p).1).mo g fun k p=>by grind,?_⟩;grind
      have bj:∀(w8 w9 L:Ad),Bf we.drew w8->Bf w8 w9->w9.grownBy L u.ownBlock->Bk L ub 210 [u]:=fun w8 w9 L a b c=>((bi.drew.ext a).ext b).grown c fun e=>(ee ub e.symm).2.2 Z;refine pZ (N:=6) (fun w'=>True) Be Z Z ?_;have i:=trivial;refine(Gv [1])<|Ye 0 2 ?_ ?_
      .refine(Jo 0 (he:=by exact Bo bi.drew)) fun i=>(Yc 2 (Uq x J we.drew)) ?_;rintro _ w8⟨rfl,j⟩;refine⟨AB,fun i=>?_⟩;refine PW 3 1 Z Be Z Z underlying210 LO Z Z Z Z Z Bc ?_;rintro qb w9 b5 a7 al;refine⟨AB,fun i=>?_⟩;refine GW.append 4 0 Z Be Z Z underlying210 LO Z Bc Z Z (((b4.ext (Bf.drew we)).ext (j.trans al)).more (BD _)) (Src.Agh (m:=1) underlying210 (Sl.Agf a7 a7.lt) Z (Lx (k:=.u32) (l:=[Em x])) Bc) CE J (BD _) ?_;rintro K L a0 aj a3;have a5:=bj w8 w9 L j al aj;refine⟨AB,fun i=>?_⟩;refine(Yt 5 a5) ?_;rintro V a4 a6;refine⟨AB,fun i=>?_⟩;refine(Yd) ?_;refine LP<|LX (K) (V) ⟨Z,AB⟩ Z ?_;exact cp w8 w9 L V K j al a0 aj a3 a4 a6
      .refine(Jc 2 (Uq x J we.drew)) ?_;rintro _ w8⟨rfl,j⟩;refine⟨AB,fun i=>?_⟩;refine Ye 0 3 ?_ ?_
       .refine(Jo 0 (he:=by exact Bo (bi.drew.ext j))) fun i=>?_;refine PW 3 1 Z Be Z Z underlying210 LO Z Z Z Z Z Bc ?_;rintro qb w9 b5 a7 al;refine⟨AB,fun i=>?_⟩;refine GW.append 4 0 Z Be Z Z underlying210 LO Z Bc Z Z (((b4.ext (Bf.drew we)).ext (j.trans al)).more (BD _)) (Src.Agh (m:=1) underlying210 (Sl.Agf a7 a7.lt) Z (Lx (k:=.u32) (l:=[Em x])) Bc) CE J (BD _) ?_;rintro K L a0 aj a3;have a5:=bj w8 w9 L j al aj;refine⟨AB,fun i=>?_⟩;refine(Yt 5 a5) ?_;rintro V a4 a6;refine⟨AB,fun i=>?_⟩;refine(Yd) ?_;refine LP<|LX (K) (V) ⟨Z,AB⟩ Z ?_;exact cp w8 w9 L V K j al a0 aj a3 a4 a6
       .refine Js 3 1 Z Z Z underlying210 LO Z Z Z Z Z Bc ?_;rintro qb w9 b5 a7 al;refine⟨AB,fun i=>?_⟩;refine(Yo 0 (he:=by exact Bo ((bi.drew.ext j).ext al))) fun i=>?_;refine GW.append 4 0 Z Be Z Z underlying210 LO Z Bc Z Z (((b4.ext (Bf.drew we)).ext (j.trans al)).more (BD _)) (Src.Agh (m:=1) underlying210 (Sl.Agf a7 a7.lt) Z (Lx (k:=.u32) (l:=[Em x])) Bc) CE J (BD _) ?_;rintro K L a0 aj a3;have a5:=bj w8 w9 L j al aj;refine⟨AB,fun i=>?_⟩;refine(Yt 5 a5) ?_;rintro V a4 a6;refine⟨AB,fun i=>?_⟩;refine(Yd) ?_;refine LP<|LX (K) (V) ⟨Z,AB⟩ Z ?_;exact cp w8 w9 L V K j al a0 aj a3 a4 a6
     .rintro u2 wf⟨mf,eg,b8,d1⟩;refine KV<|KR.done ?_;have bc:Bp we w.heap.size 226 2 v2 (1+0+1) (Jd (Bz.bitsOf Bz.magicT::List.map (fun x:Nu x=>blkB x.1 (CY x.1)) [])++DT BB):=ct.mo ch fun k p=>by grind
      have cd:∀k,v2.ownBlock=X k->k≠sb/\k≠mb/\k∉ub::u.ownBlock.toList:=fun k p=>by
       obtain⟨_,lb,hb⟩:=bc.blkT k p
       have n1:k∉ub::u.ownBlock.toList:=fun q=>by
        rcases List.mem_cons.1 q with q|q
        .grind
        .obtain⟨_,l5,bx⟩:=b4.blkT k (by simpa using q);exact hb.ne bx Bc Z
       rcases d2 with e|⟨g,e,hg⟩
       .grind
       .rw[e]at p;injection p with p;exact⟨J,J,n1⟩
      have bn:mb≠ab/\mb∉v.ownBlock.toList/\mb∉ub::u.ownBlock.toList:=⟨h7.ne h1 Bc,fun q=>(h3 mb (by simpa using q)).2 Z,fun q=>by
       grind⟩
      have nm:∀k,k∈v.ownBlock.toList∨k∈u.ownBlock.toList->∃T l,(T=226∨T=58)/\Bk W k T l:=fun k p=>by
       rcases p with p|p
       .obtain⟨_,l',hb⟩:=h2.blkT k (by simpa using p);grind
       .obtain⟨_,l',hb⟩:=h5.blkT k (by simpa using p);grind
      have cv:∀{b:Y} {T:Ay} {l:Bm},Bk W b T l->T≠226->T≠58->b∉v.ownBlock.toList/\b∉u.ownBlock.toList:=fun {b T l} hb q1 q2=>⟨fun q=>by
       obtain⟨T',l',e,cm⟩:=nm b (.inl q);exact hb.ne cm (by rcases e with rfl|rfl<;>assumption) Z,fun q=>by
       obtain⟨T',l',e,cm⟩:=nm b (.inr q);exact hb.ne cm (by rcases e with rfl|rfl<;>assumption) Z⟩
      have kp:∀{b:Y} {T:Ay} {l:Bm},Bk W b T l->b≠ab->b≠ub->(b∉v.ownBlock.toList/\b∉u.ownBlock.toList)->Bk wf b T l:=fun {b T l} hb n1 n2 n3=>(hb.mo bh Bh).mo mf Bh;have mW:Mo W wf (ab::v.ownBlock.toList++(ub::u.ownBlock.toList)):=(bh.mono fun k p=>TQ _ p).trans (mf.mono fun k p=>List.mem_append_right _ p);refine fun _ _=>⟨mW.keeps fun k p=>?_,fun k p=>?_,v2,u2,b0.mo mf ?_,?_,fun k p=>⟨(cd k p).1,(cd k p).2.1⟩,eg,b8,fun k p=>?_,kp h7 bn.1 (h7.ne h4 Bc) ⟨bn.2.1,fun q=>bn.2.2 (El _ q)⟩,kp h8 J J (cv h8 Bc Bc),kp h9 J J (cv h9 Bc Bc),Bv a2 mW a2.size fun k p=>?_,BF d0 mW.size⟩
      .rcases Dz.1 p with q|q<;>rcases List.mem_cons.1 q with q|q
       .grind
       .obtain⟨T,l,_,hb⟩:=nm k (.inl q);exact⟨T,l,hb⟩
       .grind
       .obtain⟨T,l,_,hb⟩:=nm k (.inr q);exact⟨T,l,hb⟩
      .have p:k=sb:=by simpa using p
       rw[p];refine mW.block sb J ?_;simp only[Dz,List.mem_cons,not_or];exact⟨⟨J,fun q=>(h3 sb (by simpa using q)).1 Z⟩,J,fun q=>(h6 sb (by simpa using q)).1 Z⟩
      .grind
      .have:Bp wf w.heap.size 226 2 v2 (1+0+1) (Jd (Bz.bitsOf Bz.magicT::List.map (fun x:Nu x=>blkB x.1 (CY x.1)) [])++DT BB):=bc.mo mf fun k p=>(cd k p).2.2;rw[<-e6]at this;exact this
      .rcases d1 with e|⟨g,e,hg⟩
       .grind
       .rw[e]at p;injection p with p;have:=bh.size;omega
      .rcases Dz.1 p with q|q<;>rcases List.mem_cons.1 q with q|q
       .omega
       .grind
       .omega
       .grind
    .rintro D xs W hD rfl⟨v,u,h1,h2,h3,h4,h5,h6,h7,h8,h9,a2,d0⟩hK
     have c8:∀{α:Type} (f:Bg->α),(KG s).map (fun x:Nu s=>f x.1)=if s=[]then[]else[f s]:=fun f=>by
      unfold KG;split<;>rfl
     rw[c8]at h5;have em:(if s=[]then[]else[Em s])=HU s:=rfl;rw[em]at h5
     have ef:Aim (KG s)=Aim (HU s):=by
      unfold KG HU;split<;>rfl
     rw[ef]at h5
     have ez:∃bl:Ae Bs,(bl=(KG s).map fun x:Nu s=>blkB x.1 (CY x.1))/\bl.flatten=blocksB s (CY s)/\Aim bl<=1/\Aim bl=Aim (KG s):=⟨_,Z,by
      rw[c8 fun x=>blkB x (CY x)];unfold blocksB;grind,by
      grind,Bl⟩
     obtain⟨bl,dk,dg,fu,df⟩:=ez;rw[<-dk,<-df]at h2;obtain⟨Au,cu,rfl,_,d4⟩:=h5.slice;have ey:=Uu _ (nF s)
     have gc:Aim (HU s)<=1:=by
      unfold HU;split<;>simp
     refine KV<|BT<|KR.region<|OR.call Z Z Z (Pp W) ?_;rintro _ wa⟨wb,rfl,ed,a8⟩;refine OR.val Z Z (CI Z)<|OR.nil<|BT<|KR.region<|OR.val Z Z (EX.move Z)<|OR.call Z Z Z (GJ W.heap.size wb [] 25779555029136 48 Bc Bc Bc Bc wa ed) ?_;rintro _ wc⟨rfl,ec,tc⟩;refine OR.nil<|BT<|KR.region<|OR.val Z Z (EX.move Z) ?_;have xc:Bf W wc:=tc.below a8 a8.size (Bq _);refine OR.val Z Z (Cg underlying210 Z Z ((h4.ext xc).cell_of Z))<|OR.call Z Z Z (nA (HU s) Au cu (nF s) J wc _ (d4.ext xc)) ?_;rintro _ _⟨rfl,rfl⟩;refine OR.val Z Z (by first|exact LS (m:=18446744073709551615) underlying58 underlying211 Z Z J|exact MY (m:=18446744073709551616) underlying58 underlying211 Z Z Bc|exact EX.convZ underlying58 underlying211 Z)<|OR.call Z Z Z (GJ W.heap.size wb _ (Hc (HU s)) 32 J Bc ey (by rw[Ev,nb_length];decide) wc ec) ?_;rintro _ we⟨rfl,c4,te⟩;refine OR.nil<|BT ?_;have xe:Bf W we:=te.below xc xc.size (Bq _);generalize dv:[]++nb 48 25779555029136++nb 32 (Hc (HU s))=EB at c4;have gk:Aim EB=80:=by rw[<-dv];simp only[BA,nb_length,EZ]
     have C:=c4;have zW:=a2.size;have f6:=h1.lt;have I:=h2.ext xe;have S:∀k,v.ownBlock=X k->w.heap.size<=k/\k<W.heap.size:=fun k p=>h2.lt k p;have bf:ab∉v.ownBlock.toList:=fun q=>h2.ne h1 Bc ab (by simpa using q) Z;have d5:tb∉v.ownBlock.toList:=fun q=>h2.ne h8 Bc tb (by simpa using q) Z;have d6:eb∉v.ownBlock.toList:=fun q=>h2.ne h9 Bc eb (by simpa using q) Z
     have af:(Bz.bitsOf Bz.magicT::bl++[EB]).flatten=Jg s (CY s):=by
      rw[<-dv];unfold Jg;rw[<-dg];simp only[List.flatten_append,Nj,List.flatten_nil,List.append_nil,Ev,Cq,FM]
     have gd:Aim (blocksB s (CY s))<=90000000:=dV s J
     have ai:Aim (Jg s (CY s))<=100000000:=by
      rw[streamB_length];omega
     have ba:∀l∈Bz.bitsOf Bz.magicT::bl++[EB],Aim l<=100000000:=fun l hl=>by
      rw[<-af]at ai;exact BF (uv hl) ai
     have a9:Aim (Bz.bitsOf Bz.magicT::bl++[EB])=1+Aim bl+1:=Bx;refine cU (fun(ob:Y) (wz:Ad)=>Bk wz ob 226 (DT (Jg s (CY s)))/\Mo W wz v.ownBlock.toList/\W.heap.size<=ob) (fun(ob:Y) (wz:Ad)=>[(6,.pointer (X ⟨tb,0,Aa⟩)),(7,.pointer (X ⟨eb,0,Aa⟩)),(14,.pointer (X ⟨ob,0,Aa⟩)),(15,U ((0:Y):H))]) (fun(ob:Y) (wz:Ad)=>wz) ?_ ?_
     .skip
      refine cV (N:=15) (fun w'=>Bf w w'/\Bk w' ab 227 [v]/\Mo W w' v.ownBlock.toList) Be Z ?_;have i:(fun w'=>Bf w w'/\Bk w' ab 227 [v]/\Mo W w' v.ownBlock.toList) we.drew:=⟨(a2.trans xe).trans (Bf.drew we),(h1.ext xe).drew,Mo.Age (xe.trans (Bf.drew we)) _⟩;have C:=C.ext (Bf.drew _);have I:=I.ext (Bf.drew _);refine(Gv [0,1,3])<|Ye 2 12 ?_ ?_
      .refine(Jc 2 (Oa W.heap.size wb EB we.drew C)) ?_;rintro _ _⟨rfl,rfl⟩;refine⟨i,fun i=>?_⟩;refine Ye 4 12 ?_ ?_
       .refine(Jc 4 (MW W.heap.size wb EB we.drew C)) ?_;rintro _ _⟨rfl,rfl⟩;refine⟨i,fun i=>?_⟩;refine(Gv [5])<|Ye 6 12 ?_ ?_
        .refine TC 6 1 ([DT EB]) Z Z Z underlying227 GN Z Bc Z Z Z (by first|(intro v hv;obtain⟨f,hf,rfl⟩:=Ck.1 hv;rfl)|(simp;done)|(simp;rfl)) Bc ?_;rintro co w6 bs h6 y;refine⟨⟨i.1.trans y,i.2.1.ext y,i.2.2.trans (Mo.Age y _)⟩,fun i=>?_⟩;have C:=C.ext y;have I:=I.ext y;refine Ye 7 12 ?_ ?_
         .refine GO.append 7 0 Z Z Z underlying227 GN Z Bc Z Z (I.more (BD _)) (Src.Agh (m:=1) underlying227 (Sl.Agf h6 h6.lt) Z (by simp[Value.oneCell']) Bc) CE J (BD _) ?_;rintro v7 w7 o G b2;obtain⟨A7,c7,rfl,_,_⟩:=o.slice;refine⟨⟨i.1.grown G fun k p=>(S k p).1,i.2.1.grown G fun e=>bf (by simp[<-e]),i.2.2.trans (Mo.grown G fun k p=>by rw[p];simp)⟩,fun i=>?_⟩;refine Ye 8 12 ?_ ?_
          .refine(Jc 8 (by have:=NF (Bz.bitsOf Bz.magicT::bl++[EB]) ba J (by rw[af];exact ai) A7 c7 _ w7 (by obtain⟨_,_,e,_,sl⟩:=o.slice;cases e;rw[Rg];exact sl);rw[a9,af]at this;exact this)) ?_;rintro _ w8⟨rfl,j⟩;refine⟨⟨i.1.trans j,i.2.1.ext j,i.2.2.trans (Mo.Age j _)⟩,fun i=>?_⟩;have o:=o.ext j;refine(Gv [9,10,11]∘Yn 12) ?_;rintro ob a1 E t n;have P:W.heap.size<=ob:=BF i.2.2.size E;refine⟨⟨i.1.trans n,i.2.1.ext n,i.2.2.trans (Mo.Age n _)⟩,fun i=>?_⟩;have o:=o.ext n;refine(Ys 13 t) ?_;rintro ao Q r;refine⟨⟨Bv i.1 r i.1.size Bx,i.2.1.mo r Bx,(i.2.2.Agn r P)⟩,fun i=>?_⟩;refine(Gv [14]∘Yd) ?_;refine LP<|LX ob ao ⟨Z,Z,Z,Z,AB⟩ Z ?_;exact⟨Q,i.2.2,P⟩
          .refine(Jn 12) ?_;rintro ob a1 E t n;have P:W.heap.size<=ob:=BF i.2.2.size E;refine⟨⟨i.1.trans n,i.2.1.ext n,i.2.2.trans (Mo.Age n _)⟩,fun i=>?_⟩;have o:=o.ext n;refine(Yc 8 (by have:=NF (Bz.bitsOf Bz.magicT::bl++[EB]) ba J (by rw[af];exact ai) A7 c7 _ a1 (by obtain⟨_,_,e,_,sl⟩:=o.slice;cases e;rw[Rg];exact sl);rw[a9,af]at this;exact this)) ?_;rintro _ w8⟨rfl,j⟩;refine⟨⟨i.1.trans j,i.2.1.ext j,i.2.2.trans (Mo.Age j _)⟩,fun i=>?_⟩;have o:=o.ext j;have t:=t.ext j;refine(Gv [9,10,11]∘Ys 13 t) ?_;rintro ao Q r;refine⟨⟨Bv i.1 r i.1.size Bx,i.2.1.mo r Bx,(i.2.2.Agn r P)⟩,fun i=>?_⟩;refine(Gv [14]∘Yd) ?_;refine LP<|LX ob ao ⟨Z,Z,Z,Z,AB⟩ Z ?_;exact⟨Q,i.2.2,P⟩
         .refine(Jn 12) ?_;rintro ob a1 E t n;have P:W.heap.size<=ob:=BF i.2.2.size E;refine⟨⟨i.1.trans n,i.2.1.ext n,i.2.2.trans (Mo.Age n _)⟩,fun i=>?_⟩;have C:=C.ext n;have I:=I.ext n;have h6:=h6.ext n;refine GW.append 7 0 Z Be Z Z underlying227 GN Z Bc Z Z (I.more (BD _)) (Src.Agh (m:=1) underlying227 (Sl.Agf h6 h6.lt) Z (by simp[Value.oneCell']) Bc) CE J (BD _) ?_;rintro v7 w7 o G b2;have t:=t.grown G (fun e=>by have:=(S _ e.symm).2;omega);obtain⟨A7,c7,rfl,_,_⟩:=o.slice;refine⟨⟨i.1.grown G fun k p=>(S k p).1,i.2.1.grown G fun e=>bf (by simp[<-e]),i.2.2.trans (Mo.grown G fun k p=>by rw[p];simp)⟩,fun i=>?_⟩;refine(Yc 8 (by have:=NF (Bz.bitsOf Bz.magicT::bl++[EB]) ba J (by rw[af];exact ai) A7 c7 _ w7 (by obtain⟨_,_,e,_,sl⟩:=o.slice;cases e;rw[Rg];exact sl);rw[a9,af]at this;exact this)) ?_;rintro _ w8⟨rfl,j⟩;refine⟨⟨i.1.trans j,i.2.1.ext j,i.2.2.trans (Mo.Age j _)⟩,fun i=>?_⟩;have t:=t.ext j;have o:=o.ext j;refine(Gv [9,10,11]∘Ys 13 t) ?_;rintro ao Q r;refine⟨⟨Bv i.1 r i.1.size Bx,i.2.1.mo r Bx,(i.2.2.Agn r P)⟩,fun i=>?_⟩;refine(Gv [14]∘Yd) ?_;refine LP<|LX ob ao ⟨Z,Z,Z,Z,AB⟩ Z ?_;exact⟨Q,i.2.2,P⟩
        .refine(Jn 12) ?_;rintro ob a1 E t n;have P:W.heap.size<=ob:=BF i.2.2.size E;refine⟨⟨i.1.trans n,i.2.1.ext n,i.2.2.trans (Mo.Age n _)⟩,fun i=>?_⟩;have C:=C.ext n;have I:=I.ext n;refine Gu 6 1 ([DT EB]) Z Be Z Z underlying227 GN Z Bc Z Z Z (by first|(intro v hv;obtain⟨f,hf,rfl⟩:=Ck.1 hv;rfl)|(simp;done)|(simp;rfl)) Bc ?_;rintro co w6 bs h6 y;refine⟨⟨i.1.trans y,i.2.1.ext y,i.2.2.trans (Mo.Age y _)⟩,fun i=>?_⟩;have C:=C.ext y;have I:=I.ext y;have t:=t.ext y;refine GW.append 7 0 Z Be Z Z underlying227 GN Z Bc Z Z (I.more (BD _)) (Src.Agh (m:=1) underlying227 (Sl.Agf h6 h6.lt) Z (by simp[Value.oneCell']) Bc) CE J (BD _) ?_;rintro v7 w7 o G b2;have t:=t.grown G (fun e=>by have:=(S _ e.symm).2;omega);obtain⟨A7,c7,rfl,_,_⟩:=o.slice;refine⟨⟨i.1.grown G fun k p=>(S k p).1,i.2.1.grown G fun e=>bf (by simp[<-e]),i.2.2.trans (Mo.grown G fun k p=>by rw[p];simp)⟩,fun i=>?_⟩;refine(Yc 8 (by have:=NF (Bz.bitsOf Bz.magicT::bl++[EB]) ba J (by rw[af];exact ai) A7 c7 _ w7 (by obtain⟨_,_,e,_,sl⟩:=o.slice;cases e;rw[Rg];exact sl);rw[a9,af]at this;exact this)) ?_;rintro _ w8⟨rfl,j⟩;refine⟨⟨i.1.trans j,i.2.1.ext j,i.2.2.trans (Mo.Age j _)⟩,fun i=>?_⟩;have t:=t.ext j;have o:=o.ext j;refine(Gv [9,10,11]∘Ys 13 t) ?_;rintro ao Q r;refine⟨⟨Bv i.1 r i.1.size Bx,i.2.1.mo r Bx,(i.2.2.Agn r P)⟩,fun i=>?_⟩;refine(Gv [14]∘Yd) ?_;refine LP<|LX ob ao ⟨Z,Z,Z,Z,AB⟩ Z ?_;exact⟨Q,i.2.2,P⟩
       .refine(Jn 12) ?_;rintro ob a1 E t n;have P:W.heap.size<=ob:=BF i.2.2.size E;refine⟨⟨i.1.trans n,i.2.1.ext n,i.2.2.trans (Mo.Age n _)⟩,fun i=>?_⟩;have C:=C.ext n;have I:=I.ext n;refine(Yc 4 (MW W.heap.size wb EB a1 C)) ?_;rintro _ _⟨rfl,rfl⟩;refine⟨i,fun i=>?_⟩;refine(Gv [5]) ?_;refine Gu 6 1 ([DT EB]) Z Be Z Z underlying227 GN Z Bc Z Z Z (by first|(intro v hv;obtain⟨f,hf,rfl⟩:=Ck.1 hv;rfl)|(simp;done)|(simp;rfl)) Bc ?_;rintro co w6 bs h6 y;refine⟨⟨i.1.trans y,i.2.1.ext y,i.2.2.trans (Mo.Age y _)⟩,fun i=>?_⟩;have C:=C.ext y;have I:=I.ext y;have t:=t.ext y;refine GW.append 7 0 Z Be Z Z underlying227 GN Z Bc Z Z (I.more (BD _)) (Src.Agh (m:=1) underlying227 (Sl.Agf h6 h6.lt) Z (by simp[Value.oneCell']) Bc) CE J (BD _) ?_;rintro v7 w7 o G b2;have t:=t.grown G (fun e=>by have:=(S _ e.symm).2;omega);obtain⟨A7,c7,rfl,_,_⟩:=o.slice;refine⟨⟨i.1.grown G fun k p=>(S k p).1,i.2.1.grown G fun e=>bf (by simp[<-e]),i.2.2.trans (Mo.grown G fun k p=>by rw[p];simp)⟩,fun i=>?_⟩;refine(Yc 8 (by have:=NF (Bz.bitsOf Bz.magicT::bl++[EB]) ba J (by rw[af];exact ai) A7 c7 _ w7 (by obtain⟨_,_,e,_,sl⟩:=o.slice;cases e;rw[Rg];exact sl);rw[a9,af]at this;exact this)) ?_;rintro _ w8⟨rfl,j⟩;refine⟨⟨i.1.trans j,i.2.1.ext j,i.2.2.trans (Mo.Age j _)⟩,fun i=>?_⟩;have t:=t.ext j;have o:=o.ext j;refine(Gv [9,10,11]∘Ys 13 t) ?_;rintro ao Q r;refine⟨⟨Bv i.1 r i.1.size Bx,i.2.1.mo r Bx,(i.2.2.Agn r P)⟩,fun i=>?_⟩;refine(Gv [14]∘Yd) ?_;refine LP<|LX ob ao ⟨Z,Z,Z,Z,AB⟩ Z ?_;exact⟨Q,i.2.2,P⟩
      .refine(Jn 12) ?_;rintro ob a1 E t n;have P:W.heap.size<=ob:=BF i.2.2.size E;refine⟨⟨i.1.trans n,i.2.1.ext n,i.2.2.trans (Mo.Age n _)⟩,fun i=>?_⟩;have C:=C.ext n;have I:=I.ext n;refine(Yc 2 (Oa W.heap.size wb EB a1 C)) ?_;rintro _ _⟨rfl,rfl⟩;refine⟨i,fun i=>?_⟩;refine(Yc 4 (MW W.heap.size wb EB a1 C)) ?_;rintro _ _⟨rfl,rfl⟩;refine⟨i,fun i=>?_⟩;refine(Gv [5]) ?_;refine Gu 6 1 ([DT EB]) Z Be Z Z underlying227 GN Z Bc Z Z Z (by first|(intro v hv;obtain⟨f,hf,rfl⟩:=Ck.1 hv;rfl)|(simp;done)|(simp;rfl)) Bc ?_;rintro co w6 bs h6 y;refine⟨⟨i.1.trans y,i.2.1.ext y,i.2.2.trans (Mo.Age y _)⟩,fun i=>?_⟩;have C:=C.ext y;have I:=I.ext y;have t:=t.ext y;refine GW.append 7 0 Z Be Z Z underlying227 GN Z Bc Z Z (I.more (BD _)) (Src.Agh (m:=1) underlying227 (Sl.Agf h6 h6.lt) Z (by simp[Value.oneCell']) Bc) CE J (BD _) ?_;rintro v7 w7 o G b2;have t:=t.grown G (fun e=>by have:=(S _ e.symm).2;omega);obtain⟨A7,c7,rfl,_,_⟩:=o.slice;refine⟨⟨i.1.grown G fun k p=>(S k p).1,i.2.1.grown G fun e=>bf (by simp[<-e]),i.2.2.trans (Mo.grown G fun k p=>by rw[p];simp)⟩,fun i=>?_⟩;refine(Yc 8 (by have:=NF (Bz.bitsOf Bz.magicT::bl++[EB]) ba J (by rw[af];exact ai) A7 c7 _ w7 (by obtain⟨_,_,e,_,sl⟩:=o.slice;cases e;rw[Rg];exact sl);rw[a9,af]at this;exact this)) ?_;rintro _ w8⟨rfl,j⟩;refine⟨⟨i.1.trans j,i.2.1.ext j,i.2.2.trans (Mo.Age j _)⟩,fun i=>?_⟩;have t:=t.ext j;have o:=o.ext j;refine(Gv [9,10,11]∘Ys 13 t) ?_;rintro ao Q r;refine⟨⟨Bv i.1 r i.1.size Bx,i.2.1.mo r Bx,(i.2.2.Agn r P)⟩,fun i=>?_⟩;refine(Gv [14]∘Yd) ?_;refine LP<|LX ob ao ⟨Z,Z,Z,Z,AB⟩ Z ?_;exact⟨Q,i.2.2,P⟩
     .rintro ob wz⟨eo,mz,gf⟩;have e5:=(LR.1 hK).1
      have e3:wz.heap[D]? =X (.deferred (X [])):=(mz.block D e5 fun q=>by
       obtain⟨_,l',fr,hb,_⟩:=h2.blkT D (by simpa using q);grind).trans hK
      have xz:Bf w wz:=Bv a2 mz a2.size fun k p=>(S k (by simpa using p)).1;have ei:=h8.mo mz d5;have er:=h9.mo mz d6;have f7:=mz.size;refine BT<|KR.region<|OR.val Z Z (Dn (off:=0) underlying226 Z Z Gs Z Z)<|OR.val Z Z (Cg underlying9 Z Z (eo.cell_of Z))<|OR.val Z Z (EX.move Z)<|JA Z Gs Z Z (by first|rfl|assumption|exact Bp.one Cr) (ei) Bl ?_;rintro wy ce bm;replace ce:Bk wy tb 9 [Bj (packS s (CY s))]:=ce;have es:=er.mo bm Bx;refine JA Z VO Z Z (by first|rfl|assumption|exact Bp.one Cr) (es) Bl ?_;rintro wx et cg;refine OR.nil ?_;have ek:=ce.mo cg Bx;have e4:wx.heap[D]? =X (.deferred (X [])):=(cg.block D (by have:=bm.size;omega) Bx).trans ((bm.block D J Bx).trans e3);refine Ke<|zX (.inr Z) Z Z (e4) Z underlying9 Z underlying34 Z Z Z (ek) (et) ?_;refine⟨Z,Bf.putObj (Bv (Bv xz bm xz.size Bx) cg (BF xz.size bm.size) Bx) J _⟩
    .simp
def Bp.apart{w w':Ad}{B T s n B2 T2 s2 n2:Y}{v v2:Ah}{xs xs2:Bm}(h:Bp w B T s v n xs)(h2:Bp w B2 T2 s2 v2 n2 xs2)(hT:T≠T2)(hg:w.grownBy w' v2.ownBlock):Bp w' B T s v n xs:=
 Bp.mo h (Mo.grown (S:=v2.ownBlock.toList) hg (fun k e=>by grind)) fun k hk q=>by
  obtain⟨_,l,hb⟩:=h.blkT k hk;obtain⟨_,l2,hb2⟩:=h2.blkT k Bh;exact hb.ne hb2 hT Z
def Adp(s:Bg)(room d:Y)(out:Bg)(a:Bi):KJ s room 0 d out a=Aa:=by rfl
def Ado{s:Bg}{room f a:Y}{out:Bg}{d:Bi}{r:Bg×Y}(h:KJ s room (f+1) a out d=X r):a+48<=8*Aim s/\
 ((num (BW s a 48)=25779555029136/\a+80<=8*Aim s/\num (BW s (a+48) 32)=Hc d/\r=(out,(a+87)/8))∨
  (num (BW s a 48)=54156738319193/\∃x,NW s a room=X x/\Aim out+Aim x.1<=262144/\KJ s room f x.2.2 (out++x.1) (d++[x.2.1])=X r)):=by
 rw[KJ]at h;grind
def Adm{s:Bg}{p most:Y}{r:Bg×Y×Y}(h:NW s p most=X r):r.2.1=Em r.1:=by
 obtain⟨_,_,_,_,_,_,_,_,_,_,_,_,_,_,e⟩:=nK h;rw[e]
def Adt(s:Bg)(p:Y)(C:Aim s<=1000000000)(r:Bg×Y)(h:takeS s p=X r)(w:Ad):
 Bn prog 92 [Bj s,U (p:H)] w fun v w'=>v=.tuple #[Bj r.1,U ((r.2:Y):H),U ((0:Y):H)]/\Bf w w':=by
 unfold takeS at h;split at h
 .cases h
 rename_i k hk;obtain⟨h1,_,_,_,_,k1,k9⟩:=jk hk;have m:1<=min (k*100000) 262144/\min (k*100000) 262144<=262144:=J;refine Bw func92 Z ntmps92 (by rfl) Z ?_;refine(O 13)<|Zd 21 (fun c1=>?_) fun c1=>?_
 .omega
 .refine(O 6∘Cd 26∘O 6∘Zc (Abw s p k C hk w)) ?_;rintro _ _⟨rfl,rfl⟩;refine(O 12∘Cd 34∘O 21)<|Lo (fun((f,d,j,a,G,E,wr):Y×Y×(Bg)×(Bi)×Ah×Ah×Ad)=>(KJ s (min (k*100000) 262144) f d j a=X r/\Bp wr w.heap.size 5 1 G (Aim j) (BI j)/\Bp wr w.heap.size 58 1 E (Aim a) (BC .u32 a)/\(∀x∈a,x<4294967296)/\Aim a+f<=8*Aim s+1/\Aim j<=262144/\Bf w wr,[(0,Bj (s)),(7,U k),(8,U ((0:Y):H)),(9,G),(10,E),(11,U d)],wr,f)) ((8*Aim s+1),(8*(p+4)),([]),([]),(.slice Aa 0 0),(.slice Aa 0 0),w) ?_ ?_
  .exact⟨h,Bp.nil _ _ _ _,Bp.nil _ _ _ _,(fun x hx=>by grind),Bl,Bl,Bf.refl _⟩
  .rintro⟨f,d,j,a,G,E,wr⟩⟨hl,Q,q,B,hf,al,hx⟩
   obtain⟨f,rfl⟩:∃g,f=g+1:=⟨f-1,by
    rcases f with _|f
    .rw[Adp]at hl;grind
    .omega⟩
   obtain⟨q1,q2⟩:=Ado hl;have af:=Kq s d 48;have cn:=ng s d 48 Bc q1 C wr;refine(O 5∘Zc cn) ?_;rintro _ D⟨rfl,l⟩;refine(O 12∘Cd 46∘O 12) ?_;have x1:=hx.trans l;rcases q2 with⟨e1,W,V,rfl⟩|⟨e1,x,W,V,e4⟩
   .refine(If 49 (e:=e1)∘O 7) ?_;obtain⟨As,cs,rfl,_,I⟩:=q.slice;have a1:=Uu a B;have ai:=Kq s (d+48) 32;refine(Zc (ng s (d+48) 32 Bc J C D)) ?_;rintro _ w2⟨rfl,i⟩;refine(O 12∘Zoa 93 (e:=Z)∘O 3∘Zc (nA a As cs B J w2 _ ((I.ext l).ext i))) ?_;rintro _ _⟨rfl,rfl⟩;refine(O 3∘Cd 99 (e:=by exact fun z=>z V)∘O 8∘Cd 101∘O 5) ?_;obtain⟨Ao,co,rfl,_,n⟩:=Q.slice;refine(Zv (DZ ((n.ext l).ext i))∘O 8∘CS) ?_;exact⟨Z,x1.trans i⟩
   .refine(Cd 49∘O 6∘If 51 (e:=e1)∘O 6∘Zc (mu k J D)) ?_;rintro _ _⟨rfl,rfl⟩;have eq:=Adm W;obtain⟨x,xs,xq⟩:=x;simp only at eq V e4;subst eq;have cz:=Qw x;have cb:=rG s d (min (k*100000) 262144) m C (x,Em x,xq) W D;simp only at cb;refine(Zc cb) ?_;rintro _ w2⟨rfl,i⟩;refine(O 12) ?_;have ao:Aim (BI x)=Aim x:=by simp[BI]
    have x2:=x1.trans i;have A:=(Q.ext l).ext i;have P:=(q.ext l).ext i;obtain⟨Ao,co,rfl,a0,n⟩:=Q.slice;refine(O 4∘Zoa 65 (e:=Z)∘O 8∘Cd 72∘O 8∘Cd 74∘O 5) ?_;refine Ie Z Z underlying23 CD Z Bc Z Z (x2) (A) (Src.Agq underlying9 x) CE J ?_;rintro v3 w3 o N T aj;refine(O 2) ?_;have t:=Bp.apart P A Bc T;refine(GZ N t) ?_;rintro _ v4 w4 ab L S _;refine(O 7) ?_;have K:=Bp.apart o t Bc S;refine Lb (f,xq,(j++x),(a++[Em x]),v3,v4,w4) ?_;refine⟨e4,?_,?_,fun y hy=>?_,Bh,Bh,L⟩
    .rw[BA,Xo];omega
    .rw[BA,<-KC];grind
    .grind
end
section
attribute [local irreducible] OW KW QW EX GW NV
def Bd(w:Ad)(B b:Y)(l:Bg):Prop:=
 B<=b/\∃p v,(p=.pointer Aa∨p=.pointer (X ⟨b,0,Aa⟩))/\Bk w b 102 [p,v]/\(l=[]->v=.slice Aa 0 0)/\Bp w B 5 1 v (Aim l) (BI l)
def Bd.new{w:Ad}{B b:Y}(hB:B<=b)(h:Bk w b 102 [.pointer Aa,.slice Aa 0 0]):Bd w B b []:=⟨hB,_,_,.inl Z,h,fun _=>rfl,Bp.nil _ _ _ _⟩
def Bd.ext{w w':Ad}{B b:Y}{l:Bg}(h:Bd w B b l)(hx:Bf w w'):Bd w' B b l:=by
 obtain⟨g,p,v,f,e,d,a⟩:=h;exact⟨g,p,v,f,e.ext hx,d,a.ext hx⟩
def su(b:Y)(p v:Ah)(w:Ad)(d:p=.pointer Aa∨p=.pointer (X ⟨b,0,Aa⟩))(a:Bk w b 102 [p,v]):
 Bn prog 83 [.pointer (X ⟨b,0,Aa⟩)] w fun r w'=>r=.tuple #[]/\Bk w' b 102 [.pointer (X ⟨b,0,Aa⟩),v]/\Mo w w' [b]:=by
 refine Bw func83 Z ntmps83 Be Z ?_;refine(O 6) ?_;rcases d with rfl|rfl
 .refine(O 6∘Zv (by exact pI (s:=1) underlying100 underlying201 Be a.shape (Nat.zero_lt_succ _) Z)∘Zv (by exact pg func111 Be Be Be (E:=Extern.AbiNoEscape.same) Be Z (Lib.run_noEscape _ _))∘Zv (by exact pj (z:=2) underlying201 underlying100 Be a.shape Be Z)∘O 2∘Zt a) ?_;rintro g f e;refine(O 1) ?_;refine KW.done<|HS Z ?_;grind
 .refine(O 10∘Zv (by exact pC (z:=2) underlying100 Be Z Z)∘O 3) ?_;refine KW.done<|HS Z ?_;exact⟨Z,a,Mo.refl _ _⟩
def OK(T:Ay):Aw:=T==102||T==5
def bF(B b:Y)(l s:Bg)(w:Ad)(h:Bd w B b l)(hs:s≠[])(V:Aim l+Aim s<=140737488355328)(P:B<=w.heap.size):
 Bn prog 49 [.pointer (X ⟨b,0,Aa⟩),Bj s] w fun r w'=>(∃q,r=q)/\Bd w' B b (l++s)/\Below B w w'/\Tm w w' B OK:=by
 obtain⟨t,p,v,hp,L,hn,g⟩:=h;have af:Aim (BI l)=Aim l:=by simp[BI]
 refine Bw func49 Z ntmps49 (by rfl) Z ?_;refine(O 8∘Zc (su b p v w hp L)) ?_;rintro _ C⟨rfl,x,m⟩;refine(O 7) ?_;have a:=g.mo m (fun k f=>by simp;exact fun z=>g.ne L Bc k f z.symm);have b1:Below B w C:=Bv (Below.refl B w) m P (fun k f=>by simp at f;omega);have y:B<=C.heap.size:=BF P b1.size;refine(O 2) ?_;refine OW.append B Z Z underlying23 CD Z Bc Z Z a (Src.Agq underlying9 s) CE J y ?_;rintro v2 A d n ab;refine(O 2) ?_;have o:=x.grown n (fun z=>a.ne x Bc b z.symm Z);have W:Below B w A:=Bv b1 (Mo.grown n (S:=v.ownBlock.toList) (fun k e=>by grind)) y (fun k f=>(a.lt k (Fb.1 f)).1);have N:B<=A.heap.size:=BF P W.size;refine(Zt o) ?_;rintro Q K j;refine(O 8) ?_;have b3:Below B w Q:=Bv W j N (fun k f=>by simp at f;omega);have I:=d.mo j (fun k f=>by simp;exact fun z=>d.ne o Bc k f z.symm);have G:Tm w C B OK:=(Tm.set L m t).mono fun T i=>by simp at i;simp[OK,i]
 have E:Tm C A B OK:=(Tm.grown a n).mono fun T i=>by simp at i;simp[OK,i]
 have D:Tm A Q B OK:=(Tm.set o j t).mono fun T i=>by simp at i;simp[OK,i]
 refine(BH) ?_;refine⟨⟨_,Z⟩,⟨t,_,v2,.inr Z,K,fun q=>absurd q (by simp[hs]),?_⟩,b3,(G.trans E).trans D⟩;rw[BA];have e:BI (l++s)=BI l++BI s:=by simp[BI]
 grind
def oV(B b:Y)(l s:Bg)(w:Ad)(h:Bd w B b l)(hs:s≠[])(hlen:Aim l+Aim s<=140737488355328)(hB:B<=w.heap.size):
 Bn prog 49 [.pointer (X ⟨b,0,Aa⟩),Bj s] w fun r w'=>(∃q,r=q)/\Bd w' B b (l++s)/\Below B w w':=
 (bF B b l s w h hs hlen hB).mono fun _ _ h=>⟨h.1,h.2.1,h.2.2.1⟩
def Xm(B b:Y)(l:Bg)(w:Ad)(h:Bd w B b l)(j:Aim l<=140737488355328)(C:B<=w.heap.size):
 Bn prog 51 [.pointer (X ⟨b,0,Aa⟩)] w fun r w'=>r=Bj l/\Below B w w':=by
 obtain⟨x,p,v,A,d,n,a⟩:=h;refine Bw func51 Z ntmps51 Be Z ?_;refine(O 5) ?_;rcases Decidable.em (l=[])with hl|hl
 .obtain rfl:=n hl;subst hl;refine(O 4∘Zq (by exact fun _=>Bo d)∘Zq (by exact fun _=>pH Z)∘O 3∘Zq (by exact fun _=>Bo d)∘O 1∘Zq (by exact fun _=>pJ Z Z)∘O 1∘QW.nil) fun k=>(Bu) ?_;exact⟨Z,Ul (Below.refl B w) k⟩
 .have e:Aim l≠0:=fun z=>hl (Gx z);rcases a.2 with⟨_,m⟩|⟨g,y,rest,rfl,o,i,f,t,q⟩
  .exact AK m e
  .refine Kf 10 Be Be<|HW.val Z Z (EX.move Z)<|HW.val Z Z (DV Z)<|HW.val Z Z (Dn (off:=1) underlying102 Z Z Ru Z Z)<|HW.val Z Z (Cg underlying23 Z Z (d.cell_of Z))<|HW.val Z Z (cL J Z)<|HW.val Z Z (EX.move Z)<|HW.val Z Z (DV Z)<|HW.val Z Z (Dn (off:=1) underlying102 Z Z Ru Z Z)<|HW.val Z Z (Cg underlying23 Z Z (d.cell_of Z))<|HW.val Z Z (PU underlying23 Z)<|HW.tail<|(Zv (by exact cN (g:=g) (l:=l) (rest:=rest) underlying157 Be (i.drewN _) hl J Z Z)∘O 2∘Bu) ?_;exact⟨Z,Lib.below_freeze (Ul (Below.refl B w) _) (p:=⟨g,0,Aa⟩) o _⟩
end
section
attribute [local irreducible] OW KW QW EX GW NV
open Fld
def YS(l:Bg)(w:Ad):Bn prog 192 [Bj l,.int .u8 ((0:Y):H)] w fun v w'=>v=U (Lib.indexByte l 0)/\w'=w:=
 GY func192 (by rfl) (Tryz.strings_IndexByte ⟨⟨l⟩⟩ 0 w)
def ZN(s:Bg)(Q:Aim s<=140737488355328)(a bs m:Y)(I:Bm)(p:AH->Aw)(f:Y->Ad->Prop)(S:Bi)(E:a∉S)(D:bs∉S)(N:a≠bs)
 (g:∀j w (h:j<Aim s),f j w->Bn prog m ([.int .u8 ((s[j]'h).toNat:H)]++I) w fun v w'=>v=.bool (p (s[j]'h))/\Mo w w' S/\f (if p (s[j]'h)then j+1 else j) w')
 (n:∀j w w',f j w->Mo w w' [a]->f j w')
 (i:Y) (hi:i<=Aim s) (w:Ad) (y:Bk w a 3 [U (i:H)]) (t:Bk w bs 9 [Bj s]) (x:f i w):
 Bn prog 241 [.func (.func m) #[] I.toArray,.pointer (X ⟨a,0,Aa⟩),.pointer (X ⟨bs,0,Aa⟩)] w fun v w'=>
  v=.tuple #[]/\∃i':Y,i'<=Aim s/\s.drop i'=(s.drop i).dropWhile p/\Bk w' a 3 [U (i':H)]/\Bk w' bs 9 [Bj s]/\f i' w'/\Mo w w' (a::S):=by
 refine Bw func241 Z ntmps241 (by rfl) Z ?_;refine(O 1)<|Lo (fun((j,wr):Y×Ad)=>(j<=Aim s/\(s.drop j).dropWhile p=(s.drop i).dropWhile p/\Bk wr a 3 [U (j:H)]/\Bk wr bs 9 [Bj s]/\f j wr/\Mo w wr (a::S),[(0,.func (.func m) #[] I.toArray),(1,.pointer (X ⟨a,0,Aa⟩)),(2,.pointer (X ⟨bs,0,Aa⟩))],wr,Aim s-j)) (i,w) ?_ ?_
 .exact⟨hi,Z,y,t,x,Mo.refl _ _⟩
 .rintro⟨j,wr⟩⟨T,K,y,t,x,B⟩;refine(O 8)<|Zd 8 (fun A=>?_) fun A=>?_
  .refine(O 4∘Ea (g j wr A x)) ?_;rintro _ P⟨rfl,d,e⟩;refine(O 2) ?_;have q:=y.mo d E;have o:=t.mo d D;refine HE Z (fun r=>?_) (fun r=>?_)
   .rw[Ai r]at e;refine(O 5∘Zt q) ?_;rintro L G l;refine(O 2)<|Lb ((j+1),L) ?_;refine⟨J,?_,G,o.mo l Bh,n _ _ _ e l,(B.trans (d.mono (fun k C=>by simp[C]))).trans (l.mono Bl)⟩;rw[<-K,XV s j A,List.dropWhile_cons_of_pos r]
   .rw[Ag (by simp[r])]at e;refine(O 1) ?_;refine KW.done<|HS Z ?_;refine⟨Z,j,J,?_,q,o,e,B.trans (d.mono (fun k C=>by simp[C]))⟩;rw[<-K,XV s j A,cY (by simp[r])]
  .refine(O 9) ?_;refine KW.done<|HS Z ?_;obtain rfl:j=Aim s:=J;refine⟨Z,Aim s,J,?_,y,t,x,B⟩;simp_all
def sp_c(c:AH)(w:Ad):Bn prog 242 [.int .u8 (c.toNat:H)] w fun v w'=>v=.bool (HR 32 32 c)/\w=w':=by
 refine Bw func242 Z ntmps242 (by rfl) Z ?_;refine(O 10∘Bu) ?_;exact⟨by simp[HR],Z⟩
def nul_c(c:AH)(w:Ad):Bn prog 244 [.int .u8 (c.toNat:H)] w fun v w'=>v=.bool (HR 32 0 c)/\w=w':=by
 refine Bw func244 Z ntmps244 (by rfl) Z ?_;refine(O 9)<|Zd 5 (fun a=>?_) fun a=>?_
 .refine(O 5∘Bu) ?_;exact⟨by simp[HR,a],Z⟩
 .refine(O 5∘Bu) ?_;exact⟨by simp[HR,a],Z⟩
def oct_c(c:AH)(g f:Y)(l:g≠f)(n:Y)(y:n<=90071992547409920+255)(w:Ad)(i:Bk w g 4 [.bool (decide (9007199254740992<n))])(h:Bk w f 3 [U (n:H)]):
 Bn prog 243 [.int .u8 (c.toNat:H),.pointer (X ⟨g,0,Aa⟩),.pointer (X ⟨f,0,Aa⟩)] w fun v w'=>v=.bool (Fi c)/\Mo w w' [g,f]/\
  ∃m:Y,m=(if Fi c=Af then(if n<=9007199254740992 then 8*n+(c.toNat-48)else n)else n)/\Bk w' g 4 [.bool (decide (9007199254740992<m))]/\Bk w' f 3 [U (m:H)]:=by
 have A:c.toNat<256:=c.toNat_lt;refine Bw func243 Z ntmps243 (by rfl) Z ?_;refine(O 10)<|Zd 7 (fun r=>?_) fun r=>?_
 .have a:Fi c=Aj:=by simp only[Fi,Rz,decide_eq_false_iff_not];omega
  refine(O 9∘Bu) ?_;rw[a];exact⟨Z,Mo.refl _ _,n,Z,i,h⟩
 .refine(O 4)<|Zi (fun q=>?_) fun q=>?_
  .have a:Fi c=Aj:=by simp only[Fi,Rz,decide_eq_false_iff_not];omega
   refine(O 4∘Bu) ?_;rw[a];exact⟨Z,Mo.refl _ _,n,Z,i,h⟩
  .have a:Fi c=Af:=by simp only[Fi,Bool.and_eq_true,decide_eq_true_eq];omega
   refine(O 7)<|Zi (fun p=>?_) fun p=>?_
   .refine(O 5∘Zv (by exact Kb (b:=48) (m:=255) Z Z Z J)∘O 2∘Zt h) ?_;rintro x j e;refine(O 2) ?_;have k:=i.mo e Bx;refine(O 2∘Zt k) ?_;rintro t o d;refine(O 5∘Bu) ?_;refine⟨by rw[a],(e.mono Bl).trans (d.mono Bl),_,Z,?_,?_⟩
    .grind
    .rw[Ai a,Ai J];exact j.mo d Bx
   .refine(O 5∘Bu) ?_;refine⟨by rw[a],Mo.refl _ _,n,?_,i,h⟩;grind
def tH(l:Bg)(p:AH->Aw):(l.dropWhile p).takeWhile p=[]:=by
 cases h:l.dropWhile p with
 |nil=>rfl
 |cons c r=>
  have:=List.head_dropWhile_not p (l:=l) Bh;simp_all
def yj(s:Bg)(hs:Aim s<=140737488355328)(w:Ad):
 Bn prog 191 [Bj s] w fun v w'=>v=.tuple #[U ((num s).1:Y),U ((num s).2:Y)]/\Bf w w':=by
 refine Bw func191 Z ntmps191 (by rfl) Z ?_;refine(O 2) ?_;refine Mh Z Z Z Z ?_;rintro bs w1 bf E r;refine(O 5∘Ml) ?_;rintro bi w2 bc K l;have l1:=E.lt;refine(Zt K) ?_;rintro w3 a7 x;refine(O 3∘Zv (by exact Gc Z Z)∘O 5) ?_;have a0:=(E.ext l).mo x Bx;have e3:Bf w w3:=Bv (r.trans l) x (by have:=r.size;have:=l.size;omega) Bh;have z2:=l.size;have z1:=r.size;have z3:=x.size;have l2:=K.lt;refine(Ea (ZN s hs bi bs _ [] (HR 32 32) (fun _ _=>True) [] Bl Bl J (fun j w hj _=>(sp_c _ w).mono fun v w'⟨N,L⟩=>⟨N,L▸Mo.refl _ _,AB⟩) (fun _ _ _ _ _=>trivial) 0 J w3 a7 a0 AB)) ?_;rintro _ w4⟨rfl,i4,aj,o,d,p,_,A⟩;refine(O 3) ?_;have e4:Bf w w4:=Bv e3 A J Bx;have z4:=A.size;refine(Ml) ?_;rintro T w5 ba I k;refine(Ml) ?_;rintro V w6 a9 G e;have l5:=I.lt;have l6:=G.lt;have z5:=k.size;have z6:=e.size;refine(Zt (I.ext e)) ?_;rintro w7 a4 g;have a2:=G.mo g Bx;refine(Zt a2) ?_;rintro w8 bq f;refine(O 4∘Zv (by exact Gc Z Z)) ?_;have z7:=g.size;have z8:=f.size;have bx:=a4.mo f Bx;have a6:=(((d.ext k).ext e).mo g (by simp;have:=d.lt;omega)).mo f (by simp;have:=d.lt;omega);have ao:=(((p.ext k).ext e).mo g (by simp;have:=p.lt;omega)).mo f (by simp;have:=p.lt;omega);have e8:Bf w w8:=Bv (Bv ((e4.trans k).trans e) g J Bx) f J Bx
 have af:=ZN s hs bi bs 243 [.pointer (X ⟨V,0,Aa⟩),.pointer (X ⟨T,0,Aa⟩)] Fi (fun j w=>∃n:Y,n<=90071992547409920+255/\Fh 8 n ((s.drop j).takeWhile Fi)=Fh 8 0 ((s.drop i4).takeWhile Fi)/\Bk w V 4 [.bool (decide (9007199254740992<n))]/\Bk w T 3 [U (n:H)]) [V,T] (by simp;have:=d.lt;omega) (by simp;have:=p.lt;omega) J
  (fun j w hj⟨n,Q,q,hb,hi⟩=>(oct_c (s[j]) V T J n Q w hb hi).mono fun v w'⟨N,L,m,B,h3,h4⟩=>by
   have hc:(s[j]).toNat<256:=(s[j]).toNat_lt;refine⟨N,L,m,Bh,?_,h3,h4⟩;rw[<-q,XV s j hj];by_cases ho:Fi s[j]=Af
   .rw[Ai ho]at B ⊢;rw[List.takeWhile_cons_of_pos ho,Fh,B]
   .simp_all)
  (fun j w w'⟨n,Q,q,hb,hi⟩B=>⟨n,Q,q,hb.mo B (by simp;have:=d.lt;omega),hi.mo B (by simp;have:=d.lt;omega)⟩)
  i4 aj w8 a6 ao ⟨0,J,Z,Bh,Bh⟩
 refine(Ea af) ?_;rintro _ w9⟨rfl,i9,ai,C,a5,al,⟨n,Q,q,a1,a3⟩,y⟩;refine(O 4) ?_;have z9:=y.size;have e9:Bf w w9:=Bv e8 y J Bx;refine(Ea (ZN s hs bi bs _ [] (HR 32 0) (fun _ _=>True) [] Bl Bl J (fun j w hj _=>(nul_c _ w).mono fun v w'⟨N,L⟩=>⟨N,L▸Mo.refl _ _,AB⟩) (fun _ _ _ _ _=>trivial) i9 ai w9 a5 al AB)) ?_;rintro _ W⟨rfl,ab,a8,D,bm,bh,_,i⟩;refine(O 4) ?_;have P:Bf w W:=Bv e9 i J Bx;have bj:=a1.mo i Bx;have bl:=a3.mo i Bx;refine(O 5) ?_;rw[C,tH]at q;simp only[Fh]at q;rw[Nh]at o
 have t:(((s.dropWhile (HR 32 32)).dropWhile Fi).dropWhile (HR 32 0)≠[])↔ab<Aim s:=by
  rw[<-o,<-C,<-D];simp
 refine Zi (fun S=>?_) fun S=>?_
 .have a:num s=(0,150):=by simp only[num];rw[Ai (t.2 S)]
  refine(O 5∘BH) ?_;grind
 .refine(O 6)<|Zi (fun h6=>?_) fun h6=>?_
  .have a:num s=(0,3):=by simp only[num];rw[Ag (fun h=>S (t.1 h)),<-o,<-q,Ai h6]
   refine(O 5∘BH) ?_;rw[a];exact⟨Z,P⟩
  .have a:num s=(n,0):=by simp only[num];rw[Ag (fun h=>S (t.1 h)),<-o,<-q,Ag h6]
   refine(O 7∘BH) ?_;rw[a];exact⟨Z,P⟩
def nE(s:Bg)(k:Aim s<=140737488355328)(w:Ad):
 Bn prog 155 [Bj s] w fun v w'=>v=.tuple #[U ((sum s).1:Y),U ((sum s).2:Y)]/\w=w':=by
 refine Bw func155 Z ntmps155 (by rfl) Z ?_;refine(O 12)<|Zi (fun a=>?_) fun a=>?_
 .have j:sum s=(0,2):=by unfold sum;rw[Ai a]
  refine(O 5∘BH) ?_;grind
 .have j:sum s=(Fk s 512,0):=by unfold sum;rw[Ag a]
  have o:Aim s=512:=J;refine(O 13)<|Lo (fun(i:Y)=>(i<=512,[(0,Bj (s)),(4,U (((Fk s i):Y):H)),(10,U ((Aim s:Y):H)),(11,U i)],w,512-i)) 0 ?_ ?_
  .omega
  .rintro i l;have n:=VH s i;refine(O 5)<|Zi (fun d=>?_) fun d=>?_
   .have m:s[i].toNat<256:=s[i].toNat_lt;have f:s.getD i 0=s[i]:=by simp[TK,BN d]
    refine(O 13)<|Zd 16 (fun h=>?_) fun h=>?_
    .refine(O 4)<|Zi (fun g=>?_) fun g=>?_
     .refine(O 10∘Cw 4 (U (((Fk s (i+1)):Y):H)) (e:=by simp[Fk,h,g]))<|Lb (i+1) ?_;omega
     .refine(O 14∘Cw 4 (U (((Fk s (i+1)):Y):H)) (e:=by simp only[Fk];rw[Ag J,f]))<|Lb (i+1) ?_;omega
    .refine(O 19∘Cw 4 (U (((Fk s (i+1)):Y):H)) (e:=by simp only[Fk];rw[Ag J,f]))<|Lb (i+1) ?_;omega
   .obtain rfl:i=512:=J;refine(O 7∘BH) ?_;grind
def Xp(n:Y):BI (Cx n)=BG n (.int .u8 0):=by simp[BI,Cx]
def Ss(s:Bg)(f:Aim s<=140737488355328)(w:Ad):
 Bn prog 154 [Bj s] w fun v w'=>v=Bj (cut s)/\w=w':=by
 refine Bw func154 Z ntmps154 (by rfl) Z ?_;refine(O 8∘Zc (YS s w)) ?_;rintro _ _⟨rfl,rfl⟩;refine(O 7) ?_;rcases Pb s 0 with⟨a,d⟩|⟨i,a,d,e,g⟩
 .rw[a];refine Zi (fun h=>?_) fun h=>?_
  .omega
  .refine(O 6∘Bu) ?_;rw[Uw d];exact⟨Z,Z⟩
 .rw[a];refine Zi (fun h=>?_) fun h=>?_
  .refine(O 4∘Zv (by exact Ka underlying9 Z Z J)∘O 2∘Bu) ?_;rw[cut,e];exact⟨Z,Z⟩
  .omega
def Vc(n:Y):Aim (Cx n)=n:=by simp[Cx]
def nR{s:Bg}{m:H}(h:m<0∨512<m):text s m=([],2):=by unfold text;grind
def aV{s:Bg}{m:H}(h:¬(m<0∨512<m))(h2:m<Aim s∨cut s≠s):text s m=([],150):=by unfold text;grind
def nX{s:Bg}{m:H}(h:¬(m<0∨512<m))(h2:¬(m<Aim s∨cut s≠s)):text s m=(s++Cx (m.toNat-Aim s),0):=by unfold text;grind
def Aei(s:Bg)(y:Aim s<=140737488355328)(n:H)(h0:-9223372036854775808<=n)(h1:n<=9223372036854775807)(w:Ad):
 Bn prog 260 [Bj s,U n] w fun v w'=>v=.tuple #[Bj (text s n).1,U ((text s n).2:Y)]/\Bf w w':=by
 refine Bw func260 Z ntmps260 (by rfl) Z ?_;refine(O 11)<|Zd 8 (fun j=>?_) fun j=>?_
 .have a:=nR (s:=s) (.inl j);refine(O 10∘BH) ?_;rw[a];exact⟨Z,Bf.refl _⟩
 .refine(O 4)<|Zi (fun h=>?_) fun h=>?_
  .have a:=nR (s:=s) (.inr h);refine(O 5∘BH) ?_;rw[a];exact⟨Z,Bf.refl _⟩
  .have d:¬(n<0∨512<n):=J;obtain⟨m,rfl⟩:=Fq (show 0<=n by omega);refine(O 9)<|Zd 16 (fun p=>?_) fun p=>?_
   .have a:=aV d (.inl (show(m:H)<Aim s by omega));refine(O 11∘BH) ?_;rw[a];exact⟨Z,Bf.refl _⟩
   .refine(O 1∘Zc (YS s w)) ?_;rintro _ _⟨rfl,rfl⟩;refine(O 3) ?_;rcases Pb s 0 with⟨f,k⟩|⟨i,f,k,A,r⟩
    .rw[f];have a:=nX (s:=s) (m:=(m:H)) d (by rintro(q|q);omega;exact q (Uw k));refine Zi (fun e=>?_) fun e=>?_
     .omega
     .refine(O 8∘Gf) ?_;rintro b t o g x;rw[<-Xp]at g;have l:=Vc (m-Aim s);refine(Zv (DZ g.sl (hl:=Vc _))∘O 4∘BH) ?_;grind
    .rw[f];have a:=aV (s:=s) (m:=(m:H)) d (.inr (fun q=>(Uv s).1 q r));refine Zi (fun e=>?_) fun e=>?_
     .refine(O 5∘BH) ?_;rw[a];exact⟨Z,Bf.refl _⟩
     .omega
def kW{n m:H}(h:m<2∨20<m):Ei n m=([],2):=by unfold Ei;grind
def ZF{n:H}{k:Y}(h:1<=k)(hk:k<=19)(h2:n<0∨n/8 ^ k≠0):Ei n ((k+1:Y):H)=([],150):=by
 unfold Ei;grind
def ZG{n k:Y}(h:1<=k)(hk:k<=19)(h2:n/8 ^ k=0):Ei (n:H) ((k+1:Y):H)=(Dk n k++[0],0):=by
 unfold Ei;grind
def yl(n k c:Y)(e:c<k):(BI (Cx (k-c)++Dk n c++[0])).set (k-1-c) (.int .u8 ((Lr (n/8 ^ c%8)).toNat:H))=BI (Cx (k-(c+1))++Dk n (c+1)++[0]):=by
 have d:Cx (k-c)=Cx (k-(c+1))++[0]:=by
  unfold Cx;rw[show k-c=(k-(c+1))+1 by omega,Ow]
 have a:Aim (BI (Cx (k-(c+1))))=k-1-c:=by simp[BI,Cx];omega
 rw[d,Ve];simp only[Cq,RT,FM,Xo];rw[<-a,Md _ _ (Bq _)];simp[BI]
def tB{d:Y}(h:d<10):(Lr d).toNat=48+d:=by
 simp[Lr];omega
def kX(n:H)(h0:-9223372036854775808<=n)(h1:n<=9223372036854775807)(m:H)(Q:-9223372036854775808<=m)(P:m<=9223372036854775807)(w:Ad):
 Bn prog 222 [U n,U m] w fun v w'=>v=.tuple #[Bj (Ei n m).1,U ((Ei n m).2:Y)]/\Bf w w':=by
 refine Bw func222 Z ntmps222 (by rfl) Z ?_;refine(O 11)<|Zd 10 (fun B=>?_) fun B=>?_
 .have d:=kW (n:=n) (.inl B);refine(O 10∘BH) ?_;rw[d];exact⟨Z,Bf.refl _⟩
 .refine(O 4)<|Zi (fun A=>?_) fun A=>?_
  .have d:=kW (n:=n) (.inr A);refine(O 5∘BH) ?_;rw[d];exact⟨Z,Bf.refl _⟩
  .obtain⟨k,rfl⟩:∃k:Y,m=((k+1:Y):H):=⟨m.toNat-1,J⟩;have g:1<=k/\k<=19:=J;refine(O 7)<|Zd 16 (fun y=>?_) fun y=>?_
   .have d:=ZF g.1 g.2 (.inl y);refine(O 14∘BH) ?_;rw[d];exact⟨Z,Bf.refl _⟩
   .obtain⟨a,rfl⟩:=Fq (show 0<=n by omega);refine(O 4∘Zv (by exact IG (s:=3*(k+1-1)) (p:=8 ^ k) Z Z (by rw[Nat.pow_mul];rfl) (by show 3*(k+1-1)<=64;omega))∘O 3)<|Zi (fun r=>?_) fun r=>?_
    .have d:=ZF (n:=(a:H)) g.1 g.2 (.inr (fun q=>r Bh));refine(O 5∘BH) ?_;rw[d];exact⟨Z,Bf.refl _⟩
    .have d:=ZG (n:=a) g.1 g.2 (Dm.1 r);refine(O 4∘Gf) ?_;rintro b D I l G;refine(O 10∘Cw 7 (U (((k:H)-1-((0:Y):H)):H)) (e:=by congr 1;omega)) ?_;rw[<-Xp]at l;refine Lo (fun((c,x,wr):Y×Y×Ad)=>(c<=k/\x=a/8 ^ c/\x<=9223372036854775807/\Bk wr b 5 (BI (Cx (k-c)++Dk a c++[0]))/\Bf w wr,[(0,U x),(6,.slice (X ⟨b,0,Aa⟩) (k+1) (k+1)),(7,U (((k:H)-1-(c:H)):H))],wr,k-c)) (0,a,D) ?_ ?_
     .refine⟨J,Bl,J,?_,G⟩;have:Cx (k-0)++Dk a 0++[0]=Cx (k+1):=by simp[Cx,Dk,Ow]
      grind
     .rintro⟨c,x,wr⟩⟨N,h,E,l,f⟩;refine(O 6)<|Zi (fun L=>?_) fun L=>?_
      .refine(Cw 7 (U (((k-1-c):Y):H)) (e:=by congr 1;omega)) ?_;have t:Aim (BI (Cx (k-c)++Dk a c++[0]))=k+1:=by simp[BI,Cx,QT];omega
       refine(O 8∘Zv (by exact Nb (b:=7) (j:=3) (p:=8) (m:=9223372036854775807) Z Z Bc Bc Z J)∘O 3∘Zt l) ?_;rintro C K o;refine(O 3) ?_;refine OW.val Z Z (by first|exact IG (s:=3) (p:=8) Z Z Bc Bc|exact EX.shrZ (s:=3) (p:=8) Z Z Bc Bc)<|(O 8∘Cw 7 (U (((k:H)-1-((c+1:Y):H)):H)) (e:=by congr 1;omega))<|Lb ((c+1),(x/8),C) ?_;refine⟨J,by rw[h,WP,IQ],J,?_,Bv f o f.size Bh⟩;rw[<-yl _ _ _ J,tB J,<-h];omega
      .obtain rfl:c=k:=J;refine(O 4) ?_;have i:=l.sl;rw[EP]at i;refine(Zv (DZ i (hl:=by simp[Cx,QT]))∘O 3∘BH) ?_;rw[d];exact⟨Z,f⟩
def ym(n m:H):Aim (Ei n m).1<=20:=by
 unfold Ei;split
 .simp
 .split
  .simp
  .simp[QT];omega
def Aeg(s:Bg)(m:H):Aim (text s m).1<=512:=by
 unfold text;split
 .simp
 .split
  .simp
  .simp[Cx];omega
def Aeh{s:Bg}{m:H}(h:(text s m).2=0):cut (text s m).1=s/\(Aim (text s m).1:H)=m:=by
 unfold text at h ⊢;split at h
 .simp at h
 .rename_i d;rw[Ag d];split at h
  .simp at h
  .rename_i a;rw[Ag a];refine⟨fy (MX fun q=>a (.inr q)) _,?_⟩;simp[Cx];omega
end
section
attribute [local irreducible] OW KW QW EX GW NV
open Fld Ust
abbrev Fd:=Bg×Y
def Im(f:Fd):Bm:=[Bj f.1,U ((f.2:Y):H)]
def FH(s:Bg)(width most:H):Fd:=((text s width).1,if most<(Aim s:H)then 150 else(text s width).2)
def EM(s:Bg)(t:Aim s<=140737488355328)(n:H)(h0:-9223372036854775808<=n)(h1:n<=9223372036854775807)(m:H)(w:Ad):
 Bn prog 220 [Bj s,U n,U m] w fun v w'=>v=.agg (Im (FH s n m)).toArray/\Bf w w':=by
 refine Bw func220 Z ntmps220 Be Z ?_;refine(O 2∘Zn) ?_;rintro y r p o i;refine(O 5∘Zc (Aei s t n h0 h1 r)) ?_;rintro _ x⟨rfl,f⟩;refine(O 14) ?_;have g:=o.ext f;have h:=i.trans f;refine Zi (fun j=>?_) fun j=>?_
 .have e:FH s n m=((text s n).1,150):=by unfold FH;rw[Ai j]
  refine(O 8∘Zs g (hlt:=Bq _)) ?_;rintro q d a;refine(O 1∘Kn d) ?_;rw[e];exact⟨Z,Bv h a h.size (fun k l=>by simp at l;omega)⟩
 .have e:FH s n m=((text s n).1,(text s n).2):=by unfold FH;rw[Ag j]
  refine(O 6∘Zs g (hlt:=Bq _)) ?_;rintro q d a;refine(O 1∘Kn d) ?_;rw[e];exact⟨Z,Bv h a h.size (fun k l=>by simp at l;omega)⟩
def HB(n:H)(h0:-9223372036854775808<=n)(h1:n<=9223372036854775807)(m:H)(p:-9223372036854775808<=m)(o:m<=9223372036854775807)(w:Ad):
 Bn prog 221 [U n,U m] w fun v w'=>v=.agg (Im (Ei n m)).toArray/\Bf w w':=by
 refine Bw func221 Z ntmps221 Be Z ?_;refine(O 2∘Zn) ?_;rintro x l j h d;refine(O 5∘Zc (kX n h0 h1 m p o l)) ?_;rintro _ r⟨rfl,a⟩;refine(O 11) ?_;have g:=h.ext a;have i:=d.trans a;refine(Zs g (hlt:=Bq _)) ?_;rintro q f e;refine(O 1∘Kn f) ?_;exact⟨Z,Bv i e i.size (fun k t=>by grind)⟩
def FR(l:Ae Fd):Bg×Aw:=if ∀f∈l,f.2=0 then(l.flatMap (·.1),Af)else([],Aj)
def My(l:Ae Fd)(T:∀f∈l,f.2=0->f.1≠[])(t:∀f∈l,Aim f.1<=1000)(hl:Aim l<=1000)(A:Av AC)(k B:Y)(w:Ad)(hs:Sl w B A (l.flatMap Im)):
 Bn prog 219 [.slice A (Aim l) k] w fun v w'=>v=.tuple #[Bj (FR l).1,.bool (FR l).2]/\Bf w w':=by
 have r:∀i,Aim ((l.take i).flatMap (·.1))<=1000*i:=by
  intro i
  induction i with
  |zero=>simp
  |succ i ih=>
   rw[Me];grind
 refine Bw func219 Z ntmps219 (by rfl) Z ?_;refine(O 7∘Zn) ?_;rintro L w1 y af P;refine(O 9)<|Lo (fun((i,wr):Y×Ad)=>(i<=Aim l/\(∀j f,j<i->l[j]? =X f->f.2=0)/\Bd wr w.heap.size L ((l.take i).flatMap (·.1))/\Bf w wr,[(4,.pointer (X ⟨L,0,Aa⟩)),(7,.slice A (Aim l) k),(8,U ((Aim l:Y):H)),(9,U i)],wr,Aim l-i)) (0,w1) ?_ ?_
 .exact⟨J,fun j f K=>by omega,Bd.new y af,P⟩
 .rintro⟨i,wr⟩⟨hi,hz,n,I⟩;have Q:=r i;refine(O 5)<|Zi (fun a=>?_) fun a=>?_
  .obtain⟨b,o,rfl,_,d⟩:=(hs.ext I).flat (c:=2) (fun _=>rfl) Bl a;have m:=BM a;have S:l.take (i+1)=l.take i++[l[i]]:=(CR a).symm;have x:l[i]? =X l[i]:=BN a;have W:=t _ m;have C:=T _ m;generalize l[i]=f at d S x W C;refine(O 6∘Zv (Do (Im f) d)∘Zn) ?_;rintro fb w2 ai ab q;refine(Zs ab (hlt:=Bq _)) ?_;rintro N D V;refine(O 5) ?_;replace D:Bk N fb 316 (Im f):=D;have p:Bf wr N:=Bv q V q.size (fun k hk=>by grind);have x3:=I.trans p;have E:=n.ext p;refine(O 3)<|Zi (fun G=>?_) fun G=>?_
   .refine(O 5∘BH) ?_
    have e:FR l=([],Aj):=by
     unfold FR;rw[Ag];intro h;have:=h f (RS x);omega
    grind
   .have h0:f.2=0:=J;refine(O 4∘Zc (oV w.heap.size L _ f.1 N E (C h0) J x3.size)) ?_;rintro _ w4⟨⟨q4,rfl⟩,aj,b4⟩;refine(O 6)<|Lb ((i+1),w4) ?_;refine⟨J,fun j g K hg=>?_,?_,Below.trans x3 b4⟩
    .grind
    .grind
  .obtain rfl:i=Aim l:=J;rw[DY]at n Q;refine(O 3∘Zc (Xm w.heap.size L _ wr n J I.size)) ?_;rintro _ w5⟨rfl,b5⟩;refine(O 3∘BH) ?_
   have e:FR l=(l.flatMap (·.1),Af):=by
    unfold FR;rw[Ai];intro f hf;obtain⟨j,K,rfl⟩:=List.getElem_of_mem hf;exact hz j _ K (BN K)
   rw[e];exact⟨Z,Below.trans I b5⟩
end
section
attribute [local irreducible] OW KW QW EX GW NV
def lL(p:Bg)(x:Aim p<=9223372036854775807)(w:Ad):Bn prog 127 [Bj p] w fun v w'=>∃r,v=.tuple #[Bj r.1,Bj r.2.1,.bool r.2.2]/\RI p r/\Bf w w':=by
 refine Bw func127 Z ntmps127 Be Z ?_;refine(O 13)<|Zi (fun d=>?_) fun d=>?_
 .refine(O 7∘CS) ?_;exact⟨([],p,Af),Z,.inl ⟨J,Z⟩,Bf.refl _⟩
 .refine(O 7)<|Lo (fun(i:Y)=>((1<=i/\i<=Aim p/\∀j,j<i->¬good p j),[(0,Bj (p)),(5,U i)],w,Aim p-i)) 1 ?_ ?_
  .exact⟨J,J,fun j f a=>by have:=a.2.1;omega⟩
  .rintro i⟨m,y,l⟩
   have stop:¬(i<Aim p-1/\i<=155)->∀j,¬good p j:=fun h j a=>by
    rcases Db j i with f|f
    .grind
    .have:=a.2.2;omega
   have step:¬good p i->∀j,j<i+1->¬good p j:=fun h j f=>by
    grind
   refine(O 9)<|Zd 15 (fun q=>?_) fun q=>?_
   .refine(O 4)<|Zi (fun o=>?_) fun o=>?_
    .have e:i<Aim p:=J;have g:=uM e;refine(O 10)<|Zd 25 (fun k=>?_) fun k=>?_
     .refine(O 8)<|Zi (fun n=>?_) fun n=>?_
      .have a:good p i:=g.2 ⟨k,J,J,J,J⟩;refine(O 4∘Zq (by exact fun _=>Ka underlying9 Z Z J)∘O 3∘Zq (by exact fun _=>Nd underlying9 Z Z J)∘O 3∘QW.nil) fun t=>(CS) ?_;exact⟨(p.take i,p.drop (i+1),Af),Z,.inr (.inl ⟨J,i,a,l,Z⟩),Bf.drewN _ _⟩
      .refine(O 7)<|Lb (i+1) ?_;grind
     .refine(O 16)<|Lb (i+1) ?_;grind
    .refine(O 7∘CS) ?_;exact⟨([],[],Aj),Z,.inr (.inr ⟨J,stop J,Z⟩),Bf.refl _⟩
   .refine(O 12∘CS) ?_;exact⟨([],[],Aj),Z,.inr (.inr ⟨J,stop J,Z⟩),Bf.refl _⟩
end
section
attribute [local irreducible] OW KW QW EX GW NV
open Fld Ust
def _root_.Go.Proofs.YtkmlafmjaeeanaaGreatDoor.Ust.Hd.cells(h:Hd):Bm:=[Bj h.path,U h.size,.int .u8 (h.kind:H),U h.mode,U h.time,Bj h.link,Bj h.n0,Bj h.n1,U h.i0,U h.i1]
def Kd(n:H):Prop:=-9223372036854775808<=n/\n<=9223372036854775807
structure _root_.Go.Proofs.YtkmlafmjaeeanaaGreatDoor.Ust.Hd.Ok(h:Hd):Prop where
 kind:h.kind<=255
 path:Aim h.path<=140737488351232
 link:Aim h.link<=140737488351232
 n0:Aim h.n0<=140737488351232
 n1:Aim h.n1<=140737488351232
 size:Kd h.size
 mode:Kd h.mode
 time:Kd h.time
 i0:Kd h.i0
 i1:Kd h.i1
def QG{s:Bg}{n m:Y}(h:KE s m)(hm:m<=n)(a:n<=512):FH s (n:H) (m:H)=(DO s n,0):=by
 have d:=h.1;unfold FH;rw[Ag J,nX J (by rw[not_or,Dm];exact⟨J,Uw h.2⟩)];rfl
def uc{s:Bg}{n m:Y}(h:¬KE s m)(a:n<=512):(FH s (n:H) (m:H)).2≠0:=by
 unfold FH;simp only;split
 .decide
 .rename_i d;rw[aV J (.inr fun e=>h ⟨J,(Uv s).1 e⟩)];decide
def QS{n:H}{k:Y}(hk:1<=k)(d:k<=19){m:H}(h:CH n m)(hm:m<((8 ^ k:Y):H)):Ei n ((k+1:Y):H)=(oc n k,0):=by
 obtain⟨a,rfl⟩:=Fq h.1;have:=QB h hm;rw[ZG hk d Bh];rfl
def yn{n:H}{k:Y}(hk:1<=k)(d:k<=19){m:H}(h:¬CH n m)(hm:m+1=((8 ^ k:Y):H)):(Ei n ((k+1:Y):H)).2≠0:=by
 rw[ZF hk d]
 .decide
 .by_cases j:n<0
  .omega
  .refine .inr fun e=>h ⟨J,?_⟩;obtain⟨a,rfl⟩:=Fq (show 0<=n by omega);have g:(((a/8 ^ k:Y)):H)=0:=by simpa using e
   have f:a/8 ^ k=0:=by exact_mod_cast g
   have i:a<8 ^ k:=by
    rcases Nat.div_eq_zero_iff.1 f with h|h
    .grind
    .omega
   omega
def L1(h:Hd)(name:Bg):Ae Fd:=[FH name 100 100,Ei h.mode 8,Ei h.i0 8,Ei h.i1 8,Ei h.size 12,Ei h.time 12,FH [] 8 8]
def L2(h:Hd)(pre:Bg):Ae Fd:=[([BS h.kind],0),FH h.link 100 100,(magic,0),FH h.n0 32 31,FH h.n1 32 31,Ei 0 8,Ei 0 8,FH pre 155 155,FH [] 12 12]
def gu(n:Y)(h:n<=512):FH [] (n:H) (n:H)=(Cx n,0):=by
 rw[QG (s:=[]) (n:=n) (m:=n) ⟨Bl,Bl⟩ (Bq _) h];rfl
def vL{h:Hd}(hm:May h){pre a:Bg}(g:Aim a<=100)(f:Aim pre<=155)(e:(0:AH)∉a)(d:(0:AH)∉pre):
 FR (L1 h a)=((Hv h a).flatten++Cx 8,Af)/\FR (L2 h pre)=((HV h pre).flatten,Af):=by
 have C:=QG (s:=a) (n:=100) (m:=100) ⟨g,e⟩ Bc Bc;have B:=QS (k:=7) Bc Bc hm.mode Bc;have A:=QS (k:=7) Bc Bc hm.i0 Bc;have y:=QS (k:=7) Bc Bc hm.i1 Bc;have x:=QS (k:=11) Bc Bc hm.size Bc;have w:=QS (k:=11) Bc Bc hm.time Bc;have v:=gu 8 Bc;have t:=QG (s:=h.link) (n:=100) (m:=100) hm.link Bc Bc;have r:=QG (s:=h.n0) (n:=32) (m:=31) hm.n0 Bc Bc;have q:=QG (s:=h.n1) (n:=32) (m:=31) hm.n1 Bc Bc;have p:=QS (n:=0) (m:=0) (k:=7) Bc Bc ⟨Bc,Bc⟩ Bc;have o:=QG (s:=pre) (n:=155) (m:=155) ⟨f,d⟩ Bc Bc;have l:=gu 12 Bc
 have j:L1 h a=[(DO a 100,0),(oc h.mode 7,0),(oc h.i0 7,0),(oc h.i1 7,0),(oc h.size 11,0),(oc h.time 11,0),(Cx 8,0)]:=by
  rw[<-C,<-B,<-A,<-y,<-x,<-w,<-v];rfl
 have i:L2 h pre=[([BS h.kind],0),(DO h.link 100,0),(magic,0),(DO h.n0 32,0),(DO h.n1 32,0),(oc 0 7,0),(oc 0 7,0),(DO pre 155,0),(Cx 12,0)]:=by
  rw[<-t,<-r,<-q,<-p,<-o,<-l];rfl
 constructor
 .rw[j];unfold FR;rw[Ai Bl];simp[Hv]
 .rw[i];rfl
def jC{l:Ae Fd}(h:(FR l).2=Af):∀f∈l,f.2=0:=by
 unfold FR at h;grind
def vK{h:Hd}{pre a:Bg}(hk:IU h.kind)(d:(0:AH)∉h.path)(h1:(FR (L1 h a)).2=Af)(h2:(FR (L2 h pre)).2=Af):May h:=by
 have e:=jC h1;have i:=jC h2;have p:∀{n:H} {k:Y} {m:H},1<=k->k<=19->m+1=((8 ^ k:Y):H)->(Ei n ((k+1:Y):H)).2=0->CH n m:=fun hk g j d=>MX fun f=>yn hk g f j d;have q:∀{s:Bg} {n m:Y},n<=512->(FH s (n:H) (m:H)).2=0->KE s m:=fun f d=>MX fun h=>uc h f d
 exact⟨hk,d,q (n:=100) Bc (i _ (by simp[L2])),q (n:=32) Bc (i (FH h.n0 32 31) (by simp[L2])),q (n:=32) Bc (i (FH h.n1 32 31) (by simp[L2])),
  p (k:=7) Bc Bc Bc (e (Ei h.mode 8) (by simp[L1])),p (k:=7) Bc Bc Bc (e (Ei h.i0 8) (by simp[L1])),p (k:=7) Bc Bc Bc (e (Ei h.i1 8) (by simp[L1])),
  p (k:=11) Bc Bc Bc (e (Ei h.size 12) (by simp[L1])),p (k:=11) Bc Bc Bc (e (Ei h.time 12) (by simp[L1]))⟩
structure FdOk(f:Fd):Prop where
 ne:f.2=0->f.1≠[]
 len:Aim f.1<=1000
def OX{s:Bg}{n:Y}{m:H}(h0:1<=n):FdOk (FH s (n:H) m):=by
 refine⟨fun h e=>?_,?_⟩
 .unfold FH at h e;simp only at h e;split at h
  .omega
  .have:=(Aeh h).2;grind
 .have:=Aeg s n;show Aim (text s n).1<=1000;omega
def OV(n:H)(m:Y)(hm:2<=m):FdOk (Ei n (m:H)):=by
 refine⟨fun h e=>?_,?_⟩
 .unfold Ei at h e;split at h
  .exact AK h Bc
  .rename_i d;rw[Ag d]at e;split at h
   .exact AK h Bc
   .rename_i a;rw[Ag a]at e;simp at e
 .have:=ym n m;omega
def l1_ok(h:Hd)(a:Bg):∀f∈L1 h a,FdOk f:=by
 intro f d;simp only[L1,List.mem_cons,List.not_mem_nil,or_false]at d;rcases d with rfl|rfl|rfl|rfl|rfl|rfl|rfl
 .exact OX (n:=100) Bc
 .exact OV _ 8 Bc
 .exact OV _ 8 Bc
 .exact OV _ 8 Bc
 .exact OV _ 12 Bc
 .exact OV _ 12 Bc
 .exact OX (n:=8) Bc
def l2_ok(h:Hd)(pre:Bg):∀f∈L2 h pre,FdOk f:=by
 intro f a;simp only[L2,List.mem_cons,List.not_mem_nil,or_false]at a;rcases a with rfl|rfl|rfl|rfl|rfl|rfl|rfl|rfl|rfl
 .exact⟨fun _=>by simp,Bl⟩
 .exact OX (n:=100) Bc
 .exact⟨fun _=>by decide,Bc⟩
 .exact OX (n:=32) Bc
 .exact OX (n:=32) Bc
 .exact OV _ 8 Bc
 .exact OV _ 8 Bc
 .exact OX (n:=155) Bc
 .exact OX (n:=12) Bc
def MD{w:Ad}{b k:Y}{T:Ay}(h:Bk w b T [.int .u8 (k:H)])(hk:k<=255):Sl w w.heap.size (X ⟨b,0,Aa⟩) (BI [BS k]):=by
 have e:BI [BS k]=[.int .u8 (k:H)]:=by
  have:(BS k).toNat=k:=Bx;simp[BI,this]
 rw[e];exact h.sl
def sr(c:Y)(d:c<=255)(w:Ad):Bn prog 168 [Bj [48,53,120,103],Bj [BS c]] w fun v w'=>v=.bool (decide (IU c))/\w=w':=by
 refine(GY func168 (by rfl) (Tryz.strings_Contains_one ⟨#[48,53,120,103]⟩ (BS c) w)).mono ?_;rintro v w'⟨rfl,rfl⟩;refine⟨Ar Value.bool (decide_eq_decide.2 ?_),Z⟩;have e:(BS c).toNat=c:=Bx
 have a:BS c∈([48,53,120,103]:Bg)↔IU c:=by
  unfold IU;simp only[List.mem_cons,List.not_mem_nil,or_false,<-Ll,e];rfl
 rcases Pb [48,53,120,103] (BS c)with⟨h1,h2⟩|⟨i,h1,_,_,h2⟩
 .grind
 .grind
def Aeu(h:Hd)(ho:h.Ok)(w:Ad):Bn prog 166 [.agg h.cells.toArray] w fun v w'=>v=.tuple #[Bj (JJ h).1,U (((JJ h).2:Y):H)]/\Bf w w':=by
 have hk:=ho.kind;have b7:=ho.path;have q1:=ho.size;have q2:=ho.mode;have q3:=ho.time;have q4:=ho.i0;have q5:=ho.i1;unfold Kd at q1 q2 q3 q4 q5;refine Bw func166 Z ntmps166 Be Z ?_;refine(O 2) ?_;refine DB Z Z Z ?_;rintro Q w0 b4 a6 bl;refine(O 6) ?_;replace a6:Bk w0 Q 167 h.cells:=a6;refine(O 1∘Zc (lL h.path J w0)) ?_;rintro _ w1⟨r,rfl,hr,ao⟩;refine(O 10) ?_;obtain rfl:=nt hr;have x1:=bl.trans ao;have b2:=a6.ext ao;rcases hs1:(BP h.path).2.2 with _|_
 .skip
  have e:JJ h=([],140):=by unfold JJ;rw[Ai (.inl hs1)]
  refine(O 15∘BH) ?_;grind
 .skip
  refine(O 6∘Zv (by exact HD (r:=[]) Z Z)∘O 2)<|Zi (fun ai=>?_) fun ai=>?_
  .have e:JJ h=([],140):=by unfold JJ;rw[Ai (.inr ai)]
   refine(O 5∘BH) ?_;grind
  .obtain⟨p1,p2,p3,p4,p5,p6,p7⟩:=aI hs1 ai;have b8:¬((BP h.path).2.2=Aj∨h.path=[]):=by rw[hs1];simp[ai]
   have bi:¬May h->JJ h=([],160):=fun hm=>by unfold JJ;grind
   have bh:May h->JJ h=(CW h,0):=fun hm=>by unfold JJ;grind
   refine(O 6) ?_;refine Li 1 Z Z underlying23 CD Z Z Z Z (by rfl) Bc ?_;rintro kb N L bs p;have x2:=x1.trans p;have b1:=b2.ext p;refine(Zv (DZ (MD bs hk))∘Zc (sr h.kind hk N)) ?_;rintro _ _⟨rfl,rfl⟩;refine(O 2)<|Zd 34 (fun a4=>?_) fun a4=>?_
   .have a0:¬IU h.kind:=by simpa using a4
    refine(O 12∘BH) ?_;rw[bi fun hm=>a0 hm.kind];exact⟨Z,x2⟩
   .have a0:IU h.kind:=by simpa using a4
    refine(O 2∘Zc (YS h.path N)) ?_;rintro _ w3⟨rfl,rfl⟩;refine(O 3) ?_;have bf:=Pb h.path 0;refine Zi (fun hz=>?_) fun hz=>?_
    .have al:(0:AH)∈h.path:=by
      rcases bf with⟨q,_⟩|⟨_,_,_,_,q⟩
      .omega
      .exact q
     refine(O 5∘BH) ?_;rw[bi fun hm=>hm.path al];exact⟨Z,x2⟩
    .have al:(0:AH)∉h.path:=by
      rcases bf with⟨_,q⟩|⟨_,q,_⟩
      .exact q
      .omega
     have nl:=l1_ok h (BP h.path).2.1;have A:=l2_ok h (BP h.path).1;refine(O 2)<|Lc (fun(wr:Ad)=>(Bf w wr/\Bk wr Q 167 h.cells,[(1,.pointer (X ⟨Q,0,Aa⟩)),(4,Bj ((BP h.path).1)),(7,Bj ((FR (L1 h (BP h.path).2.1)).1)),(6,.bool (FR (L1 h (BP h.path).2.1)).2)],wr)) ?_ ?_
     .skip
      refine(Yr 27 (fun w'=>Bf w w'/\Bk w' Q 167 h.cells) ⟨x2.trans (Bf.drew w3),b1.drew⟩) fun a=>(Gv [0,2,3,5,6,7,9,10,11,13,14,16,17]∘Yc 1 (EM (BP h.path).2.1 J ((100:Y):H) Bc Bc ((100:Y):H) w3.drew)) ?_;rintro _ w1⟨rfl,ao⟩;refine⟨⟨a.1.trans ao,a.2.ext ao⟩,fun a=>?_⟩;refine(Yc 4 (HB h.mode q2.1 q2.2 ((8:Y):H) Bc Bc w1)) ?_;rintro _ w4⟨rfl,a9⟩;refine⟨⟨a.1.trans a9,a.2.ext a9⟩,fun a=>?_⟩;refine(Yc 8 (HB h.i0 q4.1 q4.2 ((8:Y):H) Bc Bc w4)) ?_;rintro _ w8⟨rfl,a8⟩;refine⟨⟨a.1.trans a8,a.2.ext a8⟩,fun a=>?_⟩;refine(Yc 12 (HB h.i1 q5.1 q5.2 ((8:Y):H) Bc Bc w8)) ?_;rintro _ af⟨rfl,y⟩;refine⟨⟨a.1.trans y,a.2.ext y⟩,fun a=>?_⟩;refine(Yc 15 (HB h.size q1.1 q1.2 ((12:Y):H) Bc Bc af)) ?_;rintro _ bj⟨rfl,a2⟩;refine⟨⟨a.1.trans a2,a.2.ext a2⟩,fun a=>?_⟩;refine(Yc 18 (HB h.time q3.1 q3.2 ((12:Y):H) Bc Bc bj)) ?_;rintro _ I⟨rfl,m⟩;refine⟨⟨a.1.trans m,a.2.ext m⟩,fun a=>?_⟩;refine(Yc 19 (EM [] Bl ((8:Y):H) Bc Bc ((8:Y):H) I)) ?_;rintro _ b5⟨rfl,a1⟩;refine⟨⟨a.1.trans a1,a.2.ext a1⟩,fun a=>?_⟩;refine Gu 20 7 ((L1 h (BP h.path).2.1).map Im) Z Be Z Z underlying349 LN Z Bc Z Z Z (by first|(intro v hv;obtain⟨f,x,rfl⟩:=Ck.1 hv;rfl)|(simp;done)|(simp;rfl)) Bc ?_;rintro W D bx a7 l;refine⟨⟨a.1.trans l,a.2.ext l⟩,fun a=>?_⟩;refine(Yc 21 (My (L1 h (BP h.path).2.1) (fun f x=>(nl f x).ne) (fun f x=>(nl f x).len) (by simp[L1]) (X ⟨W,0,Aa⟩) 7 _ D (by have K:=a7.sl;rw[<-IL]at K;exact K))) ?_;rintro _ S⟨rfl,g⟩;refine⟨⟨a.1.trans g,a.2.ext g⟩,fun a=>?_⟩;have a7:=a7.ext g;refine(Gv [22,23,24,25,26]∘Yd∘Lm S) ?_;exact a
     .rintro wr⟨xr,b0⟩;refine(O 1)<|Lc (fun(wq:Ad)=>(Bf w wq,[(6,.bool (FR (L1 h (BP h.path).2.1)).2),(7,Bj ((FR (L1 h (BP h.path).2.1)).1)),(8,Bj ((FR (L2 h (BP h.path).1)).1)),(9,.bool (FR (L2 h (BP h.path).1)).2)],wq)) ?_ ?_
      .skip
       refine(Yr 29 (fun w'=>Bf w w'/\Bk w' Q 167 h.cells) ⟨xr.trans (Bf.drew wr),b0.drew⟩) fun a=>(Gv [0,1,5,6,8,9,10,11,13,14,15,19])<|Ye 2 7 ?_ ?_
       .refine Js 2 1 Z Z Z underlying23 CD Z Z Z Z Z Bc ?_;rintro P N L h2 p;refine⟨⟨a.1.trans p,a.2.ext p⟩,fun a=>?_⟩;refine Jt (fun w'=>Bf w w'/\Bk w' Q 167 h.cells/\Bk w' P 5 [.int .u8 (h.kind:H)]) (fun _ h=>⟨h.1,h.2.1⟩) ?_;replace a:=(⟨a.1,a.2,h2⟩:(fun w'=>Bf w w'/\Bk w' Q 167 h.cells/\Bk w' P 5 [.int .u8 (h.kind:H)]) N);refine(Yw 3 (he:=by exact fun _ G=>DZ (MD G.2.2 hk))∘Gv [4]∘Yc 7 (EM h.link (by have:=ho.link;omega) ((100:Y):H) Bc Bc ((100:Y):H) N)) ?_;rintro _ w7⟨rfl,aj⟩;refine⟨⟨a.1.trans aj,a.2.1.ext aj,a.2.2.ext aj⟩,fun a=>?_⟩;refine(Yc 12 (EM h.n0 (by have:=ho.n0;omega) ((32:Y):H) Bc Bc ((31:Y):H) w7)) ?_;rintro _ af⟨rfl,y⟩;refine⟨⟨a.1.trans y,a.2.1.ext y,a.2.2.ext y⟩,fun a=>?_⟩;refine(Yc 16 (EM h.n1 (by have:=ho.n1;omega) ((32:Y):H) Bc Bc ((31:Y):H) af)) ?_;rintro _ ab⟨rfl,t⟩;refine⟨⟨a.1.trans t,a.2.1.ext t,a.2.2.ext t⟩,fun a=>?_⟩;refine(Yc 17 (HB 0 Bc Bc ((8:Y):H) Bc Bc ab)) ?_;rintro _ V⟨rfl,o⟩;refine⟨⟨a.1.trans o,a.2.1.ext o,a.2.2.ext o⟩,fun a=>?_⟩;refine(Yc 18 (HB 0 Bc Bc ((8:Y):H) Bc Bc V)) ?_;rintro _ I⟨rfl,m⟩;refine⟨⟨a.1.trans m,a.2.1.ext m,a.2.2.ext m⟩,fun a=>?_⟩;refine(Yc 20 (EM (BP h.path).1 J ((155:Y):H) Bc Bc ((155:Y):H) I)) ?_;rintro _ D⟨rfl,l⟩;refine⟨⟨a.1.trans l,a.2.1.ext l,a.2.2.ext l⟩,fun a=>?_⟩;refine(Yc 21 (EM [] Bl ((12:Y):H) Bc Bc ((12:Y):H) D)) ?_;rintro _ S⟨rfl,g⟩;refine⟨⟨a.1.trans g,a.2.1.ext g,a.2.2.ext g⟩,fun a=>?_⟩;refine Gu 22 9 ((L2 h (BP h.path).1).map Im) Z Be Z Z underlying349 LN Z Bc Z Z Z (by first|(intro v hv;obtain⟨f,x,rfl⟩:=Ck.1 hv;rfl)|(simp;done)|(simp;rfl)) Bc ?_;rintro W C E n i;refine⟨⟨a.1.trans i,a.2.1.ext i,a.2.2.ext i⟩,fun a=>?_⟩;refine(Yc 23 (My (L2 h (BP h.path).1) (fun f x=>(A f x).ne) (fun f x=>(A f x).len) (by simp[L2]) (X ⟨W,0,Aa⟩) 9 _ C (by have K:=n.sl;rw[<-IL]at K;exact K))) ?_;rintro _ B⟨rfl,d⟩;refine⟨⟨a.1.trans d,a.2.1.ext d,a.2.2.ext d⟩,fun a=>?_⟩;have n:=n.ext d;refine(Gv [24,25,26,27,28]∘Yd∘Lm B) ?_;exact a.1
       .refine(Jc 7 (EM h.link (by have:=ho.link;omega) ((100:Y):H) Bc Bc ((100:Y):H) wr.drew)) ?_;rintro _ w7⟨rfl,aj⟩;refine⟨⟨a.1.trans aj,a.2.ext aj⟩,fun a=>?_⟩;refine Ye 2 12 ?_ ?_
        .refine Js 2 1 Z Z Z underlying23 CD Z Z Z Z Z Bc ?_;rintro P N L h2 p;refine⟨⟨a.1.trans p,a.2.ext p⟩,fun a=>?_⟩;refine Jt (fun w'=>Bf w w'/\Bk w' Q 167 h.cells/\Bk w' P 5 [.int .u8 (h.kind:H)]) (fun _ h=>⟨h.1,h.2.1⟩) ?_;replace a:=(⟨a.1,a.2,h2⟩:(fun w'=>Bf w w'/\Bk w' Q 167 h.cells/\Bk w' P 5 [.int .u8 (h.kind:H)]) N);refine(Yw 3 (he:=by exact fun _ G=>DZ (MD G.2.2 hk))∘Gv [4]∘Yc 12 (EM h.n0 (by have:=ho.n0;omega) ((32:Y):H) Bc Bc ((31:Y):H) N)) ?_;rintro _ af⟨rfl,y⟩;refine⟨⟨a.1.trans y,a.2.1.ext y,a.2.2.ext y⟩,fun a=>?_⟩;refine(Yc 16 (EM h.n1 (by have:=ho.n1;omega) ((32:Y):H) Bc Bc ((31:Y):H) af)) ?_;rintro _ ab⟨rfl,t⟩;refine⟨⟨a.1.trans t,a.2.1.ext t,a.2.2.ext t⟩,fun a=>?_⟩;refine(Yc 17 (HB 0 Bc Bc ((8:Y):H) Bc Bc ab)) ?_;rintro _ V⟨rfl,o⟩;refine⟨⟨a.1.trans o,a.2.1.ext o,a.2.2.ext o⟩,fun a=>?_⟩;refine(Yc 18 (HB 0 Bc Bc ((8:Y):H) Bc Bc V)) ?_;rintro _ I⟨rfl,m⟩;refine⟨⟨a.1.trans m,a.2.1.ext m,a.2.2.ext m⟩,fun a=>?_⟩;refine(Yc 20 (EM (BP h.path).1 J ((155:Y):H) Bc Bc ((155:Y):H) I)) ?_;rintro _ D⟨rfl,l⟩;refine⟨⟨a.1.trans l,a.2.1.ext l,a.2.2.ext l⟩,fun a=>?_⟩;refine(Yc 21 (EM [] Bl ((12:Y):H) Bc Bc ((12:Y):H) D)) ?_;rintro _ S⟨rfl,g⟩;refine⟨⟨a.1.trans g,a.2.1.ext g,a.2.2.ext g⟩,fun a=>?_⟩;refine Gu 22 9 ((L2 h (BP h.path).1).map Im) Z Be Z Z underlying349 LN Z Bc Z Z Z (by first|(intro v hv;obtain⟨f,x,rfl⟩:=Ck.1 hv;rfl)|(simp;done)|(simp;rfl)) Bc ?_;rintro W C E n i;refine⟨⟨a.1.trans i,a.2.1.ext i,a.2.2.ext i⟩,fun a=>?_⟩;refine(Yc 23 (My (L2 h (BP h.path).1) (fun f x=>(A f x).ne) (fun f x=>(A f x).len) (by simp[L2]) (X ⟨W,0,Aa⟩) 9 _ C (by have K:=n.sl;rw[<-IL]at K;exact K))) ?_;rintro _ B⟨rfl,d⟩;refine⟨⟨a.1.trans d,a.2.1.ext d,a.2.2.ext d⟩,fun a=>?_⟩;have n:=n.ext d;refine(Gv [24,25,26,27,28]∘Yd∘Lm B) ?_;exact a.1
        .refine(Jc 12 (EM h.n0 (by have:=ho.n0;omega) ((32:Y):H) Bc Bc ((31:Y):H) w7)) ?_;rintro _ af⟨rfl,y⟩;refine⟨⟨a.1.trans y,a.2.ext y⟩,fun a=>?_⟩;refine Ye 2 16 ?_ ?_
         .refine Js 2 1 Z Z Z underlying23 CD Z Z Z Z Z Bc ?_;rintro P N L h2 p;refine⟨⟨a.1.trans p,a.2.ext p⟩,fun a=>?_⟩;refine Jt (fun w'=>Bf w w'/\Bk w' Q 167 h.cells/\Bk w' P 5 [.int .u8 (h.kind:H)]) (fun _ h=>⟨h.1,h.2.1⟩) ?_;replace a:=(⟨a.1,a.2,h2⟩:(fun w'=>Bf w w'/\Bk w' Q 167 h.cells/\Bk w' P 5 [.int .u8 (h.kind:H)]) N);refine(Yw 3 (he:=by exact fun _ G=>DZ (MD G.2.2 hk))∘Gv [4]∘Yc 16 (EM h.n1 (by have:=ho.n1;omega) ((32:Y):H) Bc Bc ((31:Y):H) N)) ?_;rintro _ ab⟨rfl,t⟩;refine⟨⟨a.1.trans t,a.2.1.ext t,a.2.2.ext t⟩,fun a=>?_⟩;refine(Yc 17 (HB 0 Bc Bc ((8:Y):H) Bc Bc ab)) ?_;rintro _ V⟨rfl,o⟩;refine⟨⟨a.1.trans o,a.2.1.ext o,a.2.2.ext o⟩,fun a=>?_⟩;refine(Yc 18 (HB 0 Bc Bc ((8:Y):H) Bc Bc V)) ?_;rintro _ I⟨rfl,m⟩;refine⟨⟨a.1.trans m,a.2.1.ext m,a.2.2.ext m⟩,fun a=>?_⟩;refine(Yc 20 (EM (BP h.path).1 J ((155:Y):H) Bc Bc ((155:Y):H) I)) ?_;rintro _ D⟨rfl,l⟩;refine⟨⟨a.1.trans l,a.2.1.ext l,a.2.2.ext l⟩,fun a=>?_⟩;refine(Yc 21 (EM [] Bl ((12:Y):H) Bc Bc ((12:Y):H) D)) ?_;rintro _ S⟨rfl,g⟩;refine⟨⟨a.1.trans g,a.2.1.ext g,a.2.2.ext g⟩,fun a=>?_⟩;refine Gu 22 9 ((L2 h (BP h.path).1).map Im) Z Be Z Z underlying349 LN Z Bc Z Z Z (by first|(intro v hv;obtain⟨f,x,rfl⟩:=Ck.1 hv;rfl)|(simp;done)|(simp;rfl)) Bc ?_;rintro W C E n i;refine⟨⟨a.1.trans i,a.2.1.ext i,a.2.2.ext i⟩,fun a=>?_⟩;refine(Yc 23 (My (L2 h (BP h.path).1) (fun f x=>(A f x).ne) (fun f x=>(A f x).len) (by simp[L2]) (X ⟨W,0,Aa⟩) 9 _ C (by have K:=n.sl;rw[<-IL]at K;exact K))) ?_;rintro _ B⟨rfl,d⟩;refine⟨⟨a.1.trans d,a.2.1.ext d,a.2.2.ext d⟩,fun a=>?_⟩;have n:=n.ext d;refine(Gv [24,25,26,27,28]∘Yd∘Lm B) ?_;exact a.1
         .refine(Jc 16 (EM h.n1 (by have:=ho.n1;omega) ((32:Y):H) Bc Bc ((31:Y):H) af)) ?_;rintro _ ab⟨rfl,t⟩;refine⟨⟨a.1.trans t,a.2.ext t⟩,fun a=>?_⟩;refine Ye 2 17 ?_ ?_
          .refine Js 2 1 Z Z Z underlying23 CD Z Z Z Z Z Bc ?_;rintro P N L h2 p;refine⟨⟨a.1.trans p,a.2.ext p⟩,fun a=>?_⟩;refine Jt (fun w'=>Bf w w'/\Bk w' Q 167 h.cells/\Bk w' P 5 [.int .u8 (h.kind:H)]) (fun _ h=>⟨h.1,h.2.1⟩) ?_;replace a:=(⟨a.1,a.2,h2⟩:(fun w'=>Bf w w'/\Bk w' Q 167 h.cells/\Bk w' P 5 [.int .u8 (h.kind:H)]) N);refine(Yw 3 (he:=by exact fun _ G=>DZ (MD G.2.2 hk))∘Gv [4]∘Yc 17 (HB 0 Bc Bc ((8:Y):H) Bc Bc N)) ?_;rintro _ V⟨rfl,o⟩;refine⟨⟨a.1.trans o,a.2.1.ext o,a.2.2.ext o⟩,fun a=>?_⟩;refine(Yc 18 (HB 0 Bc Bc ((8:Y):H) Bc Bc V)) ?_;rintro _ I⟨rfl,m⟩;refine⟨⟨a.1.trans m,a.2.1.ext m,a.2.2.ext m⟩,fun a=>?_⟩;refine(Yc 20 (EM (BP h.path).1 J ((155:Y):H) Bc Bc ((155:Y):H) I)) ?_;rintro _ D⟨rfl,l⟩;refine⟨⟨a.1.trans l,a.2.1.ext l,a.2.2.ext l⟩,fun a=>?_⟩;refine(Yc 21 (EM [] Bl ((12:Y):H) Bc Bc ((12:Y):H) D)) ?_;rintro _ S⟨rfl,g⟩;refine⟨⟨a.1.trans g,a.2.1.ext g,a.2.2.ext g⟩,fun a=>?_⟩;refine Gu 22 9 ((L2 h (BP h.path).1).map Im) Z Be Z Z underlying349 LN Z Bc Z Z Z (by first|(intro v hv;obtain⟨f,x,rfl⟩:=Ck.1 hv;rfl)|(simp;done)|(simp;rfl)) Bc ?_;rintro W C E n i;refine⟨⟨a.1.trans i,a.2.1.ext i,a.2.2.ext i⟩,fun a=>?_⟩;refine(Yc 23 (My (L2 h (BP h.path).1) (fun f x=>(A f x).ne) (fun f x=>(A f x).len) (by simp[L2]) (X ⟨W,0,Aa⟩) 9 _ C (by have K:=n.sl;rw[<-IL]at K;exact K))) ?_;rintro _ B⟨rfl,d⟩;refine⟨⟨a.1.trans d,a.2.1.ext d,a.2.2.ext d⟩,fun a=>?_⟩;have n:=n.ext d;refine(Gv [24,25,26,27,28]∘Yd∘Lm B) ?_;exact a.1
          .refine(Jc 17 (HB 0 Bc Bc ((8:Y):H) Bc Bc ab)) ?_;rintro _ V⟨rfl,o⟩;refine⟨⟨a.1.trans o,a.2.ext o⟩,fun a=>?_⟩;refine Ye 2 18 ?_ ?_
           .refine Js 2 1 Z Z Z underlying23 CD Z Z Z Z Z Bc ?_;rintro P N L h2 p;refine⟨⟨a.1.trans p,a.2.ext p⟩,fun a=>?_⟩;refine Jt (fun w'=>Bf w w'/\Bk w' Q 167 h.cells/\Bk w' P 5 [.int .u8 (h.kind:H)]) (fun _ h=>⟨h.1,h.2.1⟩) ?_;replace a:=(⟨a.1,a.2,h2⟩:(fun w'=>Bf w w'/\Bk w' Q 167 h.cells/\Bk w' P 5 [.int .u8 (h.kind:H)]) N);refine(Yw 3 (he:=by exact fun _ G=>DZ (MD G.2.2 hk))∘Gv [4]∘Yc 18 (HB 0 Bc Bc ((8:Y):H) Bc Bc N)) ?_;rintro _ I⟨rfl,m⟩;refine⟨⟨a.1.trans m,a.2.1.ext m,a.2.2.ext m⟩,fun a=>?_⟩;refine(Yc 20 (EM (BP h.path).1 J ((155:Y):H) Bc Bc ((155:Y):H) I)) ?_;rintro _ D⟨rfl,l⟩;refine⟨⟨a.1.trans l,a.2.1.ext l,a.2.2.ext l⟩,fun a=>?_⟩;refine(Yc 21 (EM [] Bl ((12:Y):H) Bc Bc ((12:Y):H) D)) ?_;rintro _ S⟨rfl,g⟩;refine⟨⟨a.1.trans g,a.2.1.ext g,a.2.2.ext g⟩,fun a=>?_⟩;refine Gu 22 9 ((L2 h (BP h.path).1).map Im) Z Be Z Z underlying349 LN Z Bc Z Z Z (by first|(intro v hv;obtain⟨f,x,rfl⟩:=Ck.1 hv;rfl)|(simp;done)|(simp;rfl)) Bc ?_;rintro W C E n i;refine⟨⟨a.1.trans i,a.2.1.ext i,a.2.2.ext i⟩,fun a=>?_⟩;refine(Yc 23 (My (L2 h (BP h.path).1) (fun f x=>(A f x).ne) (fun f x=>(A f x).len) (by simp[L2]) (X ⟨W,0,Aa⟩) 9 _ C (by have K:=n.sl;rw[<-IL]at K;exact K))) ?_;rintro _ B⟨rfl,d⟩;refine⟨⟨a.1.trans d,a.2.1.ext d,a.2.2.ext d⟩,fun a=>?_⟩;have n:=n.ext d;refine(Gv [24,25,26,27,28]∘Yd∘Lm B) ?_;exact a.1
           .refine(Jc 18 (HB 0 Bc Bc ((8:Y):H) Bc Bc V)) ?_;rintro _ I⟨rfl,m⟩;refine⟨⟨a.1.trans m,a.2.ext m⟩,fun a=>?_⟩;refine Ye 2 20 ?_ ?_
            .refine Js 2 1 Z Z Z underlying23 CD Z Z Z Z Z Bc ?_;rintro P N L h2 p;refine⟨⟨a.1.trans p,a.2.ext p⟩,fun a=>?_⟩;refine Jt (fun w'=>Bf w w'/\Bk w' Q 167 h.cells/\Bk w' P 5 [.int .u8 (h.kind:H)]) (fun _ h=>⟨h.1,h.2.1⟩) ?_;replace a:=(⟨a.1,a.2,h2⟩:(fun w'=>Bf w w'/\Bk w' Q 167 h.cells/\Bk w' P 5 [.int .u8 (h.kind:H)]) N);refine(Yw 3 (he:=by exact fun _ G=>DZ (MD G.2.2 hk))∘Gv [4]∘Yc 20 (EM (BP h.path).1 J ((155:Y):H) Bc Bc ((155:Y):H) N)) ?_;rintro _ D⟨rfl,l⟩;refine⟨⟨a.1.trans l,a.2.1.ext l,a.2.2.ext l⟩,fun a=>?_⟩;refine(Yc 21 (EM [] Bl ((12:Y):H) Bc Bc ((12:Y):H) D)) ?_;rintro _ S⟨rfl,g⟩;refine⟨⟨a.1.trans g,a.2.1.ext g,a.2.2.ext g⟩,fun a=>?_⟩;refine Gu 22 9 ((L2 h (BP h.path).1).map Im) Z Be Z Z underlying349 LN Z Bc Z Z Z (by first|(intro v hv;obtain⟨f,x,rfl⟩:=Ck.1 hv;rfl)|(simp;done)|(simp;rfl)) Bc ?_;rintro W C E n i;refine⟨⟨a.1.trans i,a.2.1.ext i,a.2.2.ext i⟩,fun a=>?_⟩;refine(Yc 23 (My (L2 h (BP h.path).1) (fun f x=>(A f x).ne) (fun f x=>(A f x).len) (by simp[L2]) (X ⟨W,0,Aa⟩) 9 _ C (by have K:=n.sl;rw[<-IL]at K;exact K))) ?_;rintro _ B⟨rfl,d⟩;refine⟨⟨a.1.trans d,a.2.1.ext d,a.2.2.ext d⟩,fun a=>?_⟩;have n:=n.ext d;refine(Gv [24,25,26,27,28]∘Yd∘Lm B) ?_;exact a.1
            .refine(Jc 20 (EM (BP h.path).1 J ((155:Y):H) Bc Bc ((155:Y):H) I)) ?_;rintro _ D⟨rfl,l⟩;refine⟨⟨a.1.trans l,a.2.ext l⟩,fun a=>?_⟩;refine Ye 2 21 ?_ ?_
             .refine Js 2 1 Z Z Z underlying23 CD Z Z Z Z Z Bc ?_;rintro P N L h2 p;refine⟨⟨a.1.trans p,a.2.ext p⟩,fun a=>?_⟩;refine Jt (fun w'=>Bf w w'/\Bk w' Q 167 h.cells/\Bk w' P 5 [.int .u8 (h.kind:H)]) (fun _ h=>⟨h.1,h.2.1⟩) ?_;replace a:=(⟨a.1,a.2,h2⟩:(fun w'=>Bf w w'/\Bk w' Q 167 h.cells/\Bk w' P 5 [.int .u8 (h.kind:H)]) N);refine(Yw 3 (he:=by exact fun _ G=>DZ (MD G.2.2 hk))∘Gv [4]∘Yc 21 (EM [] Bl ((12:Y):H) Bc Bc ((12:Y):H) N)) ?_;rintro _ S⟨rfl,g⟩;refine⟨⟨a.1.trans g,a.2.1.ext g,a.2.2.ext g⟩,fun a=>?_⟩;refine Gu 22 9 ((L2 h (BP h.path).1).map Im) Z Be Z Z underlying349 LN Z Bc Z Z Z (by first|(intro v hv;obtain⟨f,x,rfl⟩:=Ck.1 hv;rfl)|(simp;done)|(simp;rfl)) Bc ?_;rintro W C E n i;refine⟨⟨a.1.trans i,a.2.1.ext i,a.2.2.ext i⟩,fun a=>?_⟩;refine(Yc 23 (My (L2 h (BP h.path).1) (fun f x=>(A f x).ne) (fun f x=>(A f x).len) (by simp[L2]) (X ⟨W,0,Aa⟩) 9 _ C (by have K:=n.sl;rw[<-IL]at K;exact K))) ?_;rintro _ B⟨rfl,d⟩;refine⟨⟨a.1.trans d,a.2.1.ext d,a.2.2.ext d⟩,fun a=>?_⟩;have n:=n.ext d;refine(Gv [24,25,26,27,28]∘Yd∘Lm B) ?_;exact a.1
             .refine(Jc 21 (EM [] Bl ((12:Y):H) Bc Bc ((12:Y):H) D)) ?_;rintro _ S⟨rfl,g⟩;refine⟨⟨a.1.trans g,a.2.ext g⟩,fun a=>?_⟩;refine PW 2 1 Z Be Z Z underlying23 CD Z Z Z Z Z Bc ?_;rintro P N L h2 p;refine⟨⟨a.1.trans p,a.2.ext p⟩,fun a=>?_⟩;refine Jt (fun w'=>Bf w w'/\Bk w' Q 167 h.cells/\Bk w' P 5 [.int .u8 (h.kind:H)]) (fun _ h=>⟨h.1,h.2.1⟩) ?_;replace a:=(⟨a.1,a.2,h2⟩:(fun w'=>Bf w w'/\Bk w' Q 167 h.cells/\Bk w' P 5 [.int .u8 (h.kind:H)]) N);refine(Yw 3 (he:=by exact fun _ G=>DZ (MD G.2.2 hk))∘Gv [4]) ?_;refine Gu 22 9 ((L2 h (BP h.path).1).map Im) Z Be Z Z underlying349 LN Z Bc Z Z Z (by first|(intro v hv;obtain⟨f,x,rfl⟩:=Ck.1 hv;rfl)|(simp;done)|(simp;rfl)) Bc ?_;rintro W C E n i;refine⟨⟨a.1.trans i,a.2.1.ext i,a.2.2.ext i⟩,fun a=>?_⟩;refine(Yc 23 (My (L2 h (BP h.path).1) (fun f x=>(A f x).ne) (fun f x=>(A f x).len) (by simp[L2]) (X ⟨W,0,Aa⟩) 9 _ C (by have K:=n.sl;rw[<-IL]at K;exact K))) ?_;rintro _ B⟨rfl,d⟩;refine⟨⟨a.1.trans d,a.2.1.ext d,a.2.2.ext d⟩,fun a=>?_⟩;have n:=n.ext d;refine(Gv [24,25,26,27,28]∘Yd∘Lm B) ?_;exact a.1
      .rintro wq xq;have jy:=fun hm:May h=>vL hm p1 p3 (fun z=>al (p5 _ z)) (fun z=>al (p4 _ z));have a5:=@vK h (BP h.path).1 (BP h.path).2.1 a0 al;generalize cc:FR (L1 h (BP h.path).2.1)=J1 at jy a5;generalize cb:FR (L2 h (BP h.path).1)=J2 at jy a5;obtain⟨g1,o1⟩:=J1;obtain⟨g2,o2⟩:=J2;refine(O 2) ?_;rcases o1 with _|_
       .skip
        refine(O 14∘BH) ?_;simp_all
       .skip
        rcases o2 with _|_
        .skip
         refine(O 14∘BH) ?_;simp_all
        .skip
         have hm:=a5 Z Z;obtain⟨j1,j2⟩:=jy hm;obtain rfl:=(Qq.inj j1).1;obtain rfl:=(Qq.inj j2).1;have bc:Aim ((Hv h (BP h.path).2.1).flatten)=148:=by rw[WB,YP h p1];rfl
         have bq:Aim ((HV h (BP h.path).1).flatten)=356:=by rw[WB,nJ h p3 hm.link.1 (by have:=hm.n0.1;omega) (by have:=hm.n1.1;omega)];rfl
         have ca:=SL 8;have a3:Aim ((Hv h (BP h.path).2.1).flatten++Cx 8++(HV h (BP h.path).1).flatten)=512:=by rw[BA,BA];omega
         have ba:sum ((Hv h (BP h.path).2.1).flatten++Cx 8++(HV h (BP h.path).1).flatten)=(Iq h,0):=by
          unfold sum;rw[Ag J];rfl
         have bm:Iq h/8 ^ 6=0:=nD _;have bb:Ei ((Iq h:Y):H) ((7:Y):H)=(Dk (Iq h) 6++[0],0):=ZG (k:=6) Bc Bc bm;have b9:Iq h<=1000000:=by have:=VH (MV h (BP h.path).1 (BP h.path).2.1 (Cx 8)) 512;unfold Iq;omega
         have b6:=QT 6 (Iq h);have c1:=nE ((Hv h (BP h.path).2.1).flatten++Cx 8++(HV h (BP h.path).1).flatten) J wq;rw[ba]at c1;have c2:=kX ((Iq h:Y):H) J J ((7:Y):H) Bc Bc wq;rw[bb]at c2;rw[bh hm];generalize hH:(Hv h (BP h.path).2.1).flatten=j7 at bc c1 a3;generalize hT:(HV h (BP h.path).1).flatten=T at bq c1 a3;have bn:Aim (j7++Cx 8)=156:=by rw[BA];omega
         have b3:Aim (j7++Cx 8,Af).1=156:=bn;refine(O 15∘Zc c1) ?_;rintro _ _⟨rfl,rfl⟩;refine(O 9∘Zc c2) ?_;rintro _ wz⟨rfl,xz⟩;refine(O 9∘Zv (by exact Ka (j:=148) underlying9 Z Z J)∘O 2∘Zv (by exact JY (r:=[32]) Z Z (by first|omega|(simp only[BA,Cv,EZ,BY,CK,Cm];omega)))∘O 5∘BH) ?_;refine⟨?_,xq.trans xz⟩;have ht:(j7++Cx 8).take 148=j7:=by rw[<-bc];exact Hp Z
         have ed:CW h=j7++(Dk (Iq h) 6++[0])++[32]++T:=by
          unfold CW MV Rr;rw[hH,hT];simp
         grind
def fp(cb k n:Y)(s:Bg)(Cn:Aw)(w:Ad)(g:Aim s<=140737488355328)(hk:k+n<=Aim s)(e:Bk w cb 252 [Bj (s.drop k),.bool Cn]):
 Bn prog 153 [.pointer (X ⟨cb,0,Aa⟩),U ((n:Y):H)] w fun v w'=>v=Bj (sl s k n)/\Bk w' cb 252 [Bj (s.drop (k+n)),.bool Cn]/\Mo w w' [cb]:=by
 have i:Aim (s.drop k)=Aim s-k:=CK;refine Bw func153 Z ntmps153 (by rfl) Z ?_;refine(O 11∘Zv (by exact Ka underlying9 Z Z J)∘O 10∘Zv (by exact Nd underlying9 Z Z J)∘O 2∘Zt e) ?_;rintro f d a;refine(O 6∘Bu) ?_;refine⟨Z,?_,a⟩;simp_all
def sj(cb k n:Y)(s:Bg)(Cn:Aw)(w:Ad)(p:Aim s<=140737488355328)(hk:k+n<=Aim s)(r:Bk w cb 252 [Bj (s.drop k),.bool Cn]):
 Bn prog 152 [.pointer (X ⟨cb,0,Aa⟩),U ((n:Y):H)] w fun v w'=>v=U (((num (sl s k n)).1:Y):H)/\Bk w' cb 252 [Bj (s.drop (k+n)),.bool (Cn||decide ((num (sl s k n)).2≠0))]/\Mo w w' [cb]:=by
 have q:Aim (sl s k n)<=140737488355328:=by unfold sl;rw[BY,CK];omega
 refine Bw func152 Z ntmps152 (by rfl) Z ?_;refine(O 8∘Zc (fp cb k n s Cn w p hk r)) ?_;rintro _ o⟨rfl,i,g⟩;refine(Zc (yj (sl s k n) q o)) ?_;rintro _ m⟨rfl,d⟩;refine(O 7) ?_;have f:=i.ext d;have j:Mo w m [cb]:=g.trans (Mo.Age d _);rcases Cn with _|_
 .refine(O 12∘Zt f) ?_;rintro l e a;refine(O 6∘Bu) ?_;refine⟨Z,?_,j.trans a⟩;grind
 .refine(O 12∘Zt f) ?_;rintro l e a;refine(O 6∘Bu) ?_;exact⟨Z,e,j.trans a⟩
structure Dc(w0 w:Ad)(rb cb hb:Y)(rest:Bg)(Cn:Aw)(h:Bm):Prop where
 x:Bf w0 w
 r:Bk w rb 167 IT.cells
 c:Bk w cb 252 [Bj rest,.bool Cn]
 h:Bk w hb 167 h
 rlo:w0.heap.size<=rb
 clo:w0.heap.size<=cb
 hlo:w0.heap.size<=hb
 ne:rb≠hb
section
variable{w0 w:Ad}{rb cb hb:Y}{s rest:Bg}{Cn:Aw}{h:Bm}{k:Y}
def Dc.step{w':Ad}{rest':Bg}{bad':Aw}(d:Dc w0 w rb cb hb rest Cn h)(hc:Bk w' cb 252 [Bj rest',.bool bad'])(hm:Mo w w' [cb]):Dc w0 w' rb cb hb rest' bad' h:=
 ⟨Bv d.x hm d.x.size (fun k hk=>by simp at hk;subst hk;exact d.clo),d.r.mo hm (by simp;exact d.r.ne d.c Bc),hc,d.h.mo hm (by simp;exact d.h.ne d.c Bc),d.rlo,d.clo,d.hlo,d.ne⟩
def Dc.put{w':Ad}{h':Bm}(d:Dc w0 w rb cb hb rest Cn h)(hh:Bk w' hb 167 h')(hm:Mo w w' [hb]):Dc w0 w' rb cb hb rest Cn h':=
 ⟨Bv d.x hm d.x.size (fun k hk=>by simp at hk;subst hk;exact d.hlo),d.r.mo hm (by simp;exact d.ne),d.c.mo hm (by simp;exact fun z=>d.h.ne d.c Bl z.symm),hh,d.rlo,d.clo,d.hlo,d.ne⟩
def Dc.raw(d:Dc w0 w rb cb hb (s.drop k) Cn h)(n:Y)(hs:Aim s=512)(hk:k+n<=512):
 Bn prog 153 [.pointer (X ⟨cb,0,Aa⟩),U ((n:Y):H)] w fun v w'=>v=Bj (sl s k n)/\Dc w0 w' rb cb hb (s.drop (k+n)) Cn h:=
 (fp cb k n s Cn w J J d.c).mono fun v w'⟨h1,h2,h3⟩=>⟨h1,d.step h2 h3⟩
def Dc.num(d:Dc w0 w rb cb hb (s.drop k) Cn h)(n:Y)(hs:Aim s=512)(hk:k+n<=512):
 Bn prog 152 [.pointer (X ⟨cb,0,Aa⟩),U ((n:Y):H)] w fun v w'=>v=U (((num (sl s k n)).1:Y):H)/\Dc w0 w' rb cb hb (s.drop (k+n)) (Cn||decide ((num (sl s k n)).2≠0)) h:=
 (sj cb k n s Cn w J J d.c).mono fun v w'⟨h1,h2,h3⟩=>⟨h1,d.step h2 h3⟩
end
def PB{s:Bg}(a:Aim s=512)(k n:Y):Aim (sl s k n)<=512:=by unfold sl;grind
def Sv{s:Bg}(h:¬OkD s):He s=(IT,160):=by unfold He;grind
def tn{s:Bg}(h:OkD s):He s=(QK s,0):=by unfold He;grind
def Aet(s:Bg)(hs:Aim s<=140737488355328)(w:Ad):Bn prog 113 [Bj s] w fun v w'=>v=.tuple #[.agg (He s).1.cells.toArray,U (((He s).2:Y):H)]/\Bf w w':=by
 refine Bw func113 Z ntmps113 Be Z ?_;refine(O 2∘Zn) ?_;rintro rb w1 a0 q n;refine(O 9)<|Zi (fun hl=>?_) fun hl=>?_
 .refine(O 3∘Zs q (hlt:=Bq _)) ?_;rintro w2 bh bl;refine(O 2∘Du bh) ?_;rw[Sv fun h=>hl (by have:=h.len;omega)];exact⟨Z,Bv n bl n.size (fun k t=>by grind)⟩
 .have a:Aim s=512:=J;refine(O 5) ?_;refine DB Z Z Z ?_;rintro cb w2 cn b0 m;refine(O 5∘Zv (by exact Gc Z Z)∘O 1∘Zv (by exact Gc Z Z)∘O 5∘Zn) ?_;rintro hb w3 cm bx p;refine(O 4) ?_;have ck:=q.lt;have d0:Dc w w3 rb cb hb (s.drop 0) Aj IT.cells:=⟨(n.trans m).trans p,(q.ext m).ext p,b0.ext p,bx,a0,J,by have:=n.size;have:=m.size;omega,by have:=m.size;omega⟩;refine(Ea (d0.raw 100 a Bc)) ?_;rintro _ w4⟨rfl,d1⟩;refine(Zc (Ss (sl s 0 100) (by have:=PB a 0 100;omega) w4)) ?_;rintro _ _⟨rfl,rfl⟩;refine(O 5∘Ea (d1.num 8 a Bc)) ?_;rintro _ w5⟨rfl,d2⟩;refine(O 1∘Ea (d2.num 8 a Bc)) ?_;rintro _ w6⟨rfl,d3⟩;refine(O 1∘Ea (d3.num 8 a Bc)) ?_;rintro _ w7⟨rfl,d4⟩;refine(O 1∘Zt d4.h (hlt:=AO Z)) ?_;rintro w8 bs bj;refine(O 2) ?_;have d5:=d4.put bs bj;refine(Zt d5.h (hlt:=AO Z)) ?_;rintro w9 bq bi;refine(O 2) ?_;have d6:=d5.put bq bi;refine(Zt d6.h (hlt:=AO Z)) ?_;rintro c5 ao Q;refine(O 4) ?_;have d7:=d6.put ao Q;refine(Ea (d7.num 12 a Bc)) ?_;rintro _ c4⟨rfl,d8⟩;refine(O 1∘Ea (d8.num 12 a Bc)) ?_;rintro _ c0⟨rfl,d9⟩;refine(O 1∘Zt d9.h (hlt:=AO Z)) ?_;rintro cz al P;refine(O 1) ?_;have a6:=d9.put al P;refine(Zt a6.h (hlt:=AO Z)) ?_;rintro cx aj N;refine(O 4) ?_;have cg:=a6.put aj N;refine(Ea (cg.num 8 a Bc)) ?_;rintro _ cw⟨rfl,cf⟩;refine(O 5) ?_;have bm:Aim (sl s (0+100+8+8+8+12+12+8) 1)=1:=by unfold sl;rw[BY,CK];omega
  have cl:Aim (sl s 156 1)=1:=bm;refine(Ea (cf.raw 1 a Bc)) ?_;rintro _ cv⟨rfl,a5⟩;refine(Zv (by exact EW (i:=0) underlying9 Z Z (BN J))∘O 1∘Zt a5.h (hlt:=AO Z)) ?_;rintro cu ai L;refine(O 4) ?_;have ce:=a5.put ai L;refine(Ea (ce.raw 100 a Bc)) ?_;rintro _ bc⟨rfl,a4⟩;refine(Zc (Ss (sl s 157 100) (by have:=PB a 157 100;omega) bc)) ?_;rintro _ _⟨rfl,rfl⟩;refine(O 1∘Zt a4.h (hlt:=AO Z)) ?_;rintro ct af K;refine(O 4) ?_;have cd:=a4.put af K;refine(Ea (cd.raw 8 a Bc)) ?_;rintro _ cr⟨rfl,cc⟩;refine(O 5∘Ea (cc.raw 32 a Bc)) ?_;rintro _ bb⟨rfl,ca⟩;refine(Zc (Ss (sl s 265 32) (by have:=PB a 265 32;omega) bb)) ?_;rintro _ _⟨rfl,rfl⟩;refine(O 1∘Ea (ca.raw 32 a Bc)) ?_;rintro _ ba⟨rfl,a3⟩;refine(Zc (Ss (sl s 297 32) (by have:=PB a 297 32;omega) ba)) ?_;rintro _ _⟨rfl,rfl⟩;refine(O 2∘Zt a3.h (hlt:=AO Z)) ?_;rintro cq ab I;refine(O 2) ?_;have a2:=a3.put ab I;refine(Zt a2.h (hlt:=AO Z)) ?_;rintro cp W G;refine(O 4) ?_;have b9:=a2.put W G;refine(Ea (b9.raw 16 a Bc)) ?_;rintro _ co⟨rfl,b8⟩;refine(O 4∘Ea (b8.raw 155 a Bc)) ?_;rintro _ a9⟨rfl,a1⟩;refine(Zc (Ss (sl s 345 155) (by have:=PB a 345 155;omega) a9)) ?_;rintro _ _⟨rfl,rfl⟩;refine(O 6∘Zt a1.h (hlt:=AO Z)) ?_;rintro A V E;refine(O 5∘Zv (by exact Nc (r:=[]) Z Z)∘O 1) ?_;have b7:=a1.put V E
  have bf:(sl s 156 1)[0]=s.getD 156 0:=by
   unfold sl;simp[BX,a]
  obtain⟨Cn,hbad,d25⟩:∃Cn,(Cn=Aj↔(num (sl s 100 8)).2=0/\(num (sl s 108 8)).2=0/\(num (sl s 116 8)).2=0/\(num (sl s 124 12)).2=0/\(num (sl s 136 12)).2=0/\(num (sl s 148 8)).2=0)/\Dc w A rb cb hb (s.drop 500) Cn (Hd.cells ⟨cut (sl s 0 100),(num (sl s 124 12)).1,((sl s 156 1)[0]).toNat,(num (sl s 100 8)).1,(num (sl s 136 12)).1,cut (sl s 157 100),cut (sl s 265 32),cut (sl s 297 32),(num (sl s 108 8)).1,(num (sl s 116 8)).1⟩):=⟨_,Bh,b7⟩;rw[bf]at d25;have c7:=fx (sl s 0 100);have c6:=fx (sl s 345 155);have cj:=PB a 0 100;have ch:=PB a 345 155;refine Lc (fun(wr:Ad)=>(Dc w wr rb cb hb (s.drop 500) Cn (Hd.cells ⟨LG s,(num (sl s 124 12)).1,(s.getD 156 0).toNat,(num (sl s 100 8)).1,(num (sl s 136 12)).1,cut (sl s 157 100),cut (sl s 265 32),cut (sl s 297 32),(num (sl s 108 8)).1,(num (sl s 116 8)).1⟩),[(0,Bj (s)),(2,.pointer (X ⟨rb,0,Aa⟩)),(4,.pointer (X ⟨cb,0,Aa⟩)),(7,.pointer (X ⟨hb,0,Aa⟩)),(9,U (((num (sl s 148 8)).1:Y):H)),(10,Bj ((sl s 257 8)))],wr)) ?_ ?_
  .refine Zi (fun j=>?_) fun j=>?_
   .refine(O 2∘Zv (by exact JY (r:=[47]) Z Z (by first|omega|(simp only[BA,Cv,EZ,BY,CK,Cm];omega)))∘O 3∘Zt d25.h (hlt:=AO Z)) ?_;rintro a8 T D;refine(O 1∘Lm a8) ?_;have e:LG s=cut (sl s 345 155)++[47]++cut (sl s 0 100):=by unfold LG;rw[Ai j]
    rw[e];exact d25.put T D
   .refine(O 1∘Lm A) ?_;have e:LG s=cut (sl s 0 100):=by unfold LG;rw[Ag j]
    rw[e];exact d25
  .rintro wr e0;refine(O 4∘Zv (Bo e0.h)∘O 2)<|Lc (fun(y:Ad)=>(Dc w y rb cb hb (s.drop 500) Cn (QK s).cells,[(0,Bj (s)),(2,.pointer (X ⟨rb,0,Aa⟩)),(4,.pointer (X ⟨cb,0,Aa⟩)),(7,.pointer (X ⟨hb,0,Aa⟩)),(9,U (((num (sl s 148 8)).1:Y):H)),(10,Bj ((sl s 257 8)))],y)) ?_ ?_
   .refine Zi (fun bn=>?_) fun bn=>?_
    .refine(O 2∘Zt e0.h (hlt:=AO Z)) ?_;rintro a7 S C;refine(O 1∘Lm a7) ?_;have e:Pd s=48:=by unfold Pd;rw[Ai J]
     unfold QK;rw[e];exact e0.put S C
    .refine(O 1∘Lm wr) ?_;have e:Pd s=(s.getD 156 0).toNat:=by unfold Pd;rw[Ag J]
     unfold QK;rw[e];exact e0
   .rintro y g;have B:sum s=(Fk s 512,0):=by unfold sum;rw[Ag J]
    have cs:=nE s hs y;rw[B]at cs;have o:∀(w':Ad),Bk w' rb 167 IT.cells->Mo y w' [rb]->Bf w w':=fun w' _ hm=>Bv g.x hm g.x.size (fun k t=>by simp at t;subst t;exact g.rlo);refine(O 4∘Zc cs) ?_;rintro _ _⟨rfl,rfl⟩;refine(O 7) ?_;rcases Cn with _|_
    .obtain⟨b1,b2,b3,b4,b5,b6⟩:=hbad.1 Z;refine(O 4∘Zv (Bo g.c)∘O 6)<|Zd 99 (fun c1=>?_) fun c1=>?_
     .refine(O 13∘Zs g.r (hlt:=Bq _)) ?_;rintro l d f;refine(O 2∘Du d) ?_;rw[Sv fun h=>c1 (by have:=h.sums;omega)];exact⟨Z,o _ d f⟩
     .refine(O 1∘Zv (by exact Nc (r:=[117,115,116,97,114,0,48,48]) Z Z)∘O 2)<|Zd 103 (fun c2=>?_) fun c2=>?_
      .refine(O 9∘Zs g.r (hlt:=Bq _)) ?_;rintro l d f;refine(O 2∘Du d) ?_;rw[Sv fun h=>c2 h.magic];exact⟨Z,o _ d f⟩
      .refine(O 1∘Zv (Bo g.h)∘Zv (by exact HD (r:=[]) Z Z)∘O 2)<|Zi (fun c3=>?_) fun c3=>?_
       .refine(O 3∘Zs g.r (hlt:=Bq _)) ?_;rintro l d f;refine(O 2∘Du d) ?_;rw[Sv fun h=>h.path c3];exact⟨Z,o _ d f⟩
       .have ok:OkD s:=⟨a,Dm.1 c2,b1,b2,b3,b4,b5,b6,J,c3⟩;refine(O 3∘Zv (Cf g.h)∘Zs g.r (hlt:=Bq _)) ?_;rintro l d f;refine(O 2∘Du d) ?_;rw[tn ok];exact⟨Z,Bv g.x f g.x.size (fun k t=>by simp at t;subst t;exact g.rlo)⟩
    .refine(O 4∘Zv (Bo g.c)∘O 19∘Zs g.r (hlt:=Bq _)) ?_;rintro l d f;refine(O 2∘Du d) ?_
     rw[Sv fun h=>by
      have:=hbad.2 ⟨h.mode,h.i0,h.i1,h.size,h.time,h.sum⟩;grind]
     exact⟨Z,o _ d f⟩
end
section
open Fld Ust
def MayR(h:Hd):Prop:=May h/\Aim h.path<=1099511627776
instance(h:Hd):Decidable (MayR h):=by unfold MayR;infer_instance
end

section
attribute [local irreducible] OW KW QW EX GW NV
open Pth
def OM(s:Bg)(d:Aim s<=1000000000000)(w:Ad):Bn prog 71 [Bj s] w fun v w'=>v=U ((Cy s:Y):H)/\Bf w w':=by
 refine Bw func71 Z ntmps71 (by rfl) Z ?_;refine(O 8∘Zc (rS s d w)) ?_;rintro _ i⟨rfl,a⟩;refine(O 7) ?_;rcases hc:GF s with⟨q,e⟩;refine(O 4)<|Zd 12 (fun g=>?_) fun g=>?_
 .have h:Cy s=140:=by unfold Cy;rw[hc,Ag Bh]
  refine(O 10∘Bu) ?_;grind
 .refine(O 5)<|Zi (fun f=>?_) fun f=>?_
  .have h:Cy s=140:=by unfold Cy;rw[hc,Ag Bh]
   refine(O 4∘Bu) ?_;rw[h];exact⟨Z,a⟩
  .have h:Cy s=0:=by unfold Cy;rw[hc,Ai Bh]
   refine(O 5∘Bu) ?_;rw[h];exact⟨Z,a⟩
def Tp{l:Cl}{i:Y}(h:i<Aim l):(Dd l)[i]? =X (Bj l[i]):=by simp[Dd,h]
end
section
open Pax
def _root_.Go.Proofs.YtkmlafmjaeeanaaGreatDoor.Pax.Pr.cells(p:Pr):Bm:=[Bj p.key,Bj p.val]
abbrev MH(l:Ae Pr):Bm:=l.flatMap Pr.cells
end
section
attribute [local irreducible] OW KW QW EX GW NV
open Fld
def Aes{c:AH}{n:Y}(a:n<256)(h:c.toNat=n):c=BS n:=by
 rw[<-h];simp
def fJ{s:Bg}(h:s=[]∨(s.head? =X 48/\s≠[48])):dec s=(0,150):=by unfold dec;grind
def fK{s:Bg}{i:Y}(hi:i<Aim s)(h:DM s[i]=Aj):dec s=(0,150):=by
 unfold dec;grind
def uV{s:Bg}(h0:0<Aim s)(h:s[0].toNat=48):s.head? =X 48:=by
 rw[List.head?_eq_getElem?,BN h0,Aes J h];rfl
def uY{s:Bg}(h0:0<Aim s)(h:¬s[0].toNat=48):¬s.head? =X 48:=by
 rw[List.head?_eq_getElem?,BN h0];intro e;simp_all
def dD{s:Bg}{i:Y}(hi:i<Aim s)(h:(s.take i).all DM=Af)(a:DM s[i]=Af):(s.take (i+1)).all DM=Af:=by
 rw[nN s i hi,List.all_append,h];grind
def sW{s:Bg}(h:¬(s=[]∨(s.head? =X 48/\s≠[48])))(a:(s.take (Aim s)).all DM=Af):dec s=(if 9007199254740992<Fh 10 0 s then(0,3)else(Fh 10 0 s,0)):=by
 rw[DY]at a;unfold dec;grind
def tp(s:Bg)(E:Aim s<=140737488355328)(w:Ad):
 Bn prog 115 [Bj s] w fun v w'=>v=.tuple #[U ((dec s).1:Y),U ((dec s).2:Y)]/\w=w':=by
 refine Bw func115 Z ntmps115 (by rfl) Z ?_;refine(O 9∘Zv (by exact HD (r:=[]) Z Z)∘O 1)<|Zd 8 (fun j=>?_) fun j=>?_
 .have a:=fJ (s:=s) (.inl j);refine(O 15∘BH) ?_;grind
 .have B:0<Aim s:=Kg.2 j;refine(O 1∘Zv (by exact EW (i:=0) underlying9 Z Z (BN J))∘O 2)<|Zd 12 (fun A=>?_) fun A=>?_
  .refine(O 1∘Zv (by exact Nc (r:=[48]) Z Z)∘O 3)<|Zi (fun k=>?_) fun k=>?_
   .have a:=fJ (s:=s) (.inr ⟨uV B A,k⟩);refine(O 5∘BH) ?_;grind
   .have d:¬(s=[]∨(s.head? =X 48/\s≠[48])):=by rintro(h|h);exact j h;exact k h.2
    have y:s=[48]:=Dm.1 k;subst y;have a:dec [48]=(0,0):=by decide+kernel
    refine(O 13)<|Lo (fun(i:Y)=>(i<=1,[(0,Bj ([48])),(4,U ((0:Y):H)),(18,U ((1:Y):H)),(19,U i)],w,1-i)) 0 ?_ ?_
    .omega
    .rintro i C;refine(O 5)<|Zi (fun e=>?_) fun e=>?_
     .obtain rfl:i=0:=J;have D:([48]:Bg)[0].toNat=48:=rfl;refine(O 16)<|Zd 26 (fun x=>?_) fun x=>?_
      .omega
      .refine(O 6)<|Zi (fun t=>?_) fun t=>?_
       .omega
       .refine(O 6∘If 33∘O 7∘Zv (by exact Kb (b:=48) (m:=255) Z Z Z J)∘O 9)<|Lb 1 ?_;omega
     .refine(O 7∘Cd 44∘O 8∘BH) ?_;rw[a];exact⟨Z,Z⟩
  .have d:¬(s=[]∨(s.head? =X 48/\s≠[48])):=by rintro(h|h);exact j h;exact uY B A h.1
   refine(O 19)<|Lo (fun((i,n):Y×Y)=>(i<=Aim s/\n=Fh 10 0 (s.take i)/\n<=90071992547409920+255/\(s.take i).all DM=Af,[(0,Bj (s)),(4,U n),(18,U ((Aim s:Y):H)),(19,U i)],w,Aim s-i)) (0,0) ?_ ?_
   .exact⟨J,by rfl,J,Bl⟩
   .rintro⟨i,n⟩⟨C,l,G,o⟩;refine(O 5)<|Zi (fun e=>?_) fun e=>?_
    .have D:s[i].toNat<256:=s[i].toNat_lt;refine(O 16)<|Zd 26 (fun x=>?_) fun x=>?_
     .have a:=fK e (by simp only[DM,Rz,decide_eq_false_iff_not];omega);refine(O 12∘BH) ?_;rw[a];exact⟨Z,Z⟩
     .refine(O 6)<|Zi (fun t=>?_) fun t=>?_
      .have a:=fK e (by simp only[DM,Rz,decide_eq_false_iff_not];omega);refine(O 5∘BH) ?_;grind
      .have g:DM s[i]=Af:=by simp only[DM,Bool.and_eq_true,decide_eq_true_eq];omega
       have f:=YC 10 (s.take i) s[i] 0;rw[<-nN s i e,<-l]at f;refine(O 6)<|Zi (fun q=>?_) fun q=>?_
       .rw[Ai q]at f;refine(O 6∘Zv (by exact Kb (b:=48) (m:=255) Z Z Z J)∘O 9)<|Lb ((i+1),(10*n+(s[i].toNat-48))) ?_;exact⟨J,f.symm,J,dD e o g⟩
       .rw[Ag q]at f;refine(O 6)<|Lb ((i+1),n) ?_;exact⟨J,f.symm,J,dD e o g⟩
    .obtain rfl:i=Aim s:=J;have a:=sW d o;rw[DY]at l;rw[<-l]at a;refine(O 7)<|Zi (fun p=>?_) fun p=>?_
     .rw[Ai p]at a;refine(O 5∘BH) ?_;rw[a];exact⟨Z,Z⟩
     .rw[Ag p]at a;refine(O 7∘BH) ?_;rw[a];exact⟨Z,Z⟩
def tU(w:Ad)(k:Y)(os:Ap Obj):Bf w (Sort.grow (w.drewN k) os):=
 ⟨Z,Z,Z,Bl,fun j hj=>by
  show(w.heap++os)[j]? =w.heap[j]?;grind⟩
abbrev Qr (w:Ad):Prop:=Lib.TabBelow prog w.heap.size w "internal/strconv.uint64pow10" .u64 Lib.pow10Tab
def Qr.ext{w w':Ad}(h:Qr w)(hx:Bf w w'):Qr w':=fun a d=>h a (Bf.trans hx d)
def tD(n:H)(h0:-9223372036854775808<=n)(h1:n<=9223372036854775807)(w:Ad)(ht:Qr w):
 Bn prog 169 [U n] w fun v w'=>v=Bj (QA n)/\Bf w w':=by
 refine Bw func169 Z ntmps169 Be Z ?_;refine(O 10)<|Zi (fun h=>?_) fun h=>?_
 .have a:QA n=[]:=by unfold QA;rw[Ai J]
  refine(O 4∘Bu) ?_;rw[a];exact⟨Z,Bf.refl _⟩
 .have a:QA n=Lib.itoa n:=by
   unfold QA Lib.itoa;rw[Ag J,Ag J]
  refine(O 4∘Zc (GY func224 Be (Tryz.strconv_Itoa n h0 h1 w ht.here))) ?_;rintro _ w'⟨rfl,k,d,rfl⟩;refine(O 2∘Bu) ?_;rw[a];exact⟨Z,tU _ _ _⟩
end
section
attribute [local irreducible] OW KW QW EX GW NV
open Fld Pax
structure Env(w:Ad):Prop where
 tab:Qr w
 mlen:∃m:H,w.cell? ⟨0,0,Aa⟩=X (U m)
def Env.ext{w w':Ad}(h:Env w)(hx:Bf w w'):Env w':=by
 refine⟨h.tab.ext hx,?_⟩;obtain⟨m,d⟩:=h.mlen;refine⟨m,?_⟩;have a:0<w.heap.size:=World.block_lt_of_cell? w _ d;have:=hx.block _ a;unfold World.cell? at d ⊢;grind
def jt(c:AH):∀s:Bg,Lib.index s [c]=Lib.indexByte s c
 |[]=>rfl
 |b::s=>by
  unfold Lib.index Lib.indexByte;rw[jt c s];grind
def sF(s:Bg)(c:AH):Lib.cut s [c]=CN s c:=by
 unfold Lib.cut CN;rw[jt];rcases Pb s c with⟨d,j⟩|⟨i,d,j,a,h⟩
 .grind
 .rw[d,Ai J,Ai h,a];have e:=List.takeWhile_append_dropWhile (p:=(· !=c)) (l:=s);rw[a]at e
  have k:s.dropWhile (· !=c)=s.drop i:=by
   have g:=Ho i s;have f:s.take i++s.dropWhile (· !=c)=s.take i++s.drop i:=by rw[e,g]
   exact List.append_cancel_left f
  simp_all
def fw(s:Bg)(c:AH)(f:Aim s<=1000000000)(w:Ad)(d:Env w):
 Bn prog 114 [Bj s,Bj [c]] w fun v w'=>v=.tuple #[Bj (CN s c).1,Bj (CN s c).2.1,.bool (CN s c).2.2]/\Bf w w':=by
 obtain⟨m,a⟩:=d.mlen;refine(GY func114 (by rfl) ((Tryz.strings_Cut ⟨s.toArray⟩ ⟨#[c]⟩ m w (by show Aim s<_;omega) a).mono (fun e w' q=>q))).mono ?_;rintro v w'⟨rfl,n,rfl⟩;refine⟨?_,Bf.drewN w n⟩;rw[show(⟨s.toArray⟩:ByteArray).data.toList=s from Z,show(⟨#[c]⟩:ByteArray).data.toList=[c]from Z,sF]
def fV(f:Y)(q:Bg)(out:Ae Pr):Fe (f+1) q out=if q=[]then(out,0)else match Kz q with
 |some (p,n)=>Fe f (q.drop n) (out++[p])
 |none=>([],170):=rfl
def sZ(s:Bg):(dec s).1<=9007199254740992:=by
 unfold dec;grind
def yR(s:Bg)(hs:Aim s<=140737488355328)(w:Ad)(T:Env w):
 Bn prog 91 [Bj s] w fun v w'=>∃u,v=.tuple #[u,U (((GH s).2:Y):H)]/\Bp w' w.heap.size 174 2 u (Aim (GH s).1) (MH (GH s).1)/\Bf w w':=by
 have nil:∀w':Ad,Bp w' w.heap.size 174 2 (.slice Aa 0 0) (Aim ([]:Ae Pr)) (MH []):=fun w'=>Bp.nil _ _ _ _;refine Bw func91 Z ntmps91 Be Z ?_;refine(O 13)<|Zi (fun t=>?_) fun t=>?_
 .have e:GH s=([],3):=by unfold GH;rw[Ai J]
  refine(O 5∘BH) ?_;rw[e];exact⟨_,Z,nil w,Bf.refl _⟩
 .have V:GH s=Fe (Aim s+1) s []:=by unfold GH;rw[Ag J]
  refine(O 9)<|Lo (fun((q,g,v,wr):(Bg)×(Ae Pr)×Ah×Ad)=>(Aim q<=Aim s/\Aim g+Aim q<=Aim s/\Fe (Aim s+1) s []=Fe (Aim q+1) q g/\Bp wr w.heap.size 174 2 v (Aim g) (MH g)/\Bf w wr,[(0,Bj (q)),(4,v)],wr,Aim q)) (s,([]),(.slice Aa 0 0),w) ?_ ?_
  .exact⟨Bq _,Bl,Z,nil w,Bf.refl _⟩
  .rintro⟨q,g,v,wr⟩⟨hq,af,G,i,B⟩;refine(O 5∘Zv (by exact HD (r:=[]) Z Z)∘O 1)<|Zi (fun f=>?_) fun f=>?_
   .subst f;refine(O 7∘BH) ?_;rw[V,G];exact⟨v,Z,i,B⟩
   .have ab:Aim q<=262144:=J;have no:Kz q=Aa->GH s=([],170):=fun h=>by rw[V,G,fV,Ag f,h]
    have y:=fw q 32 J wr (T.ext B);have I:=ft q 32;have p:(dec (CN q 32).1).2=(dec (CN q 32).1).2:=rfl;have o:=sZ (CN q 32).1;have a:Kz q=if(CN q 32).2.2=Af/\(dec (CN q 32).1).2=0/\(dec (CN q 32).1).1<=Aim q/\Aim (CN q 32).1+2<=(dec (CN q 32).1).1/\q.getD ((dec (CN q 32).1).1-1) 0=10 then(if(CN ((q.drop (Aim (CN q 32).1+1)).take ((dec (CN q 32).1).1-1-(Aim (CN q 32).1+1))) 61).2.2=Af/\(CN ((q.drop (Aim (CN q 32).1+1)).take ((dec (CN q 32).1).1-1-(Aim (CN q 32).1+1))) 61).1≠[]then X (⟨(CN ((q.drop (Aim (CN q 32).1+1)).take ((dec (CN q 32).1).1-1-(Aim (CN q 32).1+1))) 61).1,(CN ((q.drop (Aim (CN q 32).1+1)).take ((dec (CN q 32).1).1-1-(Aim (CN q 32).1+1))) 61).2.1⟩,(dec (CN q 32).1).1)else Aa)else Aa:=rfl;generalize(CN q 32).2.1=rest at y;generalize(CN q 32).2.2=ok at y a;generalize(CN q 32).1=d at y I p o a;have L:=fun w'=>tp d J w';generalize(dec d).1=n at L o a;generalize(dec d).2=e at L p a;refine(O 4∘Zc y) ?_;rintro _ k⟨rfl,m⟩;refine(O 11∘Zc (L k)) ?_;rintro _ k⟨rfl,rfl⟩;refine(O 8) ?_;have P:=B.trans m
    have N:Kz q=Aa->∃u:Ah,Value.tuple #[.slice Aa 0 0,U ((170:Y):H)]=.tuple #[u,U (((GH s).2:Y):H)]/\Bp k w.heap.size 174 2 u (Aim (GH s).1) (MH (GH s).1)/\Bf w k:=fun h=>by
     rw[no h];grind
    rcases ok with _|_
    .skip
     refine(O 34∘BH) ?_;grind
    .skip
     refine(O 8)<|Zd 34 (fun a1=>?_) fun a1=>?_
     .refine(O 26∘BH) ?_;grind
     .refine(O 6)<|Zd 40 (fun a2=>?_) fun a2=>?_
      .refine(O 20∘BH) ?_;grind
      .refine(O 7)<|Zd 47 (fun a3=>?_) fun a3=>?_
       .refine(O 13∘BH) ?_;grind
       .have D:n-1<Aim q:=J;have S:q.getD (n-1) 0=q[n-1]:=by simp[BX,D]
        refine(O 7)<|Zi (fun a4=>?_) fun a4=>?_
        .refine(O 5∘BH) ?_;exact N (by rw[a,Ag (fun h=>a4 (by have:=h.2.2.2.2;rw[S]at this;simp_all))])
        .have K:q.getD (n-1) 0=10:=by rw[S];exact Ll.1 Bh
         rw[Ai ⟨Z,J,J,J,K⟩]at a;have ai:Aim ((q.drop (Aim d+1)).take (n-1-(Aim d+1)))<=262144:=by rw[BY,CK];omega
         have x:=fw ((q.drop (Aim d+1)).take (n-1-(Aim d+1))) 61 J k (T.ext P);have E:=ft ((q.drop (Aim d+1)).take (n-1-(Aim d+1))) 61;generalize(CN ((q.drop (Aim d+1)).take (n-1-(Aim d+1))) 61).2.1=val at x a;generalize(CN ((q.drop (Aim d+1)).take (n-1-(Aim d+1))) 61).2.2=ok2 at x a;generalize(CN ((q.drop (Aim d+1)).take (n-1-(Aim d+1))) 61).1=key at x a E;refine(O 9∘Zv (by exact Oo underlying9 Z Z Z J)∘Zc x) ?_;rintro _ Q⟨rfl,l⟩;refine(O 10) ?_;have x2:=P.trans l
         have W:Kz q=Aa->∃u:Ah,Value.tuple #[.slice Aa 0 0,U ((170:Y):H)]=.tuple #[u,U (((GH s).2:Y):H)]/\Bp Q w.heap.size 174 2 u (Aim (GH s).1) (MH (GH s).1)/\Bf w Q:=fun h=>by
          simp_all
         rcases ok2 with _|_
         .skip
          refine(O 14∘BH) ?_;grind
         .skip
          refine(O 5∘Zv (by exact HD (r:=[]) Z Z)∘O 2)<|Zi (fun b1=>?_) fun b1=>?_
          .refine(O 5∘BH) ?_;grind
          .rw[Ai ⟨Z,b1⟩]at a;have j:=(i.ext m).ext l;refine(O 7∘Ko x2 j) ?_;rintro _ v3 w3 C A _;refine(O 5∘Zv (by exact Nd underlying9 Z Z J)∘O 3)<|Lb ((q.drop n),(g++[⟨key,val⟩]),v3,w3) ?_ (hm:=by dsimp only;rw[CK];omega);refine⟨by rw[CK];omega,Bh,?_,?_,A⟩
           .rw[G,fV,Ag f,a];simp only;exact((XM _ (q.drop n) _ (by rw[CK];omega)).2 _ J).symm
           .rw[BA,CJ,MH,Ia];assumption
def sq(s:Bg)(w:Ad):Bn prog 168 [Bj s,Bj [61]] w fun v w'=>v=.bool (decide ((61:AH)∈s))/\w=w':=by
 refine(GY func168 (by rfl) (Tryz.strings_Contains_one ⟨s.toArray⟩ 61 w)).mono ?_;rintro v w'⟨rfl,rfl⟩;refine⟨Ar Value.bool (decide_eq_decide.2 ?_),Z⟩;rw[show(⟨s.toArray⟩:ByteArray).data.toList=s from Z];rcases Pb s 61 with⟨d,a⟩|⟨i,d,_,_,a⟩
 .grind
 .grind
def tC(n:Y):QA (n:H)=Lib.decDigits n:=by
 rfl
def XS(n:Y)(h1:n<=9223372036854775807)(w:Ad)(ht:Env w):Bn prog 169 [U (n:H)] w fun v w'=>v=Bj (Lib.decDigits n)/\Bf w w':=by
 have:=tD (n:H) J J w ht.tab;rwa[tC]at this
def tO(p:Pr)(l:Ae Pr)(n:Y)(out:Bg):Ls (p::l) n out=if 262144<n+CP p then([],3)else Ls l (n+CP p) (out++Di p):=rfl
def tE{n:Y}(h:n<=9223372036854775807):dl n<=19:=fS 19 n J Bl
def zD{p:Pr}(h:dl (CP p)=JH (rest p)):Aim (Di p)=CP p:=by
 unfold Di;simp only[BA,CJ];unfold dl at h;rw[h];unfold CP rest;omega
def yu(k:Bg):MC k=Af↔¬(k=[]∨(61:AH)∈k):=by
 unfold MC;simp
def OkP(l:Ae Pr):Prop:=∀p∈l,Aim p.key<=1000000000000/\Aim p.val<=1000000000000
def yS(l:Ae Pr)(hl:Aim l<=140737488355328)(a6:OkP l)(A:Av AC)(k B:Y)(w:Ad)(hG:Env w)(hs:Sl w B A (MH l)):
 Bn prog 129 [.slice A (Aim l) k] w fun v w'=>v=.tuple #[Bj (NE l).1,U (((NE l).2:Y):H)]/\Bf w w':=by
 refine Bw func129 Z ntmps129 Be Z ?_;refine(O 16)<|Lc (fun(wr:Ad)=>(l.all (fun p=>MC p.key)=Af/\Bf w wr,[(0,.slice A (Aim l) k),(4,U ((0:Y):H))],wr)) ?_ ?_
 .refine(O 1)<|Lo (fun((i,wr):Y×Ad)=>(i<=Aim l/\(l.take i).all (fun p=>MC p.key)=Af/\Bf w wr,[(0,.slice A (Aim l) k),(4,U ((0:Y):H)),(12,.slice A (Aim l) k),(13,U ((Aim l:Y):H)),(14,U i)],wr,Aim l-i)) (0,w) ?_ ?_
  .exact⟨J,Z,Bf.refl _⟩
  .rintro⟨i,wr⟩⟨hi,j,t⟩;refine(O 5)<|Zi (fun a=>?_) fun a=>?_
   .obtain⟨b,o,rfl,_,f⟩:=(hs.ext t).flat (c:=2) (fun _=>rfl) Bc a;have a0:l.take (i+1)=l.take i++[l[i]]:=(CR a).symm;refine(O 6∘Zv (Do ((l[i]).cells) f)∘Zn) ?_;rintro T w1 W a5 G;refine(Zs a5 (hlt:=Bq _)) ?_;rintro Q I a9;refine(O 2) ?_;replace I:Bk Q T 174 (l[i]).cells:=I;have x2:Bf w Q:=Bv (t.trans G) a9 (t.trans G).size (fun k hk=>by simp at hk;have:=t.size;omega)
    have no:MC (l[i]).key=Aj->NE l=([],170):=fun h=>by
     unfold NE;grind
    refine(O 3∘Zv (by exact HD (r:=[]) Z Z)∘O 1)<|Zd 21 (fun h1=>?_) fun h1=>?_
    .refine(O 11∘BH) ?_;rw[no (by unfold MC;grind)];exact⟨Z,x2⟩
    .refine(O 2∘Zc (sq (l[i]).key Q)) ?_;rintro _ _⟨rfl,rfl⟩;refine(O 2)<|Zi (fun h2=>?_) fun h2=>?_
     .refine(O 5∘BH) ?_;rw[no (by unfold MC;grind)];exact⟨Z,x2⟩
     .refine(O 6)<|Lb ((i+1),Q) ?_;refine⟨J,?_,x2⟩;rw[a0,List.all_append,j];have:MC (l[i]).key=Af:=(yu _).2 Bh;grind
   .obtain rfl:i=Aim l:=J;rw[DY]at j;refine(O 1∘Lm wr) ?_;grind
 .rintro wr⟨j,t⟩;have e0:NE l=Ls l 0 []:=by unfold NE;rw[Ai j]
  rw[e0];refine(O 2∘Zn) ?_;rintro bb w1 W bh G;refine(O 9) ?_;have P:=Bd.new (B:=w.heap.size) (by have:=t.size;omega) bh;have x1:=t.trans G;refine Lo (fun((i,n,g,wr):Y×Y×(Bg)×Ad)=>(i<=Aim l/\n<=262144/\Aim g<=n/\Ls (l.drop i) n g=Ls l 0 []/\Bd wr w.heap.size bb g/\Bf w wr,[(4,U n),(7,.pointer (X ⟨bb,0,Aa⟩)),(27,.slice A (Aim l) k),(28,U ((Aim l:Y):H)),(29,U i)],wr,Aim l-i)) (0,0,([]),w1) ?_ ?_
  .grind
  .rintro⟨i,n,g,wr⟩⟨hi,hn,bs,x,P,t⟩;refine(O 5)<|Zi (fun a=>?_) fun a=>?_
   .obtain⟨b,o,rfl,_,f⟩:=(hs.ext t).flat (c:=2) (fun _=>rfl) Bc a;have bc:l.drop i=l[i]::l.drop (i+1):=Ds a;have hp:=a6 l[i] (BM a);have a3:(l[i]).cells=[Bj (l[i]).key,Bj (l[i]).val]:=rfl;rw[bc,tO]at x;generalize l[i]=p at hp x f a3;refine(O 6∘Zv (Do p.cells f)∘Zn) ?_;rintro T Q bi I E;refine(Zs I (hlt:=Bq _)) ?_;rintro w3 N a8;refine(O 4) ?_;replace N:Bk w3 T 174 p.cells:=N;have x3:Bf wr w3:=Bv E a8 E.size (fun k hk=>by grind);refine(O 17) ?_;have hr:((Aim p.key:Y):H)+((Aim p.val:Y):H)+3=((rest p:Y):H):=by unfold rest;omega
    have bq:rest p<=2000000000003:=by unfold rest;omega
    refine(Cw 10 (U (((rest p):Y):H)) (e:=by exact Ar (Value.int .i64) (by unfold rest;omega))∘Cw 11 (U (((rest p+1):Y):H)) (e:=by exact Ar (Value.int .i64) (by unfold rest;omega)))<|Lo (fun((z,wq):Y×Ad)=>(rest p+1<=z/\z<=rest p+20/\z<=dl z+rest p/\(∀d,1<=d->d+rest p<z->dl (d+rest p)≠d)/\Bf w3 wq,[(4,U n),(7,.pointer (X ⟨bb,0,Aa⟩)),(9,.pointer (X ⟨T,0,Aa⟩)),(10,U (((rest p):Y):H)),(11,U z),(27,.slice (X ⟨b,o,Aa⟩) (Aim l) k),(28,U ((Aim l:Y):H)),(29,U i)],wq,rest p+21-z)) ((rest p+1),w3) ?_ ?_
    .exact⟨J,J,by have:=fU (rest p+1);omega,fun d h1 h2=>by omega,Bf.refl _⟩
    .rintro⟨z,wq⟩⟨bn,bm,ao,al,C⟩;have bl:dl z<=19:=tE J;have xq:=(t.trans x3).trans C;have c1:=XS z J wq (hG.ext xq);have ba:Aim (Lib.decDigits z)=dl z:=rfl;generalize hD:Lib.decDigits z=D at c1 ba;refine(O 4∘Zc c1) ?_;rintro _ S⟨rfl,m⟩;refine(O 6)<|Zi (fun a7=>?_) fun a7=>?_
     .have c2:=XS z J S (hG.ext (xq.trans m));rw[hD]at c2;refine(O 4∘Zc c2) ?_;rintro _ w5⟨rfl,y⟩;refine(O 6∘Cw 11 (U (((dl z+rest p):Y):H)) (e:=by exact Ar (Value.int .i64) J))<|Lb ((dl z+rest p),w5) ?_;refine⟨J,J,?_,?_,(C.trans m).trans y⟩
      .have:=fT z (dl z+rest p) ao;omega
      .intro d h1 h2 h3;by_cases h4:d+rest p<z
       .grind
       .have:=fT z (d+rest p) J;omega
     .have aj:dl z+rest p=z:=J
      have hd:IsD (rest p) (dl z):=by
       refine⟨fU z,J,Bh,fun d' h1 h2=>al d' h1 J⟩
      have bf:=vE hd;have V:CP p=z:=by unfold CP;rw[<-bf];exact aj
      have a1:=zD (p:=p) Bh;have a2:Di p=D++[32]++p.key++[61]++p.val++[10]:=by unfold Di;rw[V,hD]
      rw[V]at a1 x;refine(O 14)<|Zi (fun ab=>?_) fun ab=>?_
      .rw[Ai J]at x;refine(O 5∘BH) ?_;rw[<-x];exact⟨Z,xq.trans m⟩
      .rw[Ag J]at x;have a4:=(N.ext C).ext m;have ai:=((P.ext x3).ext C).ext m;have x4:=xq.trans m;have c3:=XS z J S.drew (hG.ext (x4.trans (Bf.drew S)));rw[hD]at c3;refine(O 1∘Yr 12 (fun w'=>Bk w' T 174 p.cells) a4.drew) fun hS=>(Gv [0,3,4,7,8]∘Yc 1 c3) ?_;rintro _ w5⟨rfl,y⟩;refine⟨hS.ext y,fun hS=>?_⟩;refine(Yw 2 (he:=by exact fun _ _=>JY (r:=[32]) Z Z (by first|omega|(simp only[BA,Cv,EZ,BY,CK,Cm];omega)))∘Gv [5]∘Yw 6 (he:=by exact fun _ _=>JY (r:=[61]) Z Z (by first|omega|(simp only[BA,Cv,EZ,BY,CK,Cm];omega)))∘Gv [9]∘Yw 10 (he:=by exact fun _ _=>JY (r:=[10]) Z Z (by first|omega|(simp only[BA,Cv,EZ,BY,CK,Cm];omega)))) ?_;have af:=(ai.ext (Bf.drew S)).ext y;have x5:=(x4.trans (Bf.drew S)).trans y;refine(Yc 11 (bF w.heap.size bb g (D++[32]++p.key++[61]++p.val++[10]) w5 af Bl Bh x5.size)) ?_;rintro _ w6⟨⟨q,rfl⟩,L,bj,K⟩;refine⟨K.bk hS Bc,fun hS=>?_⟩;refine(Yd∘O 5) ?_;rw[<-a2]at L;refine(Cw 4 (U (((n+z):Y):H)) (e:=by exact Ar (Value.int .i64) J))<|Lb ((i+1),(n+z),(g++Di p),w6) ?_;refine⟨J,J,Bh,x,L,Tm.below x5 K x5.size (Bq _)⟩
   .obtain rfl:i=Aim l:=J;rw[IK]at x;have e2:Ls l 0 []=(g,0):=x.symm;rw[e2];refine(O 3∘Zc (Xm w.heap.size bb g wr P J t.size)) ?_;rintro _ Q⟨rfl,E⟩;refine(O 3∘BH) ?_;exact⟨Z,Below.trans t E⟩
end
section
attribute [local irreducible] OW KW QW EX GW NV
open Fld Ust Pax Pth Tar
def _root_.Go.Proofs.YtkmlafmjaeeanaaGreatDoor.Tar.En.cells(x:En):Bm:=[Bj x.path,Bj x.data]
abbrev DN(l:Ae En):Bm:=l.flatMap En.cells
def uh(n:Y)(h:n<=9007199254740992)(w:Ad):Bn prog 167 [U ((n:Y):H)] w fun v w'=>v=U ((Gj n:Y):H)/\w=w':=by
 refine Bw func167 Z ntmps167 (by rfl) Z ?_;refine(O 13∘Bu) ?_;exact⟨Z,Z⟩
def uS{p:Bg}{k n:Y}(hp:Aim p<=1000000)(hk:k<=255)(hn:n<=9007199254740992):(CM p k n).Ok:=
 ⟨hk,by show Aim p<=_;omega,by show(0:Y)<=_;omega,by show(0:Y)<=_;omega,by show(0:Y)<=_;omega,by unfold Kd CM;simp only;omega,by unfold Kd CM;simp only;omega,by unfold Kd CM;simp only;omega,by unfold Kd CM;simp only;omega,by unfold Kd CM;simp only;omega⟩
def aA(p:Bg)(k:Y)(d:Bg)(g:Tar.Good p k (Aim d))(m:Aim p<=1000000)(hk:k<=255)(x:Aim d<=1000000)(w:Ad):
 Bn prog 128 [Bj p,.int .u8 (k:H),Bj d] w fun v w'=>v=.tuple #[Bj (FU p k d),U ((0:Y):H)]/\Bf w w':=by
 have f:=Aeu (CM p k (Aim d)) (uS m hk J) w;rw[g.enc]at f;have i:Aim (CW (CM p k (Aim d)))=512:=g.len;have t:=Yk (Aim d);have q:=SA (Aim d);unfold FU;generalize CW (CM p k (Aim d))=h at f i;refine Bw func128 Z ntmps128 Be Z ?_;refine(O 12∘Zc f) ?_;rintro _ l⟨rfl,e⟩;refine(O 12∘Cd 20∘O 9∘Zc (uh (Aim d) J l)) ?_;rintro _ _⟨rfl,rfl⟩;refine(O 3∘Gf) ?_;rintro b r o j a;rw[<-Xp]at j;have n:=Vc (Gj (Aim d)-Aim d);refine(Zv (DZ j.sl (hl:=Vc _))∘O 4∘BH) ?_;exact⟨Z,e.trans a⟩
def gj(x:En)(t:Aim x.path<=1000000000000)(hd:Aim x.data<=140737488355328)(w:Ad)(hG:Env w):
 Bn prog 99 [.agg x.cells.toArray] w fun v w'=>v=.tuple #[Bj (JL x).1,U (((JL x).2:Y):H)]/\Bf w w':=by
 refine Bw func99 Z ntmps99 Be Z ?_;refine(O 2) ?_;refine DB Z Z Z ?_;rintro P T ab i D;refine(O 7) ?_;replace i:Bk T P 64 x.cells:=i;refine(O 1∘Zc (OM x.path t T)) ?_;rintro _ w2⟨rfl,q⟩;refine(O 7) ?_;have x2:=D.trans q;have L:=i.ext q;refine Zi (fun G=>?_) fun G=>?_
 .have e:JL x=([],140):=by unfold JL;rw[Ai J]
  have a4:Cy x.path=140:=by unfold Cy at G ⊢;split at G;(· omega);(· grind)
  refine(O 6∘BH) ?_;grind
 .have h:Cy x.path=0:=J;obtain⟨a3,aj,a,hz⟩:=Qx h;refine(O 9)<|Zi (fun B=>?_) fun B=>?_
  .have e:JL x=([],3):=by unfold JL;rw[Ag J,Ai J]
   refine(O 5∘BH) ?_;grind
  .have A:Aim x.data<=262144:=J;have e:JL x=(JM x,0):=by unfold JL;rw[Ag J,Ag J]
   refine(O 6∘Zc (lL x.path J w2)) ?_;rintro _ w3⟨r,rfl,hr,o⟩;refine(O 12) ?_;obtain rfl:=nt hr;have S:=x2.trans o;have K:=L.ext o;rcases hs:(BP x.path).2.2 with _|_
   .refine(O 5) ?_;have y:¬(BP x.path).2.2=Af:=by rw[hs];decide
    have N:JM x=FU Hh 120 (Di ⟨Ec,x.path⟩)++FU (x.path.take 100) 48 x.data:=by unfold JM;rw[Ag y]
    have E:=xU y;have ai:=ad (Pu a);have a0:=SC _ (Pu a);have af:CP ⟨Ec,x.path⟩<=300:=by unfold CP;have:=Pu a;omega
    have g1:=YH (n:=Aim (Di ⟨Ec,x.path⟩)) J;have g2:=YF h A;have ao:=az g1;have al:=az g2;have a2:=SA (Aim (Di ⟨Ec,x.path⟩));have a1:=SA (Aim x.data);refine(O 2) ?_;refine Mi 1 ([[Bj Ec,Bj x.path]]) Z Z underlying170 nY Z Bc Z Z Z Bl Bc ?_;rintro V C W f d;replace f:Bk C V 174 (MH [⟨Ec,x.path⟩]):=f;have Q:=S.trans d;have c1:=yS [⟨Ec,x.path⟩] Bl (by intro p t;simp only[CG]at t;subst t;exact⟨by show Aim Ec<=_;decide,t⟩) (X ⟨V,0,Aa⟩) 1 _ C (hG.ext Q) (Sl.Agf f f.lt);rw[yP a]at c1;refine(Zc c1) ?_;rintro _ w5⟨rfl,m⟩;refine(O 9) ?_;have c2:=aA Hh 120 (Di ⟨Ec,x.path⟩) g1 Bc Bc J w5;refine(Zc c2) ?_;rintro _ w6⟨rfl,l⟩;refine(O 7) ?_;have I:=((K.ext d).ext m).ext l;have x6:=(Q.trans m).trans l;refine(Yr 11 (fun w'=>Bk w' P 64 x.cells) I.drew) fun hS=>(Gv [0,1]∘Yw 2 (he:=by exact fun _ _=>Ka (j:=100) underlying9 Z Z J)∘Gv [3,4]) ?_;have c3:=fun w=>aA (x.path.take 100) 48 x.data g2 Bh Bc J w;refine(Yc 5 (c3 _)) ?_;rintro _ w7⟨rfl,k⟩;refine⟨hS.ext k,fun hS=>?_⟩;refine(Gv [6,7,8,9,10]∘Yd∘O 9∘BH) ?_;rw[e,N];exact⟨Z,(x6.trans (Bf.drew w6)).trans k⟩
   .refine(O 4) ?_;have N:JM x=FU x.path 48 x.data:=by unfold JM;rw[Ai hs]
    have g:=YG h A hs;refine(O 3∘Zc (aA x.path 48 x.data g J Bc J w3)) ?_;rintro _ C⟨rfl,d⟩;refine(O 5∘BH) ?_;rw[e,N];exact⟨Z,S.trans d⟩
end


namespace Rec
open Go.Proofs.YtkmlafmjaeeanaaGreatDoor
def be:Y->Y->Bg
 |0,_=>[]
 |w+1,n=>be w (n/256)++[BS (n%256)]
def Eb:∀w n,Aim (be w n)=w
 |0,_=>rfl
 |w+1,n=>by simp[be,Eb w]
def nb(s:Bg):Y:=s.foldl (fun v c=>v*256+c.toNat) 0
def Zu(s:Bg)(c:AH):nb (s++[c])=nb s*256+c.toNat:=by simp[nb]
def SJ:∀(k:Y) (s:Bg),Aim s=k->nb s<256 ^ k
 |0,s,h=>by rw[Gx h];decide
 |k+1,s,h=>by
  have hne:s≠[]:=by intro e;subst e;simp at h
  rw[<-List.dropLast_concat_getLast hne,Zu];have a:=SJ k s.dropLast Bh;have d:=(s.getLast hne).toNat_lt;omega
def Pn:∀w n,n<256 ^ w->nb (be w n)=n
 |0,n,h=>by simp at h;subst h;rfl
 |w+1,n,h=>by
  simp only[be,Zu];rw[Pn w (n/256) J];simp;omega
def body(kind gen index:Y)(data:Bg):Bg:=[75,73,83,84]++[BS kind]++be 8 gen++be 4 index++be 2 (Aim data)++(data++BG (489-Aim data) 0)
def dW(e gen d:Y)(a:Bg)(h:Aim a<=486):Aim (body e gen d a)=508:=by
 simp[body,Eb];omega
def text(kind gen index:Y)(data:Bg):Bg:=body kind gen index data++be 4 (Fc (body kind gen index data))
def VM(e gen d:Y)(a:Bg)(h:Aim a<=486):Aim (text e gen d a)=512:=by
 unfold text;rw[BA,dW _ _ _ _ h,Eb]
def Cn(kind:Y)(gen index:H)(data:Bg):Prop:=kind=0∨gen<0∨4611686018427387904<gen∨index<0∨2147483647<index∨486<Aim data
instance(kind:Y)(gen index:H)(data:Bg):Decidable (Cn kind gen index data):=by unfold Cn;infer_instance
def EH(kind:Y)(gen index:H)(data:Bg):Bg×Y:=if Cn kind gen index data then([],200)else(text kind gen.toNat index.toNat data,0)
structure R where
 kind:Y
 gen:H
 index:H
 data:Bg
 deriving DecidableEq
def R0:R:=⟨0,0,0,[]⟩
def Hy(s:Bg):H:=if nb s<9223372036854775808 then nb s else(nb s:H)-18446744073709551616
def DE(s:Bg):R:=⟨(s.getD 4 0).toNat,Hy ((s.drop 5).take 8),Hy ((s.drop 13).take 4),(s.drop 19).take (nb ((s.drop 17).take 2))⟩
def CB(s:Bg):R×Y:=
 if Aim s=512/\nb ((s.drop 17).take 2)<=486/\EH (DE s).kind (DE s).gen (DE s).index (DE s).data=(s,0)then(DE s,0)else(R0,200)
end Rec

section
attribute [local irreducible] OW KW QW EX GW NV
def u8_lt(c:AH):c.toNat<256:=c.toNat_lt
def YR(s:Bg)(C:Aim s<=9223372036854775807)(w:Ad):
 Bn prog 62 [Bj s] w fun v w'=>v=.int .u32 (Fc s:Y)/\Bf w w':=by
 refine Bw func62 Z ntmps62 (by rfl) Z ?_;refine(O 6∘Zc (nH w)) ?_;rintro _ i⟨rfl,d⟩;refine(Zv (by exact EX.alloc (l:=Ob) NY Z)) ?_;have r:=Bk.new i 178 Ob;have j:=d.trans (Bf.alloc i (.cells Ob.toArray 178));refine WW Z NY Z Z Rt (Ng.2 fun v y=>by obtain⟨_,_,rfl⟩:=Ck.1 y;rfl) r Cm ?_;intro f B q;refine(O 13) ?_;have t:=j.grown q (fun g q=>by cases q;exact d.size);refine Lo (fun((k,x):Y×Y)=>(k<=Aim s/\x<4294967296/\x=Sj (s.take k),[(0,Bj (s)),(3,.pointer (X ⟨i.heap.size,0,Aa⟩)),(4,.int .u32 x),(8,U ((Aim s:Y):H)),(9,U k)],f,Aim s-k)) (0,4294967295) ?_ ?_
 .exact⟨J,J,Z⟩
 .rintro⟨k,x⟩⟨D,d,a⟩;refine(O 5)<|Zi (fun h=>?_) fun h=>?_
  .have E:=u8_lt s[k];have o:=Aem s[k].toNat;have e:x/16777216 ^^^ HY 8 s[k].toNat 0<256:=OG (n:=8) J o;have A:=XH (x/16777216 ^^^ HY 8 s[k].toNat 0);refine(O 10) ?_;refine OW.val Z Z (by first|exact Hk (s:=8) (p:=256) (m:=4294967295) Z Z Bc Bc Z J|exact IF (s:=8) (p:=256) (m:=4294967296) Z Z Bc Bc Z Bc)<|(O 1∘Zv (by exact IG (s:=24) (p:=16777216) Z Z Bc Bc)∘O 5∘Zc (oB s[k].toNat 8 J J f)) ?_;rintro _ _⟨rfl,rfl⟩;refine(O 1∘Zv (by exact Jq (m:=255) Z Z Z J)∘O 1∘Zv (Bo B (hi:=aP _ e))∘Zv (by exact Jq (m:=4294967295) Z Z Z J)∘O 7)<|Lb ((k+1),(OP x (HY 8 s[k].toNat 0))) ?_;exact⟨J,XD _ _,by rw[aS s k h,rQ,<-a]⟩
  .refine(O 4∘Zv (by exact cF (m:=4294967295) Z Z Z J)∘Zc (oB (4294967295-x) 32 J J f)) ?_;rintro _ _⟨rfl,rfl⟩;refine(O 2∘Bu) ?_;rw[DA J]at a;exact⟨by rw[a];rfl,t⟩
end
section
attribute [local irreducible] OW KW QW GW NV
open Rec
def zh(k:Y):2 ^ (8*k)=256 ^ k:=by rw[Nat.pow_mul]
def HQ(n d:Y)(I:n<18446744073709551616)(E:1<=d/\d<=8)(w:Ad):
 Bn prog 141 [.int .u64 (n:H),U (d:H)] w fun v w'=>v=Bj (be d n)/\Bf w w':=by
 refine Bw func141 Z ntmps141 (by rfl) Z ?_;refine(O 7∘Gf) ?_;rintro o r C N A;refine OW.val Z Z (CI Z) ?_;refine OW.nil ?_;refine Ek (Ek (KW.region ?_));refine OW.val Z Z (EX.move Z) ?_;refine OW.val Z Z (PU underlying23 Z) ?_;refine OW.val Z Z (EX.move Z) ?_;refine OW.nil ?_;refine KW.block ?_;refine qh (fun(i:Y) (wr:Ad)=>i<=d/\Bk wr o 5 (BI (be i (n/256 ^ (d-i)))++BG (d-i) (.int .u8 0))/\Bf w wr) (fun(i:Y) (wr:Ad)=>[(0,.int .u64 ((n:Y):H)),(1,U ((d:Y):H)),(5,.slice (X ⟨o,0,Aa⟩) d d),(10,U ((d:Y):H)),(11,U ((i:Y):H))]) (fun(i:Y) (wr:Ad)=>wr) (fun(i:Y) (wr:Ad)=>d-i) (0) (r) ⟨Z,Z,Z,Z,Z,AB⟩ Z ?_ ?_
 .exact⟨J,Cr,A⟩
 .rintro i wr⟨L,j,f⟩;refine Ek (KW.region ?_);refine OW.val Z Z (by first|exact Oi Z Z|exact Oj Z Z) ?_;refine OW.nil ?_;refine Ek ?_;refine TE Z (fun h=>?_) (fun h=>?_)
  .have B:n/256 ^ (d-1-i)/256=n/256 ^ (d-i):=by
    rw[show d-i=(d-1-i)+1 by omega,IQ,WP]
   have G:n/256 ^ (d-1-i)<=n:=Oz _ _;refine KW.skip (Ek (KW.block (Ek (KW.region ?_))));refine OW.val Z Z (EX.move Z) ?_;refine OW.val Z Z (CI Z) ?_;refine OW.nil ?_;refine KW.region ?_;refine OW.val Z Z (EX.move Z) ?_;refine OW.val Z Z (EX.move Z) ?_;refine OW.val Z Z (EX.move Z) ?_;refine OW.val Z Z (EX.move Z) ?_;refine OW.val Z Z (by first|exact Kb (b:=1) (m:=9223372036854775807) Z Z Z J|exact RG (m:=9223372036854775807) Z Z Z Z J) ?_;refine OW.val Z Z (EX.move Z) ?_;refine OW.val Z Z (by first|exact Kb (m:=9223372036854775807) Z Z Z J|exact RG (m:=9223372036854775807) Z Z Z Z J) ?_;refine OW.val Z Z (by first|exact Wf (a:=8) (m:=9223372036854775807) Z Z Z J|exact EX.mulZ (m:=9223372036854775807) Z Z Z Z J) ?_;refine OW.val Z Z (by first|exact LS (m:=18446744073709551615) underlying3 underlying180 Z Z J|exact MY (m:=18446744073709551616) underlying3 underlying180 Z Z Bc|exact EX.convZ underlying3 underlying180 Z) ?_;refine OW.val Z Z (IG (s:=8*(d-1-i)) (p:=256 ^ (d-1-i)) Z Z (zh _) (by show _<=64;omega)) ?_;refine OW.val Z Z (by first|exact LS (m:=255) underlying211 underlying5 Z Z J|exact MY (m:=256) underlying211 underlying5 Z Z Bc|exact EX.convZ underlying211 underlying5 Z) ?_;refine OW.val Z Z (by first|exact KQ underlying23 CD Z Z J|exact KS underlying23 CD Z Z J) ?_;refine Ud Z CD Z Z (by rfl) (j) (by simp[BI,Eb];omega) ?_;rintro q D g;refine OW.nil ?_;refine cW (KW.region ?_);refine OW.val Z Z (by first|exact JX (b:=1) (m:=9223372036854775807) Z Z Z J|exact JZ (m:=9223372036854775807) Z Z Z Z J) ?_;refine OW.val Z Z (EX.move Z) ?_;refine OW.nil ?_;refine qa (i+1) (q) ⟨Z,Z,Z,Z,Z,AB⟩ Z ?_ J;refine⟨J,?_,Bv f g f.size (fun k K=>by grind)⟩
   have e:be (i+1) (n/256 ^ (d-(i+1)))=be i (n/256 ^ (d-i))++[BS (n/256 ^ (d-1-i)%256)]:=by
    rw[show d-(i+1)=d-1-i by omega];simp only[be];rw[B]
   have Q:(BI (be i (n/256 ^ (d-i)))++BG (d-i) (Value.int .u8 0)).set i (.int .u8 ((n/256 ^ (d-1-i)%256:Y):H))=BI (be (i+1) (n/256 ^ (d-(i+1))))++BG (d-(i+1)) (.int .u8 0):=by
    rw[e,Md _ _ (by simp[BI,Eb])];have l:Aim (BI (be i (n/256 ^ (d-i))))=i:=by simp[BI,Eb]
    rw[l,EP,show d-i=(d-(i+1))+1 by omega,HI,IN];simp[BI]
   grind
  .obtain rfl:i=d:=J;rw[EP,TT,List.append_nil,Nat.pow_zero,Nat.div_one]at j;refine(O 4∘Zv (DZ j.sl (hl:=Eb _ _))∘O 2∘Bu) ?_;grind
def xK(s:Bg){i:Y}(h:i<Aim s):nb (s.take (i+1))=nb (s.take i)*256+s[i].toNat:=by
 rw[Me,BN h];exact Zu _ _
def Rh(d n:Y)(s:Bg)(T:Ay)(w:Ad)(a:Bk w d T [Bj s])(j:n<=1000000000000)(i:Aim s<=1000000000000):
 Bn prog 105 [.pointer (X ⟨d,0,Aa⟩),U (n:H)] w fun v w'=>v=Bj (s.take n)/\Bk w' d T [Bj (s.drop n)]/\Mo w w' [d]:=by
 refine Bw func105 Z ntmps105 (by rfl) Z ?_;refine Ek (KW.region ?_);refine OW.val Z Z (CI Z) ?_;refine OW.nil ?_;refine Ek (Ek (KW.region ?_));refine OW.val Z Z (EX.move Z) ?_;refine OW.val Z Z (EX.move Z) ?_;refine OW.val Z Z (DV Z) ?_;refine OW.val Z Z (Dn (off:=0) underlying192 Z Z Gs Z Z) ?_;refine OW.val Z Z (Cg underlying9 Z Z (a.cell_of Z)) ?_;refine OW.val Z Z (Na underlying9 Z) ?_;refine OW.val Z Z (by first|exact Og Z Z|exact Oh Z Z) ?_;refine OW.nil ?_;refine TE Z (fun h=>?_) (fun h=>?_)
 .have l:s.take n=s:=DA J;have k:s.drop n=[]:=Ot J;refine KW.region ?_;refine OW.val Z Z (EX.move Z) ?_;refine OW.val Z Z (DV Z) ?_;refine OW.val Z Z (Dn (off:=0) underlying192 Z Z Gs Z Z) ?_;refine OW.val Z Z (Cg underlying9 Z Z (a.cell_of Z)) ?_;refine OW.val Z Z (Na underlying9 Z) ?_;refine OW.val Z Z (CI Z) ?_;refine OW.nil ?_;refine Ek (KW.region ?_);refine OW.val Z Z (EX.move Z) ?_;refine OW.val Z Z (DV Z) ?_;refine OW.val Z Z (Dn (off:=0) underlying192 Z Z Gs Z Z) ?_;refine OW.val Z Z (Cg underlying9 Z Z (a.cell_of Z)) ?_;refine OW.val Z Z (EX.move Z) ?_;refine OW.val Z Z (Ka underlying9 Z Z J) ?_;refine OW.val Z Z (CI Z) ?_;refine OW.nil ?_;refine Ek (KW.region ?_);refine OW.val Z Z (EX.move Z) ?_;refine OW.val Z Z (EX.move Z) ?_;refine OW.val Z Z (DV Z) ?_;refine OW.val Z Z (Dn (off:=0) underlying192 Z Z Gs Z Z) ?_;refine OW.val Z Z (Cg underlying9 Z Z (a.cell_of Z)) ?_;refine OW.val Z Z (EX.move Z) ?_;refine OW.val Z Z (Nd underlying9 Z Z J) ?_;refine OW.val Z Z (DV Z) ?_;refine OW.val Z Z (Dn (off:=0) underlying192 Z Z Gs Z Z) ?_;refine Ud Z Gs Z Z (by first|rfl|assumption|exact Bp.one Cr) (a) Bl ?_;rintro g f e;refine(O 6∘Bu) ?_;grind
 .refine KW.skip (Ek (KW.region ?_));refine OW.val Z Z (EX.move Z) ?_;refine OW.val Z Z (DV Z) ?_;refine OW.val Z Z (Dn (off:=0) underlying192 Z Z Gs Z Z) ?_;refine OW.val Z Z (Cg underlying9 Z Z (a.cell_of Z)) ?_;refine OW.val Z Z (EX.move Z) ?_;refine OW.val Z Z (Ka underlying9 Z Z J) ?_;refine OW.val Z Z (CI Z) ?_;refine OW.nil ?_;refine Ek (KW.region ?_);refine OW.val Z Z (EX.move Z) ?_;refine OW.val Z Z (EX.move Z) ?_;refine OW.val Z Z (DV Z) ?_;refine OW.val Z Z (Dn (off:=0) underlying192 Z Z Gs Z Z) ?_;refine OW.val Z Z (Cg underlying9 Z Z (a.cell_of Z)) ?_;refine OW.val Z Z (EX.move Z) ?_;refine OW.val Z Z (Nd underlying9 Z Z J) ?_;refine OW.val Z Z (DV Z) ?_;refine OW.val Z Z (Dn (off:=0) underlying192 Z Z Gs Z Z) ?_;refine Ud Z Gs Z Z (by first|rfl|assumption|exact Bp.one Cr) (a) Bl ?_;rintro g f e;refine(O 6∘Bu) ?_;grind
def bD(n:Y)(h:n<18446744073709551616):IntKind.i64.wrap (n:H)=if n<9223372036854775808 then(n:H)else(n:H)-18446744073709551616:=by
 have e:IntKind.i64.wrap (n:H)=if(n:H)%18446744073709551616≥9223372036854775808 then(n:H)%18446744073709551616-18446744073709551616 else(n:H)%18446744073709551616:=by
  unfold IntKind.wrap;simp[IntKind.bits,IntKind.signed]
 omega
def Afo(s:Bg)(h:nb s<18446744073709551616):IntKind.i64.wrap (nb s:H)=Hy s:=by rw[bD _ h];rfl
def yo(n:Y)(h:n<18446744073709551616):(BitVec.ofInt 64 (IntKind.i64.wrap (n:H))).toNat=n:=by
 rw[bD n h,BitVec.toNat_ofInt];omega
section
variable{P:AE}{n:Y}{σ:BJ}{w:Ad}{x y:AD}{t t' ty:Ay}
def pF{s p:Y}{c:H}{k k':AI}(hx:ev σ x=X (.int k c))(hy:ev σ y=X (.int k' (s:H)))(hp:2 ^ s=p)(hs:s<=k.bits):
 EX P n σ (.binOp .shl t x y t') ty w (.int k (k.wrap (c*(p:H)))) w:=
 Gb hx hy (by rfl) (by
  subst hp;have hn:¬(s:H)<0:=J;simp[binOp,Op.shift,hn,Hq hs])
def pD{a b:Y}{c:H}(hx:ev σ x=X (U c))(hc:c=IntKind.i64.wrap ((a*256:Y):H))(hy:ev σ y=X (U (b:H)))(hb:b<256)(ha:a<72057594037927936)(hor:a*256|||b=a*256+b):
 EX P n σ (.binOp .or t x y t') ty w (U (IntKind.i64.wrap ((a*256+b:Y):H))) w:=
 EV hx hy (by
  have e3:(binOp .or t (U c) (U (b:H))).run P w=.ok (U (IntKind.i64.wrap ((BitVec.ofInt 64 c|||BitVec.ofInt 64 (b:H)).toNat:H))) w:=rfl;have hf:(BitVec.ofInt 64 (b:H)).toNat=b:=kY (k:=.i64) (by simp only[_root_.Go.Proofs.YtkmlafmjaeeanaaGreatDoor.maxN];omega);rw[e3,BitVec.toNat_or,hc,yo _ J,hf,hor])
attribute [local irreducible] EX
end
def yx(m b:Y)(h:b<256):m*256|||b=m*256+b:=by
 have:=Nat.two_pow_add_eq_or_of_lt (i:=8) h m;grind
def IX(f n:Y)(s:Bg)(T:Ay)(w:Ad)(L:Bk w f T [Bj s])(Q:n<=8)(E:Aim s<=1000000000000):
 Bn prog 106 [.pointer (X ⟨f,0,Aa⟩),U (n:H)] w fun v w'=>v=U (Hy (s.take n))/\Bk w' f T [Bj (s.drop n)]/\Mo w w' [f]:=by
 have h:Aim (s.take n)<=8:=by rw[BY];omega
 have e:nb (s.take n)<18446744073709551616:=Kj (SJ _ _ Z) (FN Bc h);refine Bw func106 Z ntmps106 (by rfl) Z ?_;refine(O 15∘Zc (Rh f n s T w L J E)) ?_;rintro _ C⟨rfl,r,l⟩;generalize N:s.take n=q at h e;refine OW.bytesOf Z Z underlying9 underlying23 underlying5 Z J ?_;rintro A D B m V G S g;refine(O 4)<|Lo (fun((i,z):Y×H)=>(i<=Aim q/\z=IntKind.i64.wrap ((nb (q.take i):Y):H),[(5,U (z:H)),(13,.slice (X ⟨C.heap.size,0,Aa⟩) (Aim q) A),(14,U ((Aim q:Y):H)),(15,U i)],B,Aim q-i)) (0,0) ?_ ?_
 .exact⟨J,by rfl⟩
 .rintro⟨i,z⟩⟨I,j⟩;refine(O 5)<|Zi (fun d=>?_) fun d=>?_
  .have k:nb (q.take i)<72057594037927936:=Kj (SJ i _ Bh) (FN Bc (show i<=7 by omega));have K:=(q[i]).toNat_lt;obtain rfl:z=((nb (q.take i):Y):H):=by rw[j,bD _ J,Ai J]
   have o:(BI q++D)[i]? =X (.int .u8 ((q[i].toNat:Y):H)):=by
    rw[FA (by simpa[BI]using d)];simp[BI,d]
   refine(O 6∘Zv (Bo m (hi:=o))∘O 4∘Zv (by exact pF (s:=8) (p:=256) Z Z Z Bc)∘O 2∘Zv (by exact pD (a:=nb (q.take i)) Z Bl Z J k (yx _ _ J))∘O 7)<|Lb ((i+1),(IntKind.i64.wrap ((nb (q.take i)*256+q[i].toNat:Y):H))) ?_;exact⟨J,by rw[xK q d]⟩
  .obtain rfl:i=Aim q:=J;rw[DY]at j;refine(O 6∘Bu) ?_;refine⟨by rw[j,Afo _ e],r.ext g,l.trans (Mo.Age g _)⟩
end
section
attribute [local irreducible] OW KW QW EX GW NV
open Rec
def QV{w:Ad}{b k:Y}{T:Ay}(h:Bk w b T [.int .u8 (k:H)])(hk:k<=255):Sl w w.heap.size (X ⟨b,0,Aa⟩) (BI [BS k]):=by
 have e:BI [BS k]=[.int .u8 (k:H)]:=by
  have:(BS k).toNat=k:=Bx;simp[BI,this]
 rw[e];exact h.sl
def zQ(n:Y)(d:n<=1000)(w:Ad):Bn prog 138 [Bj [0],U (n:H)] w fun v w'=>v=Bj (BG n 0)/\Bf w w':=by
 have a:(!(f138.name== "runtime.NumGoroutine") && f138.body.isSome)=Af:=Be;have h:=Tryz.strings_Repeat ⟨#[0]⟩ n w J (by show 1*n<=_;omega)
 have e:Go.Lib.repeatL (⟨#[0]⟩:ByteArray).data.toList n=BG n 0:=by
  show Go.Lib.repeatL [0] n=_;clear h d
  induction n with
  |zero=>rfl
  |succ n ih=>rw[HI,<-ih];rfl
 rw[e]at h;exact GY func138 a h
def rR(s:Bg):Fc s<4294967296:=br _ _ _ Bl
def head(kind gen index:Y)(n:Y):Bg:=[75,73,83,84]++[BS kind]++be 8 gen++be 4 index++be 2 n
def uX(d gen a n:Y):Aim (head d gen a n)=19:=by rfl
def UH(d:Y)(hk:d<=255)(gen i:H)(a:Bg)(hd:Aim a<=140737488355328)(w:Ad):
 Bn prog 107 [.int .u8 (d:H),U gen,U i,Bj a] w fun v w'=>v=.tuple #[Bj (EH d gen i a).1,U (((EH d gen i a).2:Y):H)]/\Bf w w':=by
 have B:Cn d gen i a->EH d gen i a=([],200):=fun h=>by unfold EH;grind
 refine Bw func107 Z ntmps107 Be Z ?_;refine(O 11)<|Zd 13 (fun S=>?_) fun S=>?_
 .refine(O 27∘BH) ?_;rw[B (.inl S)];exact⟨Z,Bf.refl _⟩
 .refine(O 4)<|Zd 17 (fun Q=>?_) fun Q=>?_
  .refine(O 23∘BH) ?_;rw[B (.inr (.inl Q))];exact⟨Z,Bf.refl _⟩
  .refine(O 4)<|Zd 21 (fun P=>?_) fun P=>?_
   .refine(O 19∘BH) ?_;rw[B (.inr (.inr (.inl P)))];exact⟨Z,Bf.refl _⟩
   .refine(O 4)<|Zd 25 (fun N=>?_) fun N=>?_
    .refine(O 15∘BH) ?_;rw[B (.inr (.inr (.inr (.inl N))))];exact⟨Z,Bf.refl _⟩
    .refine(O 4)<|Zd 29 (fun L=>?_) fun L=>?_
     .refine(O 11∘BH) ?_;rw[B (.inr (.inr (.inr (.inr (.inl L)))))];exact⟨Z,Bf.refl _⟩
     .refine(O 5)<|Zi (fun K=>?_) fun K=>?_
      .refine(O 5∘BH) ?_;rw[B (.inr (.inr (.inr (.inr (.inr K)))))];exact⟨Z,Bf.refl _⟩
      .refine(O 2) ?_;have e:EH d gen i a=(text d gen.toNat i.toNat a,0):=by unfold EH;rw[Ag];rintro(h|h|h|h|h|h)<;>omega
       rw[e];obtain⟨g,rfl⟩:=Fq (show 0<=gen by omega);obtain⟨o,rfl⟩:=Fq (show 0<=i by omega);have l8:=Eb 8 g;have l4:=Eb 4 o;have l2:=Eb 2 (Aim a);refine Lc (fun(wr:Ad)=>(Bf w wr,[(3,Bj (a)),(10,Bj (head d g o (Aim a)))],wr)) ?_ ?_
       .skip
        refine(Yr 18 (fun w'=>Bf w w') (Bf.drew w)) fun f=>(Gv [0,4,5,8,9,12,13,14])<|Ye 1 6 ?_ ?_
        .refine Js 1 1 Z Z Z underlying23 CD Z Z Z Z Z Bc ?_;rintro t q r A l;refine⟨f.trans l,fun f=>?_⟩;refine Jt (fun w'=>Bf w w'/\Bk w' t 5 [.int .u8 (d:H)]) (fun _ h=>h.1) ?_;replace f:=(⟨f,A⟩:(fun w'=>Bf w w'/\Bk w' t 5 [.int .u8 (d:H)]) q);refine(Yw 2 (he:=by exact fun _ m=>DZ (QV m.2 hk))∘Yw 3 (he:=by exact fun _ _=>JY (s:=[75,73,83,84]) Z Z (by first|omega|(simp only[BA,Cv,EZ,BY,CK,Cm];omega)))∘Yc 6 (HQ g 8 J Bc q)) ?_;rintro _ C⟨rfl,x⟩;refine⟨⟨f.1.trans x,f.2.ext x⟩,fun f=>?_⟩;refine(Gv [7]∘Yc 10 (HQ o 4 J Bc C)) ?_;rintro _ p⟨rfl,k⟩;refine⟨⟨f.1.trans k,f.2.ext k⟩,fun f=>?_⟩;refine(Gv [11]∘Yc 15 (HQ (Aim a) 2 J Bc p)) ?_;rintro _ n⟨rfl,j⟩;refine⟨⟨f.1.trans j,f.2.ext j⟩,fun f=>?_⟩;refine(Gv [16,17]∘Yd∘Lm n) ?_;exact f.1
        .refine(Jc 6 (HQ g 8 J Bc w.drew)) ?_;rintro _ C⟨rfl,x⟩;refine⟨f.trans x,fun f=>?_⟩;refine Ye 1 10 ?_ ?_
         .refine Js 1 1 Z Z Z underlying23 CD Z Z Z Z Z Bc ?_;rintro t q r A l;refine⟨f.trans l,fun f=>?_⟩;refine Jt (fun w'=>Bf w w'/\Bk w' t 5 [.int .u8 (d:H)]) (fun _ h=>h.1) ?_;replace f:=(⟨f,A⟩:(fun w'=>Bf w w'/\Bk w' t 5 [.int .u8 (d:H)]) q);refine(Yw 2 (he:=by exact fun _ m=>DZ (QV m.2 hk))∘Yw 3 (he:=by exact fun _ _=>JY (s:=[75,73,83,84]) Z Z (by first|omega|(simp only[BA,Cv,EZ,BY,CK,Cm];omega)))∘Gv [7]∘Yc 10 (HQ o 4 J Bc q)) ?_;rintro _ p⟨rfl,k⟩;refine⟨⟨f.1.trans k,f.2.ext k⟩,fun f=>?_⟩;refine(Gv [11]∘Yc 15 (HQ (Aim a) 2 J Bc p)) ?_;rintro _ n⟨rfl,j⟩;refine⟨⟨f.1.trans j,f.2.ext j⟩,fun f=>?_⟩;refine(Gv [16,17]∘Yd∘Lm n) ?_;exact f.1
         .refine(Jc 10 (HQ o 4 J Bc C)) ?_;rintro _ p⟨rfl,k⟩;refine⟨f.trans k,fun f=>?_⟩;refine Ye 1 15 ?_ ?_
          .refine Js 1 1 Z Z Z underlying23 CD Z Z Z Z Z Bc ?_;rintro t q r A l;refine⟨f.trans l,fun f=>?_⟩;refine Jt (fun w'=>Bf w w'/\Bk w' t 5 [.int .u8 (d:H)]) (fun _ h=>h.1) ?_;replace f:=(⟨f,A⟩:(fun w'=>Bf w w'/\Bk w' t 5 [.int .u8 (d:H)]) q);refine(Yw 2 (he:=by exact fun _ m=>DZ (QV m.2 hk))∘Yw 3 (he:=by exact fun _ _=>JY (s:=[75,73,83,84]) Z Z (by first|omega|(simp only[BA,Cv,EZ,BY,CK,Cm];omega)))∘Gv [7,11]∘Yc 15 (HQ (Aim a) 2 J Bc q)) ?_;rintro _ n⟨rfl,j⟩;refine⟨⟨f.1.trans j,f.2.ext j⟩,fun f=>?_⟩;refine(Gv [16,17]∘Yd∘Lm n) ?_;exact f.1
          .refine(Jc 15 (HQ (Aim a) 2 J Bc p)) ?_;rintro _ n⟨rfl,j⟩;refine⟨f.trans j,fun f=>?_⟩;refine PW 1 1 Z Be Z Z underlying23 CD Z Z Z Z Z Bc ?_;rintro t q r A l;refine⟨f.trans l,fun f=>?_⟩;refine Jt (fun w'=>Bf w w'/\Bk w' t 5 [.int .u8 (d:H)]) (fun _ h=>h.1) ?_;replace f:=(⟨f,A⟩:(fun w'=>Bf w w'/\Bk w' t 5 [.int .u8 (d:H)]) q);refine(Yw 2 (he:=by exact fun _ m=>DZ (QV m.2 hk))∘Yw 3 (he:=by exact fun _ _=>JY (s:=[75,73,83,84]) Z Z (by first|omega|(simp only[BA,Cv,EZ,BY,CK,Cm];omega)))∘Gv [7,11,16,17]∘Yd∘Lm q) ?_;exact f.1
       .rintro wr D;have hh:=uX d g o (Aim a);refine(O 7∘Zc (zQ (489-Aim a) J wr)) ?_;rintro _ V⟨rfl,I⟩;refine(O 8) ?_;have y:head d g o (Aim a)++(a++BG (489-Aim a) 0)=body d g o a:=rfl;rw[y];have ab:=dW d g o a J;have W:=rR (body d g o a);have lc:=Eb 4 (Fc (body d g o a));refine(Zc (YR (body d g o a) J V)) ?_;rintro _ T⟨rfl,G⟩;refine(O 1∘Zc (HQ (Fc (body d g o a)) 4 J Bc T)) ?_;rintro _ w4⟨rfl,E⟩;refine(O 4∘BH) ?_;exact⟨Z,((D.trans I).trans G).trans E⟩
def _root_.Go.Proofs.YtkmlafmjaeeanaaGreatDoor.Rec.R.cells(x:R):Bm:=[.int .u8 (x.kind:H),U x.gen,U x.index,Bj x.data]
def Vd(s:Bg)(h:Aim s<=4):Hy s=(nb s:H):=by
 have a:nb s<256 ^ 4:=Kj (SJ _ s Z) (FN Bl h);unfold Hy;omega
def fL{s:Bg}(h:¬(Aim s=512/\nb ((s.drop 17).take 2)<=486/\EH (DE s).kind (DE s).gen (DE s).index (DE s).data=(s,0))):CB s=(R0,200):=by
 unfold CB;grind
def tj{s:Bg}(h:Aim s=512/\nb ((s.drop 17).take 2)<=486/\EH (DE s).kind (DE s).gen (DE s).index (DE s).data=(s,0)):CB s=(DE s,0):=by
 unfold CB;grind
def tQ{k:Y}{g i:H}{d s:Bg}(h:EH k g i d=(s,0)):s.take 4=[75,73,83,84]:=by
 unfold EH at h;split at h
 .grind
 .simp only[Qq.injEq,and_true]at h;rw[<-h];rfl
def fO(s:Bg)(w:Ad):
 Bn prog 77 [Bj s] w fun v w'=>v=.tuple #[.agg (CB s).1.cells.toArray,U (((CB s).2:Y):H)]/\Bf w w':=by
 refine Bw func77 Z ntmps77 Be Z ?_;refine(O 2∘Zn) ?_;rintro cb w1 b0 bb aj;refine(O 9)<|Zi (fun a1=>?_) fun a1=>?_
 .have e:=fL (s:=s) (fun h=>a1 J);refine(O 3∘Zs bb) ?_;rintro w2 bq bh;refine(O 2∘Du bq) ?_;rw[e];exact⟨Z,Bv aj bh aj.size (fun k p=>by simp at p;omega)⟩
 .have hl:Aim s=512:=J;refine(O 5∘Zv (by exact Od (pl:=[(0,1)]) (ks:=[0]) (zs:=[Bj []]) underlying194 aZ Be Z Z Z)) ?_;refine DB Z Z Z ?_;rintro T w3 bx a7 a6;refine(O 7) ?_;have ba:=bb.ext a6;have x3:=aj.trans a6;have b3:w.heap.size<=T:=by have:=aj.size;omega
  refine(Zc (Rh T 4 s _ w3 a7 J J)) ?_;rintro _ w4⟨rfl,N,a8⟩;refine(O 3) ?_;have a:=ba.mo a8 (by simp;exact ba.ne a7 Bc);have x4:Bf w w4:=Bv x3 a8 x3.size (fun k p=>by simp at p;omega);have k4:((s.drop 4).take 1)[0]? =X (s.getD 4 0):=by simp[TL,TK,hl]
  have d5:(s.drop 4).drop 1=s.drop 5:=by rw[Ge]
  have a5:(s.drop 5).drop 8=s.drop 13:=by rw[Ge]
  have a0:(s.drop 13).drop 4=s.drop 17:=by rw[Ge]
  have bs:(s.drop 17).drop 2=s.drop 19:=by rw[Ge]
  have ln:∀j,Aim (s.drop j)<=1000000000000:=fun j=>by grind
  refine Lc (fun((K,wr):Y×Ad)=>(Bf w wr/\w.heap.size<=K/\Bk wr T 194 [Bj (s.drop 17)]/\Bk wr cb 144 R0.cells/\Bk wr K 144 [.int .u8 (((s.getD 4 0).toNat:Y):H),U (Hy ((s.drop 5).take 8)),U (Hy ((s.drop 13).take 4)),Bj []]/\K≠cb,[(0,Bj (s)),(2,.pointer (X ⟨cb,0,Aa⟩)),(4,.pointer (X ⟨T,0,Aa⟩)),(5,Bj ((s.take 4))),(6,.pointer (X ⟨K,0,Aa⟩))],wr)) ?_ ?_
  .skip
   refine(Yr 12 (fun w'=>Bf w w') (x4.trans (Bf.drew w4))) fun f=>?_;have N:=N.ext (Bf.drew _);have a:=a.ext (Bf.drew _);refine(Gv [0,1,2,5,7])<|Ye 3 10 ?_ ?_
   .refine(Jc 3 (Rh T 1 (s.drop 4) _ w4.drew N J (ln 4))) ?_;rintro _ w3⟨rfl,C,af⟩;have a:=a.mo af (by simp;exact a.ne N Bc);refine⟨Bv f af f.size (fun k p=>by simp at p;omega),fun f=>?_⟩;rw[d5]at C;refine(Yw 4 (he:=by exact fun _ _=>EW (i:=0) underlying9 Z Z k4))<|Ye 6 10 ?_ ?_
    .refine(Jc 6 (IX T 8 (s.drop 5) _ w3 C J (ln 5))) ?_;rintro _ w6⟨rfl,o,A⟩;have a:=a.mo A (by simp;exact a.ne C Bc);refine⟨Bv f A f.size (fun k p=>by simp at p;omega),fun f=>?_⟩;rw[a5]at o;refine Ye 8 10 ?_ ?_
     .refine(Jc 8 (IX T 4 (s.drop 13) _ w6 o J (ln 13))) ?_;rintro _ w8⟨rfl,m,x⟩;have a:=a.mo x (by simp;exact a.ne o Bc);refine⟨Bv f x f.size (fun k p=>by simp at p;omega),fun f=>?_⟩;rw[a0]at m;refine(Gv [9]∘Yn 10) ?_;rintro K L W d g;have B:K≠cb:=fun q=>(by have:=a.lt;omega);have D:w.heap.size<=K:=(by have:=f.size;omega);refine⟨f.trans g,fun f=>?_⟩;have a:=a.ext g;have m:=m.ext g;refine(Ys 11 d) ?_;rintro S G l;refine⟨Bv f l f.size (fun k p=>by simp at p;omega),fun f=>?_⟩;have a:=a.mo l (by simp;exact Ne.symm B);have E:=m.mo l (by simp;exact m.ne d Bc);refine(Yd∘Lm (K,S)) ?_;exact⟨f,D,E,a,G,B⟩
     .refine(Jn 10) ?_;rintro K L W d g;have B:K≠cb:=fun q=>(by have:=a.lt;omega);have D:w.heap.size<=K:=(by have:=f.size;omega);refine⟨f.trans g,fun f=>?_⟩;have a:=a.ext g;have o:=o.ext g;refine(Yc 8 (IX T 4 (s.drop 13) _ L o J (ln 13))) ?_;rintro _ w8⟨rfl,m,x⟩;have a:=a.mo x (by simp;exact a.ne o Bc);have d:=d.mo x (by simp;exact d.ne o Bc);refine⟨Bv f x f.size (fun k p=>by simp at p;omega),fun f=>?_⟩;rw[a0]at m;refine(Gv [9]∘Ys 11 d) ?_;rintro S G l;refine⟨Bv f l f.size (fun k p=>by simp at p;omega),fun f=>?_⟩;have a:=a.mo l (by simp;exact Ne.symm B);have E:=m.mo l (by simp;exact m.ne d Bc);refine(Yd∘Lm (K,S)) ?_;exact⟨f,D,E,a,G,B⟩
    .refine(Jn 10) ?_;rintro K L W d g;have B:K≠cb:=fun q=>(by have:=a.lt;omega);have D:w.heap.size<=K:=(by have:=f.size;omega);refine⟨f.trans g,fun f=>?_⟩;have a:=a.ext g;have C:=C.ext g;refine(Yc 6 (IX T 8 (s.drop 5) _ L C J (ln 5))) ?_;rintro _ w6⟨rfl,o,A⟩;have a:=a.mo A (by simp;exact a.ne C Bc);have d:=d.mo A (by simp;exact d.ne C Bc);refine⟨Bv f A f.size (fun k p=>by simp at p;omega),fun f=>?_⟩;rw[a5]at o;refine(Yc 8 (IX T 4 (s.drop 13) _ w6 o J (ln 13))) ?_;rintro _ w8⟨rfl,m,x⟩;have a:=a.mo x (by simp;exact a.ne o Bc);have d:=d.mo x (by simp;exact d.ne o Bc);refine⟨Bv f x f.size (fun k p=>by simp at p;omega),fun f=>?_⟩;rw[a0]at m;refine(Gv [9]∘Ys 11 d) ?_;rintro S G l;refine⟨Bv f l f.size (fun k p=>by simp at p;omega),fun f=>?_⟩;have a:=a.mo l (by simp;exact Ne.symm B);have E:=m.mo l (by simp;exact m.ne d Bc);refine(Yd∘Lm (K,S)) ?_;exact⟨f,D,E,a,G,B⟩
   .refine(Jn 10) ?_;rintro K L W d g;have B:K≠cb:=fun q=>(by have:=a.lt;omega);have D:w.heap.size<=K:=(by have:=f.size;omega);refine⟨f.trans g,fun f=>?_⟩;have a:=a.ext g;have N:=N.ext g;refine(Yc 3 (Rh T 1 (s.drop 4) _ L N J (ln 4))) ?_;rintro _ w3⟨rfl,C,af⟩;have a:=a.mo af (by simp;exact a.ne N Bc);have d:=d.mo af (by simp;exact d.ne N Bc);refine⟨Bv f af f.size (fun k p=>by simp at p;omega),fun f=>?_⟩;rw[d5]at C;refine(Yw 4 (he:=by exact fun _ _=>EW (i:=0) underlying9 Z Z k4)∘Yc 6 (IX T 8 (s.drop 5) _ w3 C J (ln 5))) ?_;rintro _ w6⟨rfl,o,A⟩;have a:=a.mo A (by simp;exact a.ne C Bc);have d:=d.mo A (by simp;exact d.ne C Bc);refine⟨Bv f A f.size (fun k p=>by simp at p;omega),fun f=>?_⟩;rw[a5]at o;refine(Yc 8 (IX T 4 (s.drop 13) _ w6 o J (ln 13))) ?_;rintro _ w8⟨rfl,m,x⟩;have a:=a.mo x (by simp;exact a.ne o Bc);have d:=d.mo x (by simp;exact d.ne o Bc);refine⟨Bv f x f.size (fun k p=>by simp at p;omega),fun f=>?_⟩;rw[a0]at m;refine(Gv [9]∘Ys 11 d) ?_;rintro S G l;refine⟨Bv f l f.size (fun k p=>by simp at p;omega),fun f=>?_⟩;have a:=a.mo l (by simp;exact Ne.symm B);have E:=m.mo l (by simp;exact m.ne d Bc);refine(Yd∘Lm (K,S)) ?_;exact⟨f,D,E,a,G,B⟩
  .rintro⟨K,wr⟩⟨x5,D,a3,a9,bc,B⟩;have bf:Hy ((s.drop 17).take 2)=((nb ((s.drop 17).take 2):Y):H):=Vd _ (by rw[BY];omega);have bi:=ln 19;refine(O 3∘Zc (IX T 2 (s.drop 17) _ wr a3 J (ln 17))) ?_;rintro _ w6⟨rfl,al,A⟩;refine(O 4) ?_;rw[bs]at al;rw[bf];have ao:=a9.mo A (by simp;exact a9.ne a3 Bc);have o:=bc.mo A (by simp;exact bc.ne a3 Bc);have x6:Bf w w6:=Bv x5 A x5.size (fun k p=>by simp at p;omega);generalize hn:nb ((s.drop 17).take 2)=n
   have y:¬(Aim s=512/\n<=486/\EH (DE s).kind (DE s).gen (DE s).index (DE s).data=(s,0))->∀w7,Bk w7 cb 144 R0.cells->Bf w w7->(Value.tuple #[.agg R0.cells.toArray,U ((200:Y):H)]=Value.tuple #[.agg (CB s).1.cells.toArray,U (((CB s).2:Y):H)]/\Bf w w7):=fun h w7 _ hx=>by
    rw[fL Bh];grind
   have P:∀w7 w8,Bf w w7->Mo w7 w8 [cb]->Bf w w8:=fun w7 w8 h1 h2=>Bv h1 h2 h1.size (fun k p=>by simp at p;omega);refine(O 2∘Zv (by exact Nc (r:=[75,73,83,84]) Z Z)∘O 1)<|Zd 36 (fun b1=>?_) fun b1=>?_
   .refine(O 8∘Zs ao) ?_;rintro w7 ab V;refine(O 2∘Du ab) ?_;exact y (fun h=>b1 (tQ h.2.2)) _ ab (P _ _ x6 V)
   .refine(O 4)<|Zi (fun b2=>?_) fun b2=>?_
    .refine(O 3∘Zs ao) ?_;rintro w7 ab V;refine(O 2∘Du ab) ?_;exact y (fun h=>by omega) _ ab (P _ _ x6 V)
    .refine(O 7∘Zc (Rh T n (s.drop 19) _ w6 al J (ln 19))) ?_;rintro _ w7⟨rfl,b4,V⟩;refine(O 1) ?_;have bm:=ao.mo V (by simp;exact ao.ne al Bc);have ab:=o.mo V (by simp;exact o.ne al Bc);have x7:Bf w w7:=Bv x6 V x6.size (fun k p=>by simp at p;omega);refine(Zt ab) ?_;rintro w8 m x;refine(O 5) ?_;have bl:=bm.mo x (by simp;exact Ne.symm B);have x8:Bf w w8:=Bv x7 x x7.size (fun k p=>by simp at p;omega);have ai:DE s=⟨(s.getD 4 0).toNat,Hy ((s.drop 5).take 8),Hy ((s.drop 13).take 4),(s.drop 19).take n⟩:=by unfold DE;rw[hn]
     replace m:Bk w8 K 144 (DE s).cells:=by rw[ai];exact m
     refine(O 7) ?_;have p:(DE s).kind<=255:=by rw[ai];have:=(s.getD 4 0).toNat_lt;show(s.getD 4 0).toNat<=255;omega
     have bj:(DE s).data.length<=140737488355328:=by rw[ai];show Aim ((s.drop 19).take n)<=_;rw[BY];omega
     refine(Zc (UH (DE s).kind p (DE s).gen (DE s).index (DE s).data bj w8)) ?_;rintro _ w9⟨rfl,a2⟩;refine(O 7) ?_;have a4:=bl.ext a2;have bn:=m.ext a2;have x9:=x8.trans a2;rcases he:EH (DE s).kind (DE s).gen (DE s).index (DE s).data with⟨t,e⟩;rw[he]at y;refine(O 4)<|Zd 61 (fun g1=>?_) fun g1=>?_
     .refine(O 9∘Zs a4) ?_;rintro L I Q;refine(O 2∘Du I) ?_;exact y (fun h=>by grind) _ I (P _ _ x9 Q)
     .refine(O 5)<|Zi (fun g2=>?_) fun g2=>?_
      .refine(O 3∘Zs a4) ?_;rintro L I Q;refine(O 2∘Du I) ?_;exact y (fun h=>by grind) _ I (P _ _ x9 Q)
      .refine(O 3∘Zv (Cf bn)∘Zs a4 (hlt:=Bq _)) ?_;rintro L I Q;refine(O 2∘Du I) ?_;rw[tj ⟨hl,J,Bh⟩];exact⟨Z,P _ _ x9 Q⟩
end

namespace Rec
open Go.Proofs.YtkmlafmjaeeanaaGreatDoor Pth
section
variable(k g i:Y)(d:Bg)
def tl(k g i:Y)(d:Bg):Bg:=BG (489-Aim d) 0++be 4 (Fc (body k g i d))
def Aee:text k g i d=[75,73,83,84]++([BS k]++(be 8 g++(be 4 i++(be 2 (Aim d)++(d++tl k g i d))))):=by
 unfold text tl;rw[show body k g i d=[75,73,83,84]++[BS k]++be 8 g++be 4 i++be 2 (Aim d)++(d++BG (489-Aim d) 0)from Z];simp
def nW:(text k g i d).drop 5=be 8 g++(be 4 i++(be 2 (Aim d)++(d++tl k g i d))):=by rw[Aee];rfl
def ND{a b:Bg}{s:Bg}{n m j:Y}(h:s.drop n=a++b)(f:Aim a=m)(e:n+m=j):s.drop j=b:=by
 rw[<-e,<-Ge,h,RN f]
def nT:(text k g i d).drop 13=be 4 i++(be 2 (Aim d)++(d++tl k g i d)):=ND (nW k g i d) (Eb 8 g) Z
def nU:(text k g i d).drop 17=be 2 (Aim d)++(d++tl k g i d):=ND (nT k g i d) (Eb 4 i) Z
def Aed:(text k g i d).drop 19=d++tl k g i d:=ND (nU k g i d) (Eb 2 _) Z
def Aef:(text k g i d).getD 4 0=BS k:=by rfl
end
def kS{w n:Y}(h:n<256 ^ w)(h2:n<9223372036854775808):Hy (be w n)=n:=by
 unfold Hy;rw[Pn w n h,Ai h2]
def kN{k:Y}{g i:H}{d:Bg}(h:¬Cn k g i d):k≠0/\0<=g/\g<=4611686018427387904/\0<=i/\i<=2147483647/\Aim d<=486:=by
 unfold Cn at h;omega
def sR{k:Y}{g i:H}{d:Bg}(hk:k<=255)(h:¬Cn k g i d):DE (text k g.toNat i.toNat d)=⟨k,g,i,d⟩/\nb (((text k g.toNat i.toNat d).drop 17).take 2)=Aim d:=by
 obtain⟨_,p,o,n,m,l⟩:=kN h;have j:((text k g.toNat i.toNat d).getD 4 0).toNat=k:=by rw[Aef];simp;omega
 have f:Hy (((text k g.toNat i.toNat d).drop 5).take 8)=g:=by
  rw[nW,Hp (Eb _ _),kS (by simp only[Lh];omega) J];omega
 have e:Hy (((text k g.toNat i.toNat d).drop 13).take 4)=i:=by
  rw[nT,Hp (Eb _ _),kS (by simp only[Lh];omega) J];omega
 have a:nb (((text k g.toNat i.toNat d).drop 17).take 2)=Aim d:=by
  rw[nU,Hp (Eb _ _),Pn _ _ (by simp only[Lh];omega)]
 refine⟨?_,a⟩;unfold DE;rw[j,f,e,a,Aed,Hp Z]
def NB{k:Y}{g i:H}{d t:Bg}(hk:k<=255)(h:EH k g i d=(t,0)):CB t=(⟨k,g,i,d⟩,0):=by
 unfold EH at h;split at h
 .grind
 .rename_i a;simp only[Qq.injEq,and_true]at h;subst h;obtain⟨j,f⟩:=sR hk a;have e:=(kN a).2.2.2.2.2;unfold CB;rw[j,f,Ai];refine⟨VM _ _ _ _ e,e,?_⟩;unfold EH;grind
structure M where
 path:Bg
 start:H
 sectors:H
 size:H
 sum:Y
 deriving DecidableEq
def Dq(m:M):Prop:=Cy m.path=0/\30<=m.start/\1<=m.sectors/\m.sectors<=4096/\m.start+m.sectors<=4096/\0<=m.size/\m.size<=8192
instance(m:M):Decidable (Dq m):=by unfold Dq;infer_instance
def Mn(m:M):Y:=if Dq m then 0 else 200
def Et(m:M):Bg:=be 1 (Aim m.path)++m.path++be 2 m.start.toNat++be 2 m.sectors.toNat++be 2 m.size.toNat++be 4 m.sum
def NI(m:M):Bg×Y:=if Dq m then(Et m,0)else([],200)
def JO{m:M}(h:Dq m):Aim m.path<=120/\m.path≠[]:=by
 have a:=h.1;unfold Cy at a;split at a
 .rename_i e;unfold GF at e;grind
 .omega
def re(n:Y)(h:n<=255):be 1 n=[BS n]:=by
 simp only[be,Ev];grind
end Rec
section
attribute [local irreducible] OW KW QW EX GW NV
open Rec Pth
def _root_.Go.Proofs.YtkmlafmjaeeanaaGreatDoor.Rec.M.cells(m:M):Bm:=[Bj m.path,U m.start,U m.sectors,U m.size,.int .u32 (m.sum:H)]
structure _root_.Go.Proofs.YtkmlafmjaeeanaaGreatDoor.Rec.M.Ok(m:M):Prop where
 path:Aim m.path<=1000000000000
 sum:m.sum<=4294967295
def Mq{m:M}(h:¬Dq m):Mn m=200:=by unfold Mn;grind
def Xu{m:M}(h:Dq m):Mn m=0:=by unfold Mn;grind
def Sh(s:Bg):Cy s=0∨Cy s=140:=by unfold Cy;grind
def Xs(m:M)(hm:m.Ok)(w:Ad):Bn prog 81 [.agg m.cells.toArray] w fun v w'=>v=U ((Mn m:Y):H)/\Bf w w':=by
 have G:=Sh m.path;refine Bw func81 Z ntmps81 (by rfl) Z ?_;refine(O 2) ?_;refine DB Z Z Z ?_;rintro q o p e d;refine(O 4) ?_;replace e:Bk o q 60 m.cells:=e;refine(O 3∘Zc (OM m.path hm.path o)) ?_;rintro _ E⟨rfl,a⟩;refine(O 2) ?_;have r:=e.ext a;refine Zd 7 (fun D=>?_) fun D=>?_
 .refine(O 38∘Bu) ?_;rw[Mq (fun h=>by obtain⟨n,l,k,j,i,g,f⟩:=h;omega)];exact⟨Z,d.trans a⟩
 .refine(O 5)<|Zd 12 (fun C=>?_) fun C=>?_
  .refine(O 33∘Bu) ?_;rw[Mq (fun h=>by obtain⟨n,l,k,j,i,g,f⟩:=h;omega)];exact⟨Z,d.trans a⟩
  .refine(O 5)<|Zd 17 (fun B=>?_) fun B=>?_
   .refine(O 28∘Bu) ?_;rw[Mq (fun h=>by obtain⟨n,l,k,j,i,g,f⟩:=h;omega)];exact⟨Z,d.trans a⟩
   .refine(O 5)<|Zd 22 (fun A=>?_) fun A=>?_
    .refine(O 23∘Bu) ?_;rw[Mq (fun h=>by obtain⟨n,l,k,j,i,g,f⟩:=h;omega)];exact⟨Z,d.trans a⟩
    .refine(O 8)<|Zd 30 (fun y=>?_) fun y=>?_
     .refine(O 15∘Bu) ?_;rw[Mq (fun h=>by obtain⟨n,l,k,j,i,g,f⟩:=h;omega)];exact⟨Z,d.trans a⟩
     .refine(O 5)<|Zd 35 (fun x=>?_) fun x=>?_
      .refine(O 10∘Bu) ?_;rw[Mq (fun h=>by obtain⟨n,l,k,j,i,g,f⟩:=h;omega)];exact⟨Z,d.trans a⟩
      .refine(O 5)<|Zi (fun t=>?_) fun t=>?_
       .refine(O 4∘Bu) ?_;rw[Mq (fun h=>by obtain⟨n,l,k,j,i,g,f⟩:=h;omega)];exact⟨Z,d.trans a⟩
       .refine(O 5∘Bu) ?_;rw[Xu ⟨J,J,J,J,J,J,J⟩];exact⟨Z,d.trans a⟩
end
section
attribute [local irreducible] OW KW QW EX GW NV
open Fld Ust Pax Pth Tar
def zO(n:Y):Go.Lib.repeatL [0] n=Cx n:=by
 unfold Cx
 induction n with
 |zero=>rfl
 |succ n ih=>simp_all[Go.Lib.repeatL,HI]
def zP(n:Y)(d:n<=140737488355328)(w:Ad):Bn prog 138 [Bj [0],U (n:H)] w fun v w'=>v=Bj (Cx n)/\Bf w w':=by
 have h:=Tryz.strings_Repeat ⟨#[0]⟩ n w J (by show 1*n<=_;omega);refine(GY func138 (by rfl) (h.mono fun e w' q=>⟨q.1,q.2⟩)).mono ?_;rintro v w'⟨rfl,a⟩;exact⟨by rw[show(⟨#[0]⟩:ByteArray).data.toList=[0]from Z,zO],a⟩
def mU(s:Bg)(f:Aim s<=1000000000)(w:Ad):Bn prog 101 [Bj s] w fun v w'=>v=Bj (Io s)/\Bf w w':=by
 refine Bw func101 Z ntmps101 (by rfl) Z ?_;refine(O 17) ?_;have d:Aim (Cx ((512-Aim s%512)%512))=(512-Aim s%512)%512:=Cm;refine(Zc (zP ((512-Aim s%512)%512) J w)) ?_;rintro _ e⟨rfl,a⟩;refine(O 3∘Bu) ?_;refine⟨?_,a⟩;unfold Io;rw[show Gj (Aim s)-Aim s=(512-Aim s%512)%512 by unfold Gj;omega]
def nf(x:En)(m:Aim x.path<=1000000000000)(y:Aim x.data<=140737488355328)(w:Ad)(A:Env w):
 Bn prog 72 [Bj x.path,Bj x.data] w fun v w'=>v=.tuple #[Bj (NH x).1,U (((NH x).2:Y):H)]/\Bf w w':=by
 obtain⟨p,d⟩:=x;simp only at m y;show Bn _ _ [Bj p,Bj d] _ _;refine Bw func72 Z ntmps72 Be Z ?_;refine(O 12)<|Zi (fun S=>?_) fun S=>?_
 .refine(O 5∘Zc (gj ⟨p,[]⟩ m Bl w A)) ?_;rintro _ i⟨rfl,a⟩;refine(O 11) ?_
  have q:(JL ⟨p,[]⟩).2=Cy p:=by
   have:=Sh p;unfold JL;split
   .grind
   .grind
  have o:NH ⟨p,d⟩=if Cy p≠0 then([],140)else([],3):=by
   unfold NH;split
   .rfl
   .rfl
  rw[q,o];have B:=Sh p;refine Zi (fun t=>?_) fun t=>?_
  .rw[Ai (show Cy p≠0 by omega)];refine(O 6∘BH) ?_;grind
  .rw[Ag (show ¬Cy p≠0 by omega)];refine(O 6∘BH) ?_;exact⟨Z,a⟩
 .have q:JL ⟨p,d⟩=if Cy p≠0 then([],140)else(JM ⟨p,d⟩,0):=by
   unfold JL;split
   .rfl
   .grind
  have o:NH ⟨p,d⟩=if Cy p≠0 then([],140)else(Cj ⟨p,d⟩,0):=by
   unfold NH;split
   .rfl
   .rfl
  have e:=gj ⟨p,d⟩ m y w A;rw[q]at e;rw[o];refine(O 6) ?_;by_cases g:Cy p≠0
  .rw[Ai g]at e;rw[Ai g];refine(Zc e) ?_;rintro _ i⟨rfl,a⟩;refine(O 12∘If 31∘O 7∘BH) ?_;exact⟨Z,a⟩
  .rw[Ag g]at e;rw[Ag g];simp only at e;have P:Fits ⟨p,d⟩:=⟨Bh,Bh⟩;have G:=YN P;have f:=tT ⟨p,d⟩;have E:=ZO (s:=d) J;have Q:Cj ⟨p,d⟩=Lv ⟨p,d⟩++Io (Bz.packS d (CY d)):=rfl;have N:=UK d;have K:=UK (Bz.packS d (CY d));have n:Aim (JM ⟨p,d⟩)=Aim (Lv ⟨p,d⟩)+Aim (Io d):=by rw[f,BA]
   have V:Aim (Lv ⟨p,d⟩)<=1536:=by split at G<;>omega
   have L:=SA (Aim d);have I:=SA (Aim (Bz.packS d (CY d)))
   have D:(JM ⟨p,d⟩).take (Aim (JM ⟨p,d⟩)-Aim (Io d))=Lv ⟨p,d⟩:=by
    rw[n,RW,f];exact Hp Z
   refine(Zc e) ?_;rintro _ i⟨rfl,a⟩;refine(O 12∘Cd 31∘O 5∘Zc (yH d J i)) ?_;rintro _ r⟨rfl,l⟩;refine(O 12∘Cd 39∘O 3∘Yr 13 (fun w'=>Bf w w') ((a.trans l).trans (Bf.drew r))) fun h=>(Gv [0,1,2,3,8]∘Yc 4 (mU d J r.drew)) ?_;rintro _ C⟨rfl,k⟩;refine⟨h.trans k,fun h=>?_⟩;refine(Gv [5,6]∘Yw 7 (he:=by exact fun _ _=>Ka underlying9 Z Z J)∘Yc 9 (mU (Bz.packS d (CY d)) J C)) ?_;rintro _ T⟨rfl,j⟩;refine⟨h.trans j,fun h=>?_⟩;refine(Gv [10,11,12]∘Yd∘BH) ?_;grind
def nj(s:Bg)(k:Y)(hk:k<=255)(hs:Aim s<=140737488355328)(w:Ad):Bn prog 90 [Bj s,.int .u8 (k:H)] w fun v w'=>v=.tuple #[.agg (Lw s k).1.cells.toArray,.bool (Lw s k).2]/\Bf w w':=by
 refine Bw func90 Z ntmps90 Be Z ?_;refine(O 2∘Zn) ?_;rintro W N D m a;refine(O 9)<|Zi (fun A=>?_) fun A=>?_
 .have e:Lw s k=(IT,Aj):=Ai A;rw[e];refine(O 3∘Zs m (hlt:=Bq _)) ?_;rintro L t x;refine(O 2∘Du t) ?_;exact⟨Z,Bv a x a.size Bx⟩
 .have e:Lw s k=((He (s.take 512)).1,decide ((He (s.take 512)).2=0) && decide ((He (s.take 512)).1.kind=k)):=Ag A;rw[e];refine(O 4∘Zv (by exact Ka (j:=512) underlying9 Z Z J)∘Zc (Aet (s.take 512) Bh N)) ?_;rintro _ L⟨rfl,i⟩;refine(O 3) ?_;generalize(He (s.take 512)).1=h;generalize(He (s.take 512)).2=e;refine(Zn) ?_;rintro G V C y g;refine(Zs y (hlt:=Bq _)) ?_;rintro q o n;refine(O 3) ?_;replace o:Bk q G 167 h.cells:=o;have T:=a.size;have S:=i.size;have Q:=g.size;have P:=n.size;have lt:=m.lt;have I:Bf w q:=Bv ((a.trans i).trans g) n ((a.trans i).trans g).size Bx;have f:Bf w q.drew:=I.trans (Bf.drew q);have p:=(((m.ext i).ext g).mo n Bx).drew;refine(Yr 11 (fun w'=>Bk w' G 167 h.cells) o.drew) fun r=>(Yw 0 (he:=by exact fun _ B=>Cf B)∘Gv [1,2,3]) ?_;refine Kc 21 Z (fun E=>?_) (fun E=>?_)
  .refine(Gv [4,5,6,7,8]∘Ys 9 p (hlt:=Bq _)) ?_;rintro K l d;refine⟨r.mo d Bx,fun r=>?_⟩;refine(Gv [10]∘Yd∘Du l) ?_;refine⟨?_,Bv f d f.size Bx⟩;rw[AM (show e=0 by omega),IE];rfl
  .refine(Gv [4,5,6,7,8]∘Ys 9 p (hlt:=Bq _)) ?_;rintro K l d;refine⟨r.mo d Bx,fun r=>?_⟩;refine(Gv [10]∘Yd∘Du l) ?_;refine⟨?_,Bv f d f.size Bx⟩;rw[AN (show ¬e=0 by omega),Bool.false_and];rfl
end
namespace Pth
open Go.Lib
def aJ:∀(k:Y) (s:Bg),count s [47]=k->splitK [47] 0 k s=BO s
 |0,s,hk=>by
  have hn:∀c∈s,c≠47:=by
   intro c q e;subst e;have l:=index_one s 47;rcases Int.lt_or_le (index s [47]) 0 with h|h
   .have:=index_ge s [47];have g:indexByte s 47=-1:=by rw[<-l];omega
    obtain⟨j,f⟩:=List.getElem?_of_mem q;exact indexByte_none g j f
   .obtain⟨i,n⟩:=Fq h;have:=count_hit (s:=s) (sub:=[47]) Bl n;omega
  rw[splitK,ZS s hn]
 |k+1,s,hk=>by
  have m:¬index s [47]=-1:=fun h=>by rw[count_miss h]at hk;omega
  have v:=index_ge s [47];obtain⟨i,l⟩:=Fq (show 0<=index s [47] by omega);have q:=count_hit (s:=s) (sub:=[47]) Bl l;have w:indexByte s 47=i:=by rw[<-index_one];exact l
  obtain⟨g,x⟩:=indexByte_some w;have a:i<Aim s:=(HF.1 g).1
  have t:s=s.take i++47::s.drop (i+1):=by
   have e:=Ho i s;rw[Ds a]at e
   have y:s[i]=47:=by
    have:=BN a;rw[this]at g;exact Ns.inj g
   rw[y]at e;exact e.symm
  have hn:∀c∈s.take i,c≠47:=by
   intro c o e;subst e;obtain⟨j,f⟩:=List.getElem?_of_mem o
   have d:j<i:=by
    have:=(HF.1 f).1;rw[BY]at this;omega
   rw[List.getElem?_take_of_lt d]at f;exact x j d f
  have p:¬(index s [47]==-1)=Af:=fun e=>m (beq_iff_eq.1 e);rw[splitK,Ag p,show(index s [47]).toNat=i by omega,Jv];have r:=aJ k (s.drop (i+1)) Bh;rw[show i+Aim [(47:AH)]=i+1 from Z,r]
  conv=>rhs;rw[t]
  rw[ZR _ _ hn]
def DD:Cl->Cl->H
 |[],[]=>0
 |[],_::_=>-1
 |_::_,[]=>1
 |x::xs,y::ys=>if x=y then DD xs ys else compareBytes x y
def FX(a b:Bg):H:=DD (BO a) (BO b)
def Xq:∀x y:Bg,compareBytes x y=0↔x=y
 |[],[]=>by simp[compareBytes]
 |[],_::_=>by simp[compareBytes]
 |_::_,[]=>by simp[compareBytes]
 |a::x,b::y=>by
  have ih:=Xq x y;unfold compareBytes;grind
def eC:∀x y:Bg,compareBytes x y=-1∨compareBytes x y=0∨compareBytes x y=1
 |[],[]=>by simp[compareBytes]
 |[],_::_=>by simp[compareBytes]
 |_::_,[]=>by simp[compareBytes]
 |a::x,b::y=>by
  unfold compareBytes;split
  .simp
  .split
   .simp
   .exact eC x y
def Xr:∀x y:Bg,compareBytes y x=-compareBytes x y
 |[],[]=>by simp[compareBytes]
 |[],_::_=>by simp[compareBytes]
 |_::_,[]=>by simp[compareBytes]
 |a::x,b::y=>by
  have ih:=Xr x y;unfold compareBytes;grind
def eB:∀x y z:Bg,compareBytes x y<=0->compareBytes y z<=0->compareBytes x z<=0
 |[],y,[],_,_=>by simp[compareBytes]
 |[],y,_::_,_,_=>by simp[compareBytes]
 |a::x,[],z,h,_=>by simp[compareBytes]at h
 |a::x,b::y,[],_,h=>by simp[compareBytes]at h
 |a::x,b::y,c::z,h1,h2=>by
  have ih:=eB x y z;unfold compareBytes at h1 h2 ⊢;grind
def eY:∀x y:Cl,DD x y=-1∨DD x y=0∨DD x y=1
 |[],[]=>by simp[DD]
 |[],_::_=>by simp[DD]
 |_::_,[]=>by simp[DD]
 |a::x,b::y=>by
  unfold DD;split
  .exact eY x y
  .exact eC a b
def eU:∀x y:Cl,DD x y=0↔x=y
 |[],[]=>by simp[DD]
 |[],_::_=>by simp[DD]
 |_::_,[]=>by simp[DD]
 |a::x,b::y=>by
  unfold DD;split
  .rename_i h;rw[eU x y];simp[h]
  .rename_i h;rw[Xq];simp[h]
def eV:∀x y:Cl,DD y x=-DD x y
 |[],[]=>by simp[DD]
 |[],_::_=>by simp[DD]
 |_::_,[]=>by simp[DD]
 |a::x,b::y=>by
  unfold DD;by_cases h:a=b
  .rw[Ai h.symm,Ai h];exact eV x y
  .rw[Ag (fun e=>h e.symm),Ag h];exact Xr a b
def eX:∀x y z:Cl,DD x y<=0->DD y z<=0->DD x z<=0
 |[],y,[],_,_=>by simp[DD]
 |[],y,_::_,_,_=>by simp[DD]
 |a::x,[],z,h,_=>by simp[DD]at h
 |a::x,b::y,[],_,h=>by simp[DD]at h
 |a::x,b::y,c::z,h1,h2=>by
  have ih:=eX x y z;unfold DD at h1 h2 ⊢;by_cases e1:a=b
  .grind
  .rw[Ag e1]at h1;by_cases e2:b=c
   .grind
   .rw[Ag e2]at h2;have h3:=eB a b c h1 h2;by_cases e3:a=c
    .subst e3;have h4:=Xr a b;have h5:compareBytes a b=0:=J;exact AK ((Xq a b).1 h5) e1
    .grind
def SE:Cl->Bg
 |[]=>[]
 |[x]=>x
 |x::y::l=>x++47::SE (y::l)
def YD:∀s,SE (BO s)=s
 |[]=>rfl
 |c::s=>by
  have ih:=YD s;rw[ZP];split
  .rename_i h;subst h;rcases hp:BO s with _|⟨p,r⟩
   .exact AK hp (Vi s)
   .rw[hp]at ih;simp[SE,ih]
  .rcases hp:BO s with _|⟨p,r⟩
   .exact AK hp (Vi s)
   .rw[hp]at ih;cases r with
    |nil=>simp[SE]at ih ⊢;exact ih
    |cons q r=>simp[SE]at ih ⊢;exact ih
def sf(a b:Bg):FX a b=0↔a=b:=by
 unfold FX;rw[eU];constructor
 .intro h;rw[<-YD a,<-YD b,h]
 .grind
end Pth
namespace Srt
open Pth
abbrev By:=Bg
section
variable{α:Type}(key:α->By)
def Ce(a b:α):H:=FX (key a) (key b)
def OO(a b:α):Ce key a b=-1∨Ce key a b=0∨Ce key a b=1:=eY _ _
def Ms(a b:α):Ce key b a=-Ce key a b:=eV _ _
def JE(a b:α):Ce key a b=0↔key a=key b:=sf _ _
def XB{a b c:α}(h1:Ce key a b<=0)(h2:Ce key b c<=0):Ce key a c<=0:=eX _ _ _ h1 h2
def Sn{a b c:α}(h1:Ce key a b=-1)(h2:Ce key b c<=0):Ce key a c=-1:=by
 have g:=XB key (show Ce key a b<=0 by omega) h2;rcases OO key a c with h|h|h
 .omega
 .exfalso;have e:=(JE key a c).1 h
  have f:Ce key b a<=0:=by
   have:Ce key b a=Ce key b c:=by unfold Ce;rw[e]
   omega
  have d:=Ms key a b;omega
 .omega
def eQ{a b c:α}(h1:Ce key a b<=0)(h2:Ce key b c=-1):Ce key a c=-1:=by
 have g:=XB key h1 (show Ce key b c<=0 by omega);rcases OO key a c with h|h|h
 .omega
 .exfalso;have e:=(JE key a c).1 h
  have f:Ce key c b<=0:=by
   have:Ce key c b=Ce key a b:=by unfold Ce;rw[e]
   omega
  have d:=Ms key b c;omega
 .omega
def Df(l:Ae α):Prop:=l.Pairwise (fun a b=>Ce key a b=-1)
def ag:∀{a b:Ae α},Df key a->Df key b->(∀x,x∈a↔x∈b)->a=b
 |[],[],_,_,_=>rfl
 |[],y::b,_,_,h=>absurd ((h y).2 Bl) Bl
 |x::a,[],_,_,h=>absurd ((h x).1 Bl) Bl
 |x::a,y::b,ha,hb,h=>by
  have ha':=Hn.1 ha;have hb':=Hn.1 hb
  have irr:∀z:α,Ce key z z≠-1:=fun z q=>by
   have:=(JE key z z).2 Z;omega
  have d:x=y:=by
   rcases List.mem_cons.1 ((h x).1 Bl)with q|q
   .exact q
   .have g:=hb'.1 x q;rcases List.mem_cons.1 ((h y).2 Bl)with q2|q2
    .grind
    .have f:=ha'.1 y q2;have:=Ms key x y;omega
  subst d
  have e:∀z,z∈a↔z∈b:=fun z=>by
   grind
  rw[ag ha'.2 hb'.2 e]
structure IsMap(m:By->Av α)(out:Ae α):Prop where
 rises:Df key out
 mem:∀x,x∈out↔m (key x)=X x
def IsMap.one{key:α->By}{m:By->Av α}{a b:Ae α}(h1:IsMap key m a)(h2:IsMap key m b):a=b:=ag key h1.rises h2.rises fun x=>(h1.mem x).trans (h2.mem x).symm
def QQ:By->Av α:=fun _=>Aa
def Dj(m:By->Av α)(p:By)(v:Av α):By->Av α:=fun q=>if q=p then v else m q
def Cc(x:α):Ae α->Ae α
 |[]=>[x]
 |y::ys=>if Ce key x y=-1 then x::y::ys else if Ce key x y=0 then x::ys else y::Cc x ys
def Mz(x:α):∀{ys:Ae α},Df key ys->∀z,z∈Cc key x ys↔z=x∨(z∈ys/\key z≠key x)
 |[],_,z=>by simp[Cc]
 |y::ys,h,z=>by
  have h':=Hn.1 h;have ih:=Mz x h'.2 z;unfold Cc;by_cases c1:Ce key x y=-1
  .rw[Ai c1]
   have hne:∀u∈y::ys,key u≠key x:=fun u a e=>by
    have g:Ce key x u=-1:=by
     rcases List.mem_cons.1 a with rfl|a
     .omega
     .exact Sn key c1 Bh
    have f:=(JE key x u).2 e.symm;omega
   grind
  .rw[Ag c1];by_cases d:Ce key x y=0
   .rw[Ai d];have j:=(JE key x y).1 d
    have hne:∀u∈ys,key u≠key x:=fun u a e=>by
     have g:=h'.1 u a;have f:=(JE key y u).2 Bh;omega
    grind
   .rw[Ag d];simp only[List.mem_cons,ih];constructor
    .rintro(q|q|⟨q,i⟩)
     .subst q;exact .inr ⟨.inl Z,fun e=>d ((JE key x z).2 e.symm)⟩
     .exact .inl q
     .grind
    .grind
def ML(x:α):∀{ys:Ae α},Df key ys->Df key (Cc key x ys)
 |[],_=>by simp[Cc,Df]
 |y::ys,h=>by
  have h':=Hn.1 h;have ih:=ML x h'.2;unfold Cc;by_cases c1:Ce key x y=-1
  .rw[Ai c1];refine Hn.2 ⟨fun u hu=>?_,h⟩;rcases List.mem_cons.1 hu with rfl|hu
   .omega
   .exact Sn key c1 Bh
  .rw[Ag c1];by_cases c2:Ce key x y=0
   .rw[Ai c2];refine Hn.2 ⟨fun u hu=>?_,h'.2⟩;exact eQ key J (h'.1 u hu)
   .rw[Ag c2];refine Hn.2 ⟨fun u hu=>?_,ih⟩;rcases(Mz key x h'.2 u).1 hu with q|⟨q,_⟩
    .subst q;have h1:=Ms key u y;have h2:=OO key u y;omega
    .grind
def IsMap.put{m:By->Av α}{a:Ae α}(h:IsMap key m a)(x:α):IsMap key (Dj m (key x) (X x)) (Cc key x a):=by
 refine⟨ML key x h.rises,fun z=>?_⟩;rw[Mz key x h.rises z];unfold Dj;by_cases e:key z=key x
 .grind
 .rw[Ag e,<-h.mem z];grind
def IsMap.del{m:By->Av α}{a:Ae α}(h:IsMap key m a)(p:By):IsMap key (Dj m p Aa) (a.filter fun y=>decide (key y≠p)):=by
 refine⟨GS.filter _ h.rises,fun z=>?_⟩;rw[Le,h.mem z,decide_eq_true_eq];unfold Dj;grind
def Jf(x:α)(s:Ae α×Aw)(y:α):Ae α×Aw:=
 let n:=if Ce key x y<=0/\s.2=Aj then s.1++[x]else s.1
 (if Ce key x y≠0 then n++[y]else n,s.2||decide (Ce key x y<=0))
def SB(x:α)(r:Ae α×Aw):Ae α:=if r.2=Af then r.1 else r.1++[x]
def insF(x:α)(l:Ae α):Ae α:=SB x (l.foldl (Jf key x) ([],Aj))
def Yz(x:α):∀(ys out:Ae α),(∀y∈ys,Ce key x y≠0)->ys.foldl (Jf key x) (out,Af)=(out++ys,Af)
 |[],out,_=>by simp
 |y::ys,out,h=>by
  have h1:=h y Bl;rw[LZ];have e:Jf key x (out,Af) y=(out++[y],Af):=by simp[Jf,h1]
  rw[e,Yz x ys _ (fun z a=>h z Bh)];simp
def gQ(x:α):∀(ys out:Ae α),Df key ys->SB x (ys.foldl (Jf key x) (out,Aj))=out++Cc key x ys
 |[],out,_=>by rfl
 |y::ys,out,h=>by
  have h':=Hn.1 h;rw[LZ];unfold Cc;by_cases c1:Ce key x y=-1
  .have e:Jf key x (out,Aj) y=(out++[x]++[y],Af):=by simp[Jf,c1]
   rw[Ai c1,e,Yz key x ys _ (fun z d=>by have:=Sn key c1 (show Ce key y z<=0 by grind);omega)];simp[SB]
  .rw[Ag c1];by_cases a:Ce key x y=0
   .have e:Jf key x (out,Aj) y=(out++[x],Af):=by simp[Jf,a]
    rw[Ai a,e,Yz key x ys _ (fun z d=>by have:=eQ key (show Ce key x y<=0 by omega) (h'.1 z d);omega)];simp[SB]
   .have g:=OO key x y
    have e:Jf key x (out,Aj) y=(out++[y],Aj):=by
     have f:¬Ce key x y<=0:=J;simp[Jf,f,a]
    rw[Ag a,e];rw[gQ x ys (out++[y]) h'.2];simp
def vj{x:α}{a:Ae α}(h:Df key a):insF key x a=Cc key x a:=by
 have:=gQ key x a [] h;assumption
def Lz(l:Ae α):By->Av α:=l.foldl (fun m x=>Dj m (key x) (X x)) QQ
def vO(l:Ae α)(x:α):Lz key (l++[x])=Dj (Lz key l) (key x) (X x):=by simp[Lz]
def jI{l:Ae α}{p:By}{z:α}(h:Lz key l p=X z):key z=p:=by
 have a:∀(l:Ae α) (m:By->Av α),(∀p z,m p=X z->key z=p)->∀p z,(l.foldl (fun m x=>Dj m (key x) (X x)) m) p=X z->key z=p:=by
  intro l
  induction l with
  |nil=>simp
  |cons x l ih=>
   intro m h;refine ih _ fun q y d=>?_;simp only[Dj]at d;grind
 exact a l QQ (fun p z q=>by cases q) p z h
def YW{l:Ae α}{p:By}{z:α}(h:Lz key l p=X z):z∈l:=by
 have a:∀(l:Ae α) (m:By->Av α),∀p z,(l.foldl (fun m x=>Dj m (key x) (X x)) m) p=X z->z∈l∨m p=X z:=by
  intro l
  induction l with
  |nil=>simp
  |cons x l ih=>
   intro m p z h;rcases ih _ p z h with q|q
   .grind
   .simp only[Dj]at q;grind
 rcases a l QQ p z h with q|q
 .omega
 .cases q
def vN{l:Ae α}{p:By}:Lz key l p=Aa↔∀x∈l,key x≠p:=by
 have a:∀(l:Ae α) (m:By->Av α),∀p,(l.foldl (fun m x=>Dj m (key x) (X x)) m) p=Aa↔(∀x∈l,key x≠p)/\m p=Aa:=by
  intro l
  induction l with
  |nil=>simp
  |cons x l ih=>
   intro m p;rw[LZ,ih];unfold Dj;grind
 exact(a l QQ p).trans ⟨fun h=>h.1,fun h=>⟨h,Z⟩⟩
def jB{l:Ae α}(h:Df key l):IsMap key (Lz key l) l:=by
 refine⟨h,fun x=>?_⟩
 have r:∀a∈l,∀b∈l,key a=key b->a=b:=by
  intro a n b m e;obtain⟨i,k,rfl⟩:=Hm.1 n;obtain⟨j,g,rfl⟩:=Hm.1 m;have f:=Ib.1 h;have t:=(JE key _ _).2 e;rcases TZ i j with q|q|q
  .grind
  .grind
  .have p:=f j i g k q;have o:=Ms key l[i] l[j];omega
 constructor
 .intro d;cases hz:Lz key l (key x)with
  |none=>exact AK Z ((vN key).1 hz x d)
  |some z=>
   have p:=jI key hz;have o:=YW key hz;grind
 .exact fun d=>YW key d
def Aac{l:Ae α}(d:∀i j (hi:i<Aim l) (hj:j<Aim l),i<j->¬Ce key l[j] l[i]<0)(f:(l.map key).Nodup):Df key l:=by
 unfold Df;rw[Ib];intro i j hi hj a;have o:=d i j hi hj a;have n:=Ms key l[i] l[j];have m:=OO key l[i] l[j]
 have k:Ce key l[i] l[j]≠0:=fun e=>by
  have h:=(JE key _ _).1 e;have g:(l.map key)[i]'Bh=(l.map key)[j]'Bh:=by simpa using h
  have:=(Nl f).1 g;omega
 omega
def swo:Go.Sort.SWO (fun a b:α=>decide (Ce key a b<0)) where
 irrefl x:=by
  have:=(JE key x x).2 Z;grind
 trans x y z h1 h2:=by
  simp only[decide_eq_true_eq]at*;have:=Sn key (show Ce key x y=-1 by have:=OO key x y;omega) (show Ce key y z<=0 by omega);omega
 ntrans x y z h1 h2:=by
  simp only[decide_eq_false_iff_not]at*;have f:=Ms key x y;have e:=Ms key y z;have d:=Ms key x z;have:=XB key (show Ce key z y<=0 by omega) (show Ce key y x<=0 by omega);omega
end
end Srt
section
attribute [local irreducible] OW KW QW EX GW NV
open Rec Pth
def kw{m:M}(h:¬Dq m):NI m=([],200):=by unfold NI;grind
def ky{m:M}(h:Dq m):NI m=(Et m,0):=by unfold NI;grind
def kB(m:M)(hm:m.Ok)(w:Ad):Bn prog 110 [.agg m.cells.toArray] w fun v w'=>v=.tuple #[Bj (NI m).1,U (((NI m).2:Y):H)]/\Bf w w':=by
 refine Bw func110 Z ntmps110 Be Z ?_;refine(O 2) ?_;refine DB Z Z Z ?_;rintro L K P d D;refine(O 6) ?_;replace d:Bk K L 60 m.cells:=d;refine(Zv (Cf d)∘Zc (Xs m hm K)) ?_;rintro _ I⟨rfl,p⟩;refine(O 7) ?_;have q:=d.ext p;have Q:=D.trans p;by_cases h:Dq m
 .rw[Xu h];refine Zi (fun G=>?_) fun G=>?_
  .omega
  .obtain⟨T,_⟩:=JO h;have V:=h;obtain⟨_,h2,h3,h4,h5,h6,h7⟩:=h;obtain⟨l,t⟩:=Fq (show 0<=m.start by omega);obtain⟨n,x⟩:=Fq (show 0<=m.sectors by omega);obtain⟨k,r⟩:=Fq (show 0<=m.size by omega);have N:=hm.sum;have e:m.cells=[Bj m.path,U (l:H),U (n:H),U (k:H),.int .u32 (m.sum:H)]:=by unfold M.cells;rw[t,x,r]
   have E:Et m=be 1 (Aim m.path)++m.path++be 2 l++be 2 n++be 2 k++be 4 m.sum:=by unfold Et;rw[t,x,r];rfl
   rw[e]at q;have l1:=Eb 1 (Aim m.path);have l2:=Eb 2 l;have l3:=Eb 2 n;have l4:=Eb 2 k;have l5:=Eb 4 m.sum;rw[ky V,E];refine(O 2)<|Lc (fun(wr:Ad)=>(Bf w wr,[(2,Bj (be 1 (Aim m.path)++m.path++be 2 l++be 2 n++be 2 k++be 4 m.sum)),(3,U ((0:Y):H))],wr)) ?_ ?_
   .skip
    refine(Yr 30 (fun w'=>Bf w w'/\Bk w' L 60 [Bj m.path,U (l:H),U (n:H),U (k:H),.int .u32 (m.sum:H)]) ⟨Q.trans (Bf.drew I),q.drew⟩) fun a=>(Gv [0,1,2,3,5,6,8,9,10,13,14,15,18,19,20,23,24,25]∘Yc 4 (HQ (Aim m.path) 1 J Bc I.drew)) ?_;rintro _ S⟨rfl,o⟩;refine⟨⟨a.1.trans o,a.2.ext o⟩,fun a=>?_⟩;refine(Gv [7]∘Yc 11 (HQ l 2 J Bc S)) ?_;rintro _ C⟨rfl,j⟩;refine⟨⟨a.1.trans j,a.2.ext j⟩,fun a=>?_⟩;refine(Gv [12]∘Yc 16 (HQ n 2 J Bc C)) ?_;rintro _ B⟨rfl,i⟩;refine⟨⟨a.1.trans i,a.2.ext i⟩,fun a=>?_⟩;refine(Gv [17]∘Yc 21 (HQ k 2 J Bc B)) ?_;rintro _ A⟨rfl,g⟩;refine⟨⟨a.1.trans g,a.2.ext g⟩,fun a=>?_⟩;refine(Gv [22]∘Yc 26 (HQ m.sum 4 J Bc A)) ?_;rintro _ y⟨rfl,f⟩;refine⟨⟨a.1.trans f,a.2.ext f⟩,fun a=>?_⟩;refine(Gv [27,28,29]∘Yd∘Lm y) ?_;grind
   .rintro wr W;refine(BH) ?_;grind
 .rw[Mq h,kw h];refine Zi (fun G=>?_) fun G=>?_
  .refine(O 6∘BH) ?_;grind
  .omega
end
section
attribute [local irreducible] OW KW QW EX GW NV
open Rec
def first(s:Bg):Y:=(s.getD 0 0).toNat
def IV(s:Bg):M:=
 ⟨(s.drop 1).take (first s),nb ((s.drop (1+first s)).take 2),nb ((s.drop (3+first s)).take 2),nb ((s.drop (5+first s)).take 2),nb ((s.drop (7+first s)).take 4)⟩
def Ex:Y->Bg->Ae M->Ae M×Y
 |0,_,out=>(out,0)
 |f+1,s,out=>if s=[]then(out,0)else if Aim s<first s+11 then([],200)else if Dq (IV s)then Ex f (s.drop (11+first s)) (out++[IV s])else([],200)
def DH(l:Ae M):Bm:=l.flatMap M.cells
def kE(l:Ae M)(m:M):DH (l++[m])=DH l++m.cells:=by simp[DH]
def UZ(s:Bg)(k:Y)(h:k<=4):nb (s.take k)<=4294967295:=by
 have a:nb (s.take k)<256 ^ 4:=Kj (SJ _ _ Z) (FN Bl Bh);omega
def xh(s:Bg)(h:Aim s<=1000000000):(IV s).Ok:=⟨by show Aim ((s.drop 1).take (first s))<=_;grind,UZ _ 4 J⟩
def un{s:Bg}(h:s≠[]):Hy (s.take 1)=((first s:Y):H):=by
 rw[Vd _ Bh]
 match s,h with
 |c::s,_=>simp[nb,first]
def ul(s:Bg):first s<256:=(s.getD 0 0).toNat_lt
def kC(s:Bg)(hs:Aim s<=1000000000)(w:Ad):
 Bn prog 104 [Bj s] w fun v w'=>∃vs,v=.tuple #[vs,U (((Ex (Aim s+1) s []).2:Y):H)]/\Bp w' w.heap.size 60 5 vs (Aim (Ex (Aim s+1) s []).1) (DH (Ex (Aim s+1) s []).1)/\Bf w w':=by
 generalize ab:Ex (Aim s+1) s []=res;refine Bw func104 Z ntmps104 Be Z ?_;refine(O 13∘Zv (by exact Od (pl:=[(0,1)]) (ks:=[0]) (zs:=[Bj []]) underlying194 aZ Be Z Z Z)) ?_;refine DB Z Z Z ?_;rintro l w1 a6 a9 a7;refine(O 4) ?_;have cb:w.heap.size<=l:=a6;refine Lo (fun((f,q,i,v,wr):Y×(Bg)×(Ae M)×Ah×Ad)=>(Aim q<f/\Aim q<=1000000000/\Aim i+f<=Aim s+1/\Ex f q i=res/\Bk wr l 194 [Bj q]/\Bp wr w.heap.size 60 5 v (Aim i) (DH i)/\Bf w wr,[(4,v),(5,.pointer (X ⟨l,0,Aa⟩))],wr,Aim q)) ((Aim s+1),s,([]),(.slice Aa 0 0),w1) ?_ ?_
 .exact⟨J,hs,Bl,ab,a9,Bp.nil _ _ _ _,a7⟩
 .rintro⟨f,q,i,v,wr⟩⟨cd,ba,ce,B,hr,I,hx⟩;refine(O 8∘Zv (by exact Nc (r:=[]) Z Z)∘O 1)<|Zi (fun T=>?_) fun T=>?_
  .obtain⟨f,rfl⟩:∃g,f=g+1:=⟨f-1,J⟩;have x:q≠[]:=by simpa using T
   have b8:0<Aim q:=Kg.2 x;have bx:=ul q;rw[Ex,Ag x]at B;generalize hn:first q=n at B bx;have d1:(q.drop 1).drop n=q.drop (1+n):=Ge ..;have d3:(q.drop (1+n)).drop 2=q.drop (3+n):=by rw[Ge];congr 1;omega
   have d5:(q.drop (3+n)).drop 2=q.drop (5+n):=by rw[Ge];congr 1;omega
   have d7:(q.drop (5+n)).drop 2=q.drop (7+n):=by rw[Ge];congr 1;omega
   have b7:(q.drop (7+n)).drop 4=q.drop (11+n):=by rw[Ge];congr 1;omega
   have ld:∀j,Aim (q.drop j)<=1000000000000:=fun j=>by rw[CK];omega
   have cg:Aim (q.drop 1)=Aim q-1:=CK;have b2:=fun t:Bg=>UZ t 2 J;have b4:=fun t:Bg=>UZ t 4 J;have i2:=fun t:Bg=>Vd (t.take 2) (by rw[BY];omega);have i4:=fun t:Bg=>Vd (t.take 4) (by rw[BY];omega);refine(O 5∘Zc (IX l 1 q _ wr hr J J)) ?_;rintro _ w2⟨rfl,a0,a4⟩;refine(O 9) ?_;rw[un x,hn];have x2:Bf w w2:=Bv hx a4 hx.size (fun k a=>by simp at a;omega);have p:=I.mo a4 (fun k a=>by simp;exact fun z=>I.ne hr Bc k a z.symm);refine(O 6)<|Zi (fun E=>?_) fun E=>?_
   .rw[Ai J]at B;subst B;refine(O 5∘BH) ?_;exact⟨_,Z,Bp.nil _ _ _ _,x2⟩
   .rw[Ag J]at B;refine(O 7∘Zc (Rh l n (q.drop 1) _ w2 a0 J (ld 1))) ?_;rintro _ w3⟨rfl,P,a3⟩;refine(O 1) ?_;rw[d1]at P;have x3:Bf w w3:=Bv x2 a3 x2.size (fun k a=>by simp at a;omega);have d:=p.mo a3 (fun k a=>by simp;exact fun z=>p.ne a0 Bc k a z.symm);refine(Zn) ?_;rintro W w4 ca L D;refine(Zs L (hlt:=Bq _)) ?_;rintro w5 K V;refine(O 4) ?_;have x4:=x3.trans D;have x5:Bf w w5:=Bv x4 V x4.size (fun k a=>by simp at a;have:=x3.size;omega);have b9:w.heap.size<=W:=by have:=x3.size;omega
    have N:=(P.ext D).mo V (by simp;exact(P.ext D).ne L Bc)
    have o:=(d.ext D).mo V (fun k a=>by
     have a5:=(d.lt k a).2;grind)
    have cf:∀k,v.ownBlock=X k->k≠W:=fun k a=>by have a5:=(d.lt k a).2;omega
    have cc:W≠l:=fun z=>(N.ne K Bc) z.symm;refine(Zc (IX l 2 (q.drop (1+n)) _ w5 N J (ld _))) ?_;rintro _ w6⟨rfl,ao,bn⟩;refine(O 1) ?_;rw[d3]at ao;refine(Zc (IX l 2 (q.drop (3+n)) _ w6 ao J (ld _))) ?_;rintro _ w7⟨rfl,al,bm⟩;refine(O 1) ?_;rw[d5]at al;refine(Zc (IX l 2 (q.drop (5+n)) _ w7 al J (ld _))) ?_;rintro _ w8⟨rfl,aj,bl⟩;refine(O 1) ?_;rw[d7]at aj;have ch:=b4 (q.drop (7+n));have c9:=IX l 4 (q.drop (7+n)) _ w8 aj J (ld _);rw[i4]at c9;refine(Zc c9) ?_;rintro _ w9⟨rfl,ai,bj⟩;refine(O 2) ?_;rw[b7]at ai;rw[i2,i2,i2];have A:Mo w5 w9 [l]:=((bn.trans bm).trans bl).trans bj;have a1:=K.mo A Bh;have S:=o.mo A (fun k a=>by simp;exact fun z=>o.ne N Bc k a z.symm);have x9:Bf w w9:=Bv x5 A x5.size (fun k a=>by simp at a;omega);have hM:IV q=⟨(q.drop 1).take n,nb ((q.drop (1+n)).take 2),nb ((q.drop (3+n)).take 2),nb ((q.drop (5+n)).take 2),nb ((q.drop (7+n)).take 4)⟩:=by unfold IV;rw[hn]
    refine(Zt a1) ?_;rintro wa b6 bi;refine(O 1∘Zt b6) ?_;rintro wb b5 a2;refine(O 1∘Zt b5) ?_;rintro wc b3 bh;refine(O 1∘Zt b3) ?_;rintro wd G bf;refine(O 4) ?_;have y:Mo w9 wd [W]:=((bi.trans a2).trans bh).trans bf;replace G:Bk wd W 60 (IV q).cells:=by rw[hM];exact G
    have xd:Bf w wd:=Bv x9 y x9.size (fun k a=>by simp at a;omega);have a8:=ai.mo y Bh;have Q:=S.mo y (fun k a=>by grind);refine(Zv (Cf G)∘Zc (Xs (IV q) (xh q ba) wd)) ?_;rintro _ we⟨rfl,C⟩;refine(O 7) ?_;have b1:=G.ext C;have af:=a8.ext C;have m:=Q.ext C;have xe:=xd.trans C;by_cases h:Dq (IV q)
    .rw[Xu h];rw[Ai h]at B;refine Zi (fun hz=>?_) fun hz=>?_
     .omega
     .refine(O 3∘Zv (Cf b1)∘Ko xe m) ?_;rintro _ v2 wf bc xf bs;refine(O 3) ?_;have b0:Aim (q.drop (11+n))=Aim q-(11+n):=CK ..;refine Lb (f,(q.drop (11+n)),(i++[IV q]),v2,wf) ?_;have bq:Mo we wf v.ownBlock.toList:=Mo.grown bs (fun k e=>by grind);refine⟨by rw[CK];omega,by rw[CK];omega,Bh,B,af.mo bq (fun z=>m.ne af Bc l Bh Z),?_,xf⟩;rw[BA,kE];omega
    .rw[Mq h];rw[Ag h]at B;subst B;refine Zi (fun hz=>?_) fun hz=>?_
     .refine(O 6∘BH) ?_;exact⟨_,Z,Bp.nil _ _ _ _,xe⟩
     .omega
  .have bb:q=[]:=by simpa using T
   obtain⟨f,rfl⟩:∃g,f=g+1:=⟨f-1,J⟩;rw[Ex,Ai bb]at B;subst B;refine(O 7∘BH) ?_;grind
end
section
open Rec
def Ci(l:Ae M):Bg:=l.flatMap Et
def qQ(l:Ae M)(m:M):Ci (l++[m])=Ci l++Et m:=by simp[Ci]
def SI(m:M):Aim (Et m)=Aim m.path+11:=by
 unfold Et;simp only[BA,Eb];omega
def xu{m:M}(h:Dq m)(p:m.sum<=4294967295)(r:Bg):IV (Et m++r)=m/\first (Et m++r)=Aim m.path/\(Et m++r).drop (11+Aim m.path)=r:=by
 obtain⟨D,_⟩:=JO h;obtain⟨_,y,x,w,v,t,q⟩:=h
 have e:Et m++r=[BS (Aim m.path)]++(m.path++(be 2 m.start.toNat++(be 2 m.sectors.toNat++(be 2 m.size.toNat++(be 4 m.sum++r))))):=by
  unfold Et;rw[re _ J];simp only[Cq]
 have a:first (Et m++r)=Aim m.path:=by
  rw[e];show(BS (Aim m.path)).toNat=_;simp;omega
 have k:(Et m++r).drop 1=m.path++(be 2 m.start.toNat++(be 2 m.sectors.toNat++(be 2 m.size.toNat++(be 4 m.sum++r)))):=by rw[e];rfl
 have i:=ND k Z (j:=1+Aim m.path) Z;have g:=ND i (Eb 2 _) (j:=3+Aim m.path) J;have f:=ND g (Eb 2 _) (j:=5+Aim m.path) J;have d:=ND f (Eb 2 _) (j:=7+Aim m.path) J;have A:=ND d (Eb 4 _) (j:=11+Aim m.path) J;refine⟨?_,a,A⟩;obtain⟨C,B,o,l,n⟩:=m;simp only at y x w v t q p k i g f d a;unfold IV
 rw[a,k,i,g,f,d,Hp Z,Hp (Eb _ _),Hp (Eb _ _),Hp (Eb _ _),Hp (Eb _ _),
  Pn 2 _ (by simp only[Lh];omega),Pn 2 _ (by simp only[Lh];omega),Pn 2 _ (by simp only[Lh];omega),Pn 4 _ (by simp only[Lh];omega)]
 simp;omega
def Zf:∀(l:Ae M) (f:Y) (out:Ae M),(∀m∈l,Dq m/\m.sum<=4294967295)->Aim (Ci l)<f->Ex f (Ci l) out=(out++l,0)
 |[],f,out,_,hf=>by
  obtain⟨g,rfl⟩:∃g,f=g+1:=⟨f-1,J⟩;rw[Ex,Ai (show Ci []=[]from Z),List.append_nil]
 |m::l,f,out,hl,hf=>by
  obtain⟨g,rfl⟩:∃g,f=g+1:=⟨f-1,J⟩;obtain⟨h1,h2⟩:=hl m Bl;have e:Ci (m::l)=Et m++Ci l:=by simp[Ci]
  obtain⟨i,h,d⟩:=xu h1 h2 (Ci l);rw[e]at hf ⊢;rw[BA,SI]at hf;have a:Aim (Et m++Ci l)=Aim m.path+11+Aim (Ci l):=by rw[BA,SI]
  rw[Ex,Ag (fun z=>by grind),h,Ag J,i,Ai h1,d,Zf l g _ (fun x j=>hl x Bh) J];simp
def Xf:∀l:Ae M,(∀m∈l,Dq m)->Aim (Ci l)<=Aim l*131
 |[],_=>by simp[Ci]
 |m::l,h=>by
  have ih:=Xf l (fun x hx=>h x Bh);have h1:=(JO (h m Bl)).1;have e:Ci (m::l)=Et m++Ci l:=by simp[Ci]
  rw[e,BA,SI,Cv];omega
end
namespace Cat
open Pth Rec Srt
abbrev Xt:=H×H
def Ht(cap:H)(x:Xt):Prop:=30<=x.1/\1<=x.2/\x.1<=cap/\x.2<=cap-x.1
instance(cap:H)(x:Xt):Decidable (Ht cap x):=by unfold Ht;infer_instance
def apart(x y:Xt):Prop:=x.1+x.2<=y.1∨y.1+y.2<=x.1
instance(x y:Xt):Decidable (apart x y):=by unfold apart;infer_instance
def Xj{x y:Xt}(h:apart x y):apart y x:=h.symm
structure OkX(l:Ae Xt)(cap:H):Prop where
 room:1<=cap/\cap<=4096
 fit:∀x∈l,Ht cap x
 far:l.Pairwise apart
instance(l:Ae Xt)(cap:H):Decidable (OkX l cap):=
 decidable_of_iff ((1<=cap/\cap<=4096)/\(∀x∈l,Ht cap x)/\l.Pairwise apart) ⟨fun h=>⟨h.1,h.2.1,h.2.2⟩,fun h=>⟨h.room,h.fit,h.far⟩⟩
def Je(l:Ae Xt)(cap:H):Y:=if OkX l cap then 0 else 220
def SP{l l':Ae Xt}{cap:H}(h:l'.Perm l):OkX l' cap↔OkX l cap:=
 ⟨fun q=>⟨q.room,fun x hx=>q.fit x (h.mem_iff.2 hx),(h.pairwise_iff Xj).1 q.far⟩,fun q=>⟨q.room,fun x hx=>q.fit x (h.mem_iff.1 hx),(h.pairwise_iff Xj).2 q.far⟩⟩
def HM(a b:Xt):H:=if a=b then 0 else if a.1<b.1∨(a.1=b.1/\a.2<b.2)then -1 else 1
def Sg(a b:Xt):HM a b<0↔(a.1<b.1∨(a.1=b.1/\a.2<b.2)):=by
 obtain⟨g,f⟩:=a;obtain⟨e,d⟩:=b;unfold HM;grind
def swoX:Go.Sort.SWO (fun a b:Xt=>decide (HM a b<0)) where
 irrefl x:=by
  rw[decide_eq_false_iff_not,Sg];omega
 trans x y z h1 h2:=by
  rw[decide_eq_true_eq,Sg]at*;omega
 ntrans x y z h1 h2:=by
  rw[decide_eq_false_iff_not,Sg]at*;omega
structure Upto(l:Ae Xt)(cap at_:H):Prop where
 fit:∀x∈l,Ht cap x
 chain:l.Pairwise (fun x y=>x.1+x.2<=y.1)
 below:∀x∈l,x.1+x.2<=at_
 last:at_=30∨∃x∈l,at_=x.1+x.2
 low:30<=at_/\at_<=30+4096
def Upto.nil(cap:H):Upto [] cap 30:=⟨Bl,GS.nil,Bl,.inl Z,J⟩
def Upto.snoc{l:Ae Xt}{cap at_:H}(i:1<=cap/\cap<=4096)(h:Upto l cap at_){x:Xt}(h1:¬x.1<at_)(h2:¬x.2<1)(k:¬x.1>cap)(j:¬x.2>cap-x.1):Upto (l++[x]) cap (x.1+x.2):=by
 have g:=h.low;refine⟨fun y d=>?_,?_,fun y d=>?_,.inr ⟨x,Bl,Z⟩,J⟩
 .rcases Dz.1 d with d|d
  .exact h.fit y d
  .simp only[CG]at d;subst d;exact⟨J,J,J,J⟩
 .rw[Mb];refine⟨h.chain,Bl,fun a f b e=>?_⟩;simp only[CG]at e;subst e;have:=h.below a f;omega
 .rcases Dz.1 d with d|d
  .have:=h.below y d;omega
  .grind
def Upto.done{l:Ae Xt}{cap at_:H}(hc:1<=cap/\cap<=4096)(h:Upto l cap at_):OkX l cap:=⟨hc,h.fit,h.chain.imp fun q=>.inl q⟩
def Upto.fail{l:Ae Xt}{cap at_:H}{x:Xt}{r:Ae Xt}(h:Upto l cap at_)(g:∀y∈l,¬HM x y<0)(d:x.1<at_∨x.2<1∨x.1>cap∨x.2>cap-x.1):¬OkX (l++x::r) cap:=fun q=>by
 have i:=q.fit x Bl;unfold Ht at i;rcases d with d|d
 .rcases h.last with e|⟨y,a,e⟩
  .omega
  .have f:=(Mb.1 q.far).2.2 y a x Bl;have k:=g y a;rw[Sg]at k;have j:=h.fit y a;unfold Ht at j;rcases f with f|f
   .omega
   .omega
 .omega
def BV(l:Ae M):Ae Xt:=l.map fun m=>(m.start,m.sectors)
abbrev LC(m:M):Bg:=m.path
structure OkC(l:Ae M)(cap:H):Prop where
 len:Aim l<=16
 may:∀m∈l,Dq m
 rises:Df LC l
 ext:OkX (BV l) cap
def eH(m:M):Mn m=0↔Dq m:=by
 unfold Mn;simp
noncomputable def Kr(l:Ae M)(cap:H):Y:=open Classical in if OkC l cap then 0 else 230
def Si{l:Ae M}{cap:H}(h:OkC l cap):Kr l cap=0:=by unfold Kr;grind
def ON{l:Ae M}{cap:H}(h:¬OkC l cap):Kr l cap=230:=by unfold Kr;grind
def Aad{l:Ae M}{m:M}(h:Df LC l)(hl:∀p,l.getLast? =X p->FX p.path m.path=-1):Df LC (l++[m]):=by
 unfold Df at*;rw[Mb];refine⟨h,Bl,fun a d b f=>?_⟩;simp only[CG]at f;subst f;rcases TJ l with e|⟨q,p,e⟩
 .grind
 .rw[TG]at e;subst e;have i:Ce LC p b=-1:=hl p Bl;rcases Dz.1 d with d|d
  .have g:=(Mb.1 h).2.2 a d p Bl;exact Sn LC g J
  .grind
end Cat
section
attribute [local irreducible] OW KW QW EX GW NV
open Pth Rec Srt Cat
def _root_.Go.Proofs.YtkmlafmjaeeanaaGreatDoor.Cat.xcells(x:Xt):Bm:=[U x.1,U x.2]
abbrev Eg(l:Ae Xt):Bm:=l.flatMap xcells
def PN(l:Ae Xt)(x:Xt):Eg (l++[x])=Eg l++xcells x:=Bl
def VW(l:Ae Xt):∀u∈Eg l,u.oneCell'=Af:=by
 intro u a;obtain⟨p,_,h⟩:=Ov.1 a;simp only[xcells,List.mem_cons,List.not_mem_nil,or_false]at h;rcases h with rfl|rfl<;>rfl
def rW(l:Ae Xt)(hl:Aim l<=1000000)(A:Av AC)(c B:Y)(w:Ad)(m:Sl w B A (Eg l)):
 Bn prog 122 [.slice A (Aim l) c] w fun v w'=>Bp w' w.heap.size 121 2 v (Aim l) (Eg l)/\Bf w w':=by
 have i:=KA (cells:=xcells) (k:=2) (fun _=>rfl) l;refine Bw func122 Z ntmps122 (by rfl) Z ?_;rcases A with _|⟨b,o,D⟩
 .have g:l=[]:=by
   rcases m with h|⟨_,_,h,_⟩
   .cases l with
    |nil=>rfl
    |cons x l=>
     grind
   .cases h
  subst g;refine(O 15∘Bu) ?_;exact⟨Bp.nil _ _ _ _,Bf.refl _⟩
 .refine(O 14) ?_;refine Mi 0 ([]) Z Z underlying118 LL Z Bc Z Z Z Bl Bc ?_;rintro t n e j d;refine(O 1) ?_;have a:Bp n w.heap.size 121 2 (.slice (X ⟨t,0,Aa⟩) 0 0) 0 []:=Bp.Agf (cap:=0) j e Z Bc;refine Ie Z Z underlying118 LL Z Bc Z Z (d) (a) (Src.Agh underlying118 (m.ext d) i (VW l) Bc) CE J ?_;rintro C y f p r q;refine(O 2∘Bu) ?_;grind
def xt_eq(a b:Xt):([decide (a.1=b.1),decide (a.2=b.2)].all id)=decide (a=b):=by
 grind
def si(x y:Xt)(W:Ad):Bn prog 124 [.agg (xcells x).toArray,.agg (xcells y).toArray] W fun r W'=>r=U (HM x y)/\Gr W W':=by
 refine Bw func124 Z ntmps124 Be Z ?_;refine(O 2∘Zv (by exact EX.box (l:=xcells x) Z Z)) ?_;have g:=Bk.new W 121 (xcells x);have k:=Gr.alloc W (.cells (xcells x).toArray 121);generalize n:W.alloc (.cells (xcells x).toArray 121)=w1 at g k;refine(Zv (by exact EX.box (l:=xcells y) Z Z)∘O 5) ?_;have f:=Bk.new w1 121 (xcells y);have i:=Gr.alloc w1 (.cells (xcells y).toArray 121);have a:=g.ext i.1;generalize m:w1.alloc (.cells (xcells y).toArray 121)=w2 at f i a;have j:=k.trans i;refine(Zv (Cf a)∘Zv (Cf f)∘Zv (by exact Tx underlying121 Be Be Z Z (.cons Bc underlying3 Z Z Z (Lu underlying3) (.cons Bc underlying3 Z Z Z (Lu underlying3) .nil)) Z)∘O 1∘Cw 7 (.bool (decide (x=y))) (e:=by exact Ar Value.bool (xt_eq x y)))<|Zi (fun h=>?_) fun h=>?_
 .have e:HM x y=0:=by unfold HM;rw[Ai h]
  refine(O 4∘Bu) ?_;grind
 .refine(O 3)<|Lc (fun(p:Unit)=>(True,[(26,.bool (decide (x.1<y.1∨(x.1=y.1/\x.2<y.2))))],w2)) ?_ ?_
  .refine(O 7)<|Zd 13 (fun d=>?_) fun d=>?_
   .refine(O 14∘Cw 26 (.bool (decide (x.1<y.1∨(x.1=y.1/\x.2<y.2)))) (e:=by exact Ar Value.bool (AM (.inl d)).symm)∘Lm ()) ?_;trivial
   .refine(O 6)<|Zd 19 (fun o=>?_) fun o=>?_
    .refine(O 8∘Cw 26 (.bool (decide (x.1<y.1∨(x.1=y.1/\x.2<y.2)))) (e:=by exact Ar Value.bool (decide_eq_decide.2 J))∘Lm ()) ?_;trivial
    .refine(O 8∘Cw 26 (.bool (decide (x.1<y.1∨(x.1=y.1/\x.2<y.2)))) (e:=by exact Ar Value.bool (AN J).symm)∘Lm ()) ?_;trivial
  .rintro _ _;refine Zi (fun d=>?_) fun d=>?_
   .have e:HM x y=-1:=by unfold HM;rw[Ag h,Ai d]
    refine(O 4∘Bu) ?_;rw[e];exact⟨Z,j⟩
   .have e:HM x y=1:=by unfold HM;rw[Ag h,Ag d]
    refine(O 5∘Bu) ?_;rw[e];exact⟨Z,j⟩
def ni(l:Ae Xt)(hl:Aim l<=1000000)(A:Av AC)(c B:Y)(w:Ad)(r:Sl w B A (Eg l)):
 Bn prog 96 [.slice A (Aim l) c] w fun v w'=>(∃l':Ae Xt,l'.Perm l/\(∀i j (hi:i<Aim l') (hj:j<Aim l'),i<j->¬HM l'[j] l'[i]<0)/\Bp w' w.heap.size 121 2 v (Aim l) (Eg l'))/\Bf w w':=by
 refine Bw func96 Z ntmps96 Be Z ?_;refine(O 7∘Zc (rW l hl A c B w r)) ?_;rintro _ p⟨a,m⟩;refine(O 5) ?_;rename_i q;have C:=VC Tryz.Aho (f:=123) Z func123 Be (e:=121) Z underlying121 Z LL Bl (cells:=xcells) (fun _=>rfl) (fun x v o=>by simp[xcells]at o;rcases o with rfl|rfl<;>rfl) HM swoX func124 Be w.heap.size l J q p a (fun W x y _=>si x y W);refine(Zc C) ?_;rintro _ D⟨rfl,l',g,d,h,n⟩;refine(O 6∘Bu) ?_;exact⟨⟨l',g,d,h⟩,Bv m n m.size (fun k t=>(a.lt k (Fb.1 t)).1)⟩
def Tf(l:Ae Xt)(hl:Aim l<=1000000)(cap:H)(A:Av AC)(c B:Y)(w:Ad)(hs:Sl w B A (Eg l)):
 Bn prog 65 [.slice A (Aim l) c,U cap] w fun v w'=>v=U ((Je l cap:Y):H)/\Bf w w':=by
 have L:¬OkX l cap->Je l cap=220:=fun h=>by unfold Je;grind
 refine Bw func65 Z ntmps65 (by rfl) Z ?_;refine(O 10)<|Zd 10 (fun h1=>?_) fun h1=>?_
 .refine(O 9∘Bu) ?_;rw[L (fun h=>by have:=h.room;omega)];exact⟨Z,Bf.refl _⟩
 .refine(O 4)<|Zi (fun h2=>?_) fun h2=>?_
  .refine(O 4∘Bu) ?_;rw[L (fun h=>by have:=h.room;omega)];exact⟨Z,Bf.refl _⟩
  .have hc:1<=cap/\cap<=4096:=J;refine(O 9∘Zc (ni l hl A c B w hs)) ?_;rintro v1 w1⟨⟨a,d,Q,E⟩,C⟩;obtain⟨A1,c1,rfl,_,S⟩:=E.slice;refine(O 4) ?_;rw[<-SP d]at L;have af:=d.length_eq;have P:OkX a cap->Je l cap=0:=fun h=>by unfold Je;rw[Ai ((SP d).1 h)]
   refine Lo (fun((i,at_,wr):Y×H×Ad)=>(i<=Aim a/\Upto (a.take i) cap at_/\Bf w1 wr,[(1,U cap),(5,U (at_:H)),(15,.slice A1 (Aim l) c1),(16,U ((Aim l:Y):H)),(17,U i)],wr,Aim a-i)) (0,30,w1) ?_ ?_
   .exact⟨BD _,Upto.nil cap,Bf.refl _⟩
   .rintro⟨i,at_,wr⟩⟨hi,g,N⟩;have ab:=g.low;refine(O 5)<|Zi (fun G=>?_) fun G=>?_
    .have m:i<Aim a:=J;obtain⟨b,o,rfl,_,p⟩:=(S.ext N).flat (l:=a) (i:=i) (c:=2) (fun _=>rfl) Bc m;have D:a.take (i+1)=a.take i++[a[i]]:=(CR m).symm;have r:a=a.take i++a[i]::a.drop (i+1):=by rw[<-Ds m,Ho]
     have n:∀y∈a.take i,¬HM a[i] y<0:=fun y hy=>by
      obtain⟨j,hj,rfl⟩:=Hm.1 hy;grind
     generalize a[i]=x at p D r n;refine(O 6∘Zv (Do (xcells x) p)∘Zn) ?_;rintro W w2 ai V t;refine(Zs V (hlt:=Bq _)) ?_;rintro K I T;refine(O 3) ?_;replace I:Bk K W 121 (xcells x):=I;have x3:Bf wr K:=Bv t T t.size (fun k hk=>by grind);refine Lc (fun(_u:Unit)=>(True,[(1,U cap),(5,U (at_:H)),(7,.pointer (X ⟨W,0,Aa⟩)),(15,.slice (X ⟨b,o,Aa⟩) (Aim l) c1),(16,U ((Aim l:Y):H)),(17,U i),(44,.bool (decide ((x.1<at_∨x.2<1∨x.1>cap∨x.2>cap-x.1))))],K)) ?_ ?_
     .refine(O 6)<|Zd 25 (fun q1=>?_) fun q1=>?_
      .refine(O 20∘Cw 44 (.bool (decide ((x.1<at_∨x.2<1∨x.1>cap∨x.2>cap-x.1)))) (e:=by exact Ar Value.bool (AM (.inl q1)).symm)∘Lm ()) ?_;trivial
      .refine(O 5)<|Zd 30 (fun q2=>?_) fun q2=>?_
       .refine(O 15∘Cw 44 (.bool (decide ((x.1<at_∨x.2<1∨x.1>cap∨x.2>cap-x.1)))) (e:=by exact Ar Value.bool (AM (.inr (.inl q2))).symm)∘Lm ()) ?_;trivial
       .refine(O 6)<|Zd 36 (fun q3=>?_) fun q3=>?_
        .refine(O 9∘Cw 44 (.bool (decide ((x.1<at_∨x.2<1∨x.1>cap∨x.2>cap-x.1)))) (e:=by exact Ar Value.bool (AM (.inr (.inr (.inl q3)))).symm)∘Lm ()) ?_;trivial
        .refine(O 9∘Cw 44 (.bool (decide ((x.1<at_∨x.2<1∨x.1>cap∨x.2>cap-x.1)))) (e:=by exact Ar Value.bool (decide_eq_decide.2 J))∘Lm ()) ?_;trivial
     .rintro _ _;refine Zi (fun q=>?_) fun q=>?_
      .refine(O 4∘Bu) ?_;rw[L (by rw[r];exact g.fail n q)];exact⟨Z,(C.trans N).trans x3⟩
      .have f:=g.snoc hc (x:=x) J J J J;have aj:=f.low;rw[<-D]at f;refine(O 14)<|Lb ((i+1),(x.1+x.2),K) ?_;exact⟨J,f,N.trans x3⟩
    .obtain rfl:i=Aim a:=J;rw[DY]at g;refine(O 5∘Bu) ?_;rw[P (g.done hc)];exact⟨Z,C.trans N⟩
end

section
attribute [local irreducible] OW KW QW EX GW NV
open Pth
def DR(w:Ad):Prop:=∃m:H,w.cell? ⟨0,0,Aa⟩=X (U m)
def DR.ext{w w':Ad}(h:DR w)(hx:Bf w w'):DR w':=by
 obtain⟨m,d⟩:=h;refine⟨m,?_⟩;have a:0<w.heap.size:=World.block_lt_of_cell? w _ d;have:=hx.block _ a;unfold World.cell? at d ⊢;grind
def Acn(s:Bg)(l:Aim s<=2000000)(w:Ad)(k:DR w):
 Bn prog 139 [Bj s,Bj [47]] w fun v w'=>∃b,v=.slice (X ⟨b,0,Aa⟩) (Aim (BO s)) (Aim (BO s))/\w.heap.size<=b/\Bk w' b 9 (Dd (BO s))/\Bf w w':=by
 have g:(!(f139.name== "runtime.NumGoroutine") && f139.body.isSome)=Af:=Be;obtain⟨m,i⟩:=k;have h:=Tryz.strings_Split ⟨s.toArray⟩ ⟨#[47]⟩ m w (by show Aim s<_;omega) i (by show 1<=1;omega);have j:=Go.Lib.splitB_data ⟨#[47]⟩ 0 (Go.Lib.countB ⟨s.toArray⟩ ⟨#[47]⟩) ⟨s.toArray⟩;have d:(Go.Lib.splitB ⟨#[47]⟩ 0 (Go.Lib.countB ⟨s.toArray⟩ ⟨#[47]⟩) ⟨s.toArray⟩).map (·.data.toList)=BO s:=j.trans (aJ _ s Z);have a:=Ar DW d;rw[DQ,Go.Lib.splitB_all ⟨#[47]⟩ (by show 1<=1;omega) 0 _ ⟨s.toArray⟩ Z]at a
 have f:(Go.Lib.splitB ⟨#[47]⟩ 0 (Go.Lib.countB ⟨s.toArray⟩ ⟨#[47]⟩) ⟨s.toArray⟩).map Value.string=Dd (BO s):=by
  rw[<-d,Dd,EE];rfl
 rw[f,a]at h;refine(GY func139 g (h.mono (fun e w' q=>q))).mono ?_;rintro v w'⟨rfl,rfl⟩;exact⟨w.heap.size,Z,Bq _,Bk.new w _ _,Bf.alloc w _⟩
def lA(s:Bg)(a:Aim s<=2000000)(w:Ad)(d:DR w):
 Bn prog 102 [Bj s] w fun v w'=>∃b,v=.slice (X ⟨b,0,Aa⟩) (Aim (BO s)) (Aim (BO s))/\w.heap.size<=b/\Bk w' b 9 (Dd (BO s))/\Bf w w':=by
 refine Bw func102 Z ntmps102 (by rfl) Z ?_;refine(O 7∘Zc (Acn s a w d)) ?_;rintro _ e⟨b,rfl,f⟩;refine(O 2∘Bu) ?_;grind
def Vh(s:Bg):Aim (BO s)<=Aim s+1:=by
 have a:=VV (BO s);rwa[Tt]at a
def fm(x y:Bg)(w:Ad):Bn prog 103 [Bj x,Bj y] w fun v w'=>v=U (Go.Lib.compareBytes x y)/\w=w':=by
 have a:(!(f103.name== "runtime.NumGoroutine") && f103.body.isSome)=Af:=Be;refine(GY func103 a ((Tryz.strings_Compare ⟨x.toArray⟩ ⟨y.toArray⟩ w).mono (fun e w' q=>q))).mono ?_;simp
def dw{P:AE}{f:FuncId}{args:Bm}{w:Ad}{v:Ah}(h:Bn P f args w fun v' w'=>v'=v/\w=w'):WX P f args w v:=
 h.mono fun _ _⟨h1,h2⟩=>⟨h1,0,by subst h2;rfl⟩
def XC:∀(i:Y) (x y:Cl),(∀j,j<i->x[j]? =y[j]?)->i<=Aim x->i<=Aim y->DD x y=DD (x.drop i) (y.drop i)
 |0,x,y,_,_,_=>rfl
 |i+1,[],y,_,h,_=>by simp at h
 |i+1,x,[],_,_,h=>by simp at h
 |i+1,a::x,b::y,h,h1,h2=>by
  have h0:=h 0 J;simp only[List.getElem?_cons_zero,Ns.injEq]at h0;subst h0;rw[DD,Ai Z];simp only[RO];exact XC i x y (fun j hj=>by grind) Bh Bh
def eR{x y:Cl}{i:Y}(d:∀j,j<i->x[j]? =y[j]?)(h1:i<Aim x)(h2:i<Aim y)(a:x[i]≠y[i]):DD x y=Go.Lib.compareBytes x[i] y[i]:=by
 rw[XC i x y d J J,Ds h1,Ds h2,DD,Ag a]
def eS{x y:Cl}{i:Y}(g:∀j,j<i->x[j]? =y[j]?)(hi:i=min (Aim x) (Aim y)):DD x y=if Aim x<Aim y then -1 else if Aim y<Aim x then 1 else 0:=by
 rw[XC i x y g J J];rcases hx:x.drop i with _|⟨a,h⟩
 .rcases hy:y.drop i with _|⟨b,f⟩
  .have e:=Ar DW hx;have d:=Ar DW hy;simp only[CK,EZ]at e d;rw[Ag J,Ag J];rfl
  .have e:=Ar DW hx;have d:=Ar DW hy;simp only[CK,EZ,Cv]at e d;rw[Ai J];rfl
 .rcases hy:y.drop i with _|⟨b,f⟩
  .have e:=Ar DW hx;have d:=Ar DW hy;simp only[CK,EZ,Cv]at e d;rw[Ag J,Ai J];rfl
  .grind
def mK{x y:Cl}{i:Y}(a:∀j,j<i->x[j]? =y[j]?)(h1:i<Aim x)(h2:i<Aim y)(h:x[i]=y[i]):∀j,j<i+1->x[j]? =y[j]?:=fun j d=>by
 grind
def fe(a b:Bg)(ha:Aim a<=2000000)(hb:Aim b<=2000000)(w:Ad)(I:DR w):
 Bn prog 73 [Bj a,Bj b] w fun v w'=>v=U (FX a b)/\Bf w w':=by
 have S:=Vh a;have Q:=Vh b;refine Bw func73 Z ntmps73 Be Z ?_;refine(O 7∘Zc (lA a ha w I)) ?_;rintro _ P⟨ba,rfl,W,C,k⟩;refine(O 1∘Zc (lA b hb P (I.ext k))) ?_;rintro _ G⟨bb,rfl,V,o,h⟩;refine(O 14) ?_;have N:=k.trans h;have f:=C.ext h;unfold FX;generalize hX:BO a=j0 at f S;generalize hY:BO b=k7 at o Q;refine Lo (fun((i,wr):Y×Ad)=>(i<=min (Aim j0) (Aim k7)/\(∀j,j<i->j0[j]? =k7[j]?)/\Bf G wr,[(5,.slice (X ⟨ba,0,Aa⟩) (Aim j0) (Aim j0)),(6,.slice (X ⟨bb,0,Aa⟩) (Aim k7) (Aim k7)),(16,U (((min (Aim j0) (Aim k7)):Y):H)),(17,U i)],wr,min (Aim j0) (Aim k7)-i)) (0,G) ?_ ?_
 .exact⟨J,fun j hj=>by omega,Bf.refl _⟩
 .rintro⟨i,wr⟩⟨p,t,e⟩;have q:=N.trans e;have n:=f.ext e;have m:=o.ext e;refine(O 5)<|Zi (fun x=>?_) fun x=>?_
  .have E:i<Aim j0:=J;have D:i<Aim k7:=J;have L:=Tp E;have K:=Tp D;refine(O 13∘Zq (by exact fun _=>Bo (n.drewN _) (hi:=L))∘O 3∘Zq (by exact fun _=>Bo (m.drewN _) (hi:=K))∘O 1∘QW.nil) fun g=>Zi (fun l=>?_) fun l=>?_
   .have y:=eR t E D l;have B:=n.drewN g;have A:=m.drewN g;refine(O 5∘Zq (by exact fun _=>Bo (B.drewN _) (hi:=L))∘O 3∘Zq (by exact fun _=>Bo (A.drewN _) (hi:=K))) ?_;refine QW.call Z Z Z (fun _=>dw (fm j0[i] k7[i] _))<|(O 1∘QW.nil) fun g=>(Bu) ?_;rw[y];exact⟨Z,(q.trans (Bf.drewN _ _)).trans (Bf.drewN _ _)⟩
   .refine(O 6)<|Lb ((i+1),(wr.drewN g)) ?_;exact⟨J,mK t E D Bh,e.trans (Bf.drewN wr g)⟩
  .have d:=eS t J;refine(O 12)<|Zi (fun r=>?_) fun r=>?_
   .rw[Ai r]at d;refine(O 4∘Bu) ?_;grind
   .rw[Ag r]at d;refine(O 9)<|Zi (fun T=>?_) fun T=>?_
    .rw[Ai J]at d;refine(O 4∘Bu) ?_;rw[d];exact⟨Z,q⟩
    .rw[Ag J]at d;refine(O 6∘Bu) ?_;rw[d];exact⟨Z,q⟩
def Acm(s:Bg)(l:Aim s<=2000000)(w:Ad)(k:DR w):
 Bn prog 139 [Bj s,Bj [47]] w fun v w'=>∃b,v=.slice (X ⟨b,0,Aa⟩) (Aim (BO s)) (Aim (BO s))/\w.heap.size<=b/\Bk w' b 9 (Dd (BO s))/\Gr w w':=by
 have g:(!(f139.name== "runtime.NumGoroutine") && f139.body.isSome)=Af:=Be;obtain⟨m,i⟩:=k;have h:=Tryz.strings_Split ⟨s.toArray⟩ ⟨#[47]⟩ m w (by show Aim s<_;omega) i (by show 1<=1;omega);have j:=Go.Lib.splitB_data ⟨#[47]⟩ 0 (Go.Lib.countB ⟨s.toArray⟩ ⟨#[47]⟩) ⟨s.toArray⟩;have d:(Go.Lib.splitB ⟨#[47]⟩ 0 (Go.Lib.countB ⟨s.toArray⟩ ⟨#[47]⟩) ⟨s.toArray⟩).map (·.data.toList)=BO s:=j.trans (aJ _ s Z);have a:=Ar DW d;rw[DQ,Go.Lib.splitB_all ⟨#[47]⟩ (by show 1<=1;omega) 0 _ ⟨s.toArray⟩ Z]at a
 have f:(Go.Lib.splitB ⟨#[47]⟩ 0 (Go.Lib.countB ⟨s.toArray⟩ ⟨#[47]⟩) ⟨s.toArray⟩).map Value.string=Dd (BO s):=by
  rw[<-d,Dd,EE];rfl
 rw[f,a]at h;refine(GY func139 g (h.mono (fun e w' q=>q))).mono ?_;rintro v w'⟨rfl,rfl⟩;exact⟨w.heap.size,Z,Bq _,Bk.new w _ _,Gr.alloc w _⟩
def lz(s:Bg)(a:Aim s<=2000000)(w:Ad)(d:DR w):
 Bn prog 102 [Bj s] w fun v w'=>∃b,v=.slice (X ⟨b,0,Aa⟩) (Aim (BO s)) (Aim (BO s))/\w.heap.size<=b/\Bk w' b 9 (Dd (BO s))/\Gr w w':=by
 refine Bw func102 Z ntmps102 (by rfl) Z ?_;refine(O 7∘Zc (Acm s a w d)) ?_;rintro _ e⟨b,rfl,f⟩;refine(O 2∘Bu) ?_;grind
def rZ(a b:Bg)(ha:Aim a<=2000000)(hb:Aim b<=2000000)(w:Ad)(L:DR w):
 Bn prog 73 [Bj a,Bj b] w fun v w'=>v=U (FX a b)/\Gr w w':=by
 have V:=Vh a;have T:=Vh b;refine Bw func73 Z ntmps73 Be Z ?_;refine(O 7∘Zc (lz a ha w L)) ?_;rintro _ S⟨ba,rfl,af,E,l⟩;refine(O 1) ?_;have x:=l.1;refine(Zc (lz b hb S (L.ext x))) ?_;rintro _ K⟨bb,rfl,ab,o,k⟩;refine(O 14) ?_;have t:=k.1;have Q:=l.trans k;have f:=E.ext t;unfold FX;generalize hX:BO a=j0 at f V;generalize hY:BO b=k7 at o T;refine Lo (fun((i,wr):Y×Ad)=>(i<=min (Aim j0) (Aim k7)/\(∀j,j<i->j0[j]? =k7[j]?)/\Gr K wr,[(5,.slice (X ⟨ba,0,Aa⟩) (Aim j0) (Aim j0)),(6,.slice (X ⟨bb,0,Aa⟩) (Aim k7) (Aim k7)),(16,U (((min (Aim j0) (Aim k7)):Y):H)),(17,U i)],wr,min (Aim j0) (Aim k7)-i)) (0,K) ?_ ?_
 .exact⟨J,fun j hj=>by omega,Gr.refl _⟩
 .rintro⟨i,wr⟩⟨p,y,e⟩;have q:=Q.trans e;have n:=f.ext e.1;have m:=o.ext e.1;refine(O 5)<|Zi (fun A=>?_) fun A=>?_
  .have I:i<Aim j0:=J;have G:i<Aim k7:=J;have P:=Tp I;have N:=Tp G;refine(O 13∘Zq (by exact fun _=>Bo (n.drewN _) (hi:=P))∘O 3∘Zq (by exact fun _=>Bo (m.drewN _) (hi:=N))∘O 1∘QW.nil) fun g=>Zi (fun h=>?_) fun h=>?_
   .have B:=eR y I G h;have D:=n.drewN g;have C:=m.drewN g;refine(O 5∘Zq (by exact fun _=>Bo (D.drewN _) (hi:=P))∘O 3∘Zq (by exact fun _=>Bo (C.drewN _) (hi:=N))) ?_;refine QW.call Z Z Z (fun _=>dw (fm j0[i] k7[i] _))<|(O 1∘QW.nil) fun g=>(Bu) ?_;rw[B];exact⟨Z,(q.trans (Gr.drewN _ _)).trans (Gr.drewN _ _)⟩
   .refine(O 6)<|Lb ((i+1),(wr.drewN g)) ?_;exact⟨J,mK y I G Bh,e.trans (Gr.drewN wr g)⟩
  .have d:=eS y J;refine(O 12)<|Zi (fun r=>?_) fun r=>?_
   .rw[Ai r]at d;refine(O 4∘Bu) ?_;grind
   .rw[Ag r]at d;refine(O 9)<|Zi (fun W=>?_) fun W=>?_
    .rw[Ai J]at d;refine(O 4∘Bu) ?_;rw[d];exact⟨Z,q⟩
    .rw[Ag J]at d;refine(O 6∘Bu) ?_;rw[d];exact⟨Z,q⟩
end
section
attribute [local irreducible] OW KW QW EX GW NV
open Pth Rec Srt Cat
def JF(l:Ae M)(i:Y)(m:M):H:=match (l.take i).getLast? with|some p=>FX p.path m.path|none=>-1
structure PreC(l:Ae M):Prop where
 may:∀m∈l,Dq m
 rises:Df LC l
def PreC.nil:PreC []:=⟨Bl,GS.nil⟩
def eZ{l:Ae M}{i:Y}{m:M}(h0:0<i)(hi:i<=Aim l):JF l i m=FX (l[i-1]'J).path m.path:=by
 unfold JF;grind
def PreC.snoc{l:Ae M}{i:Y}(h:PreC (l.take i)){m:M}(hm:Dq m)(d:¬0<=JF l i m):PreC (l.take i++[m]):=by
 refine⟨fun x a=>?_,Aad h.rises fun p e=>?_⟩
 .rcases Dz.1 a with a|a
  .exact h.may x a
  .grind
 .unfold JF at d;rw[e]at d;simp only at d;have:=OO LC p m;simp only[Ce,LC]at this;omega
def xT{l:Ae M}{cap:H}{i:Y}(hi:i<Aim l)(h:¬Dq l[i]∨0<=JF l i l[i]):¬OkC l cap:=fun q=>by
 rcases h with h|h
 .exact h (q.may _ (BM hi))
 .rcases Jy i with a|a
  .subst a;simp[JF]at h
  .rw[eZ a J]at h;have d:Ce LC (l[i-1]'J) l[i]=-1:=Ib.1 q.rises (i-1) i J hi J;simp only[Ce,LC]at d;omega
def eE{w w':Ad}(h:Bf w w'){a:AC}{u:Ah}(e:w.cell? a=X u):w'.cell? a=X u:=by
 have d:=World.block_lt_of_cell? w _ e;have:=h.block _ d;unfold World.cell? at e ⊢;grind
def Mu(l:Ae M):Aim (BV l)=Aim l:=by simp[BV]
def Ur(l:Ae M)(ao:∀m∈l,m.Ok)(hl:Aim l<=140737488355328)(cap:H)(A:Av AC)(c B:Y)(w:Ad)(hG:DR w)(hs:Sl w B A (DH l)):
 Bn prog 43 [.slice A (Aim l) c,U cap] w fun v w'=>v=U ((Kr l cap:Y):H)/\Bf w w':=by
 refine Bw func43 Z ntmps43 Be Z ?_;refine(O 11)<|Zi (fun ai=>?_) fun ai=>?_
 .refine(O 4∘Bu) ?_;rw[ON (fun h=>by have:=h.len;omega)];exact⟨Z,Bf.refl _⟩
 .refine(O 13)<|Lo (fun((i,v,wr):Y×Ah×Ad)=>(i<=Aim l/\PreC (l.take i)/\Bp wr w.heap.size 121 2 v i (Eg (BV (l.take i)))/\Bf w wr,[(0,.slice A (Aim l) c),(1,U cap),(5,v),(11,.slice A (Aim l) c),(12,U ((Aim l:Y):H)),(13,U i)],wr,Aim l-i)) (0,(.slice Aa 0 0),w) ?_ ?_
  .exact⟨BD _,PreC.nil,Bp.nil _ _ _ _,Bf.refl _⟩
  .rintro⟨i,v,wr⟩⟨hi,f,D,hx⟩;refine(O 5)<|Zi (fun t=>?_) fun t=>?_
   .obtain⟨b,o,rfl,_,E⟩:=(hs.ext hx).flat (i:=i) (c:=5) (fun _=>rfl) Bc t;have N:l.take (i+1)=l.take i++[l[i]]:=(CR t).symm;have I:=xT (cap:=cap) t;have af:=ao l[i] (BM t);have y:∀h:0<i,JF l i l[i]=FX (l[i-1]'J).path (l[i]).path:=fun h=>eZ h hi;have x:i=0->JF l i l[i]=-1:=fun h=>by subst h;rfl
    have al:∀h:0<i,Dq (l[i-1]'J):=fun h=>f.may _ (List.mem_take_iff_getElem.2 ⟨i-1,J,Z⟩)
    have a1:∀h:0<i,∀j u,(l[i-1]'J).cells[j]? =X u->wr.cell? ⟨b,o+(i-1)*5+j,Aa⟩=X u:=fun h=>by
     obtain⟨b2,o2,e2,_,h2⟩:=(hs.ext hx).flat (i:=i-1) (c:=5) (fun _=>rfl) Bc J;grind
    generalize a5:l[i]=m at E N I af y x;refine(O 7∘Zv (Do m.cells E)∘Zn) ?_;rintro mb w2 a3 a2 W;refine(O 1∘Zs a2 (hlt:=Bq _)) ?_;rintro G g a0;refine(O 3) ?_;replace g:Bk G mb 60 m.cells:=g;have x3:Bf wr G:=Bv W a0 W.size (fun k hk=>by grind);have S:=hx.trans x3;have ck:=fun w=>Xs m af w;refine Lc (fun(K:Ad)=>(Bf G K,[(0,.slice (X ⟨b,o,Aa⟩) (Aim l) c),(1,U cap),(5,v),(7,.pointer (X ⟨mb,0,Aa⟩)),(11,.slice (X ⟨b,o,Aa⟩) (Aim l) c),(12,U ((Aim l:Y):H)),(13,U i),(36,.bool (decide ((¬Dq m∨0<=JF l i m))))],K)) ?_ ?_
    .skip
     rcases Decidable.em (Dq m)with hm|hm
     .have e0:Mn m=0:=(eH m).2 hm;have a4:=(JO hm).1;rw[e0]at ck;rcases Jy i with h0|h0
      .refine(Yr 19 (fun w'=>Bf G w') (Bf.drew G)) fun r=>(Yw 0 (he:=by exact fun _ d=>Cf (g.ext d))∘Yc 1 (ck _)) ?_;rintro _ K⟨rfl,a⟩;refine⟨r.trans a,fun r=>?_⟩;refine(Gv [2,3]∘Nv 21∘Gv [4,5,6]∘Nv 24∘Gv [7,8,9,10,11,12,13,14,15,16,17,18]∘Yd∘Cw 36 (.bool (decide ((¬Dq m∨0<=JF l i m)))) (e:=by exact Ar Value.bool (AN (fun q=>q.elim (fun z=>z hm) (fun z=>by have:=x h0;omega))).symm)∘Lm K) ?_;exact r
      .have e1:=y h0;have e2:(l[i-1]'J).path.length<=120:=(JO (al h0)).1;have e3:=a1 h0;generalize(l[i-1]'J)=p at e1 e2 e3;have cc:=fun w hG=>fe p.path m.path J J w hG;rw[<-e1]at cc;refine(Yr 19 (fun w'=>Bf G w') (Bf.drew G)) fun r=>(Yw 0 (he:=by exact fun _ d=>Cf (g.ext d))∘Yc 1 (ck _)) ?_;rintro _ K⟨rfl,a⟩;refine⟨r.trans a,fun r=>?_⟩;refine(Gv [2,3]∘Nv 21∘Gv [4,5,6]∘Zga 24∘Gv [7,8,9,10,11]∘Yw 12 (he:=by exact fun _ d=>BZ (eE (x3.trans d) (e3 0 _ Z)))∘Gv [13]∘Yw 14 (he:=by exact fun _ d=>Bo (g.ext d))∘Yc 15 (cc _ ((hG.ext S).ext r))) ?_;rintro _ wp⟨rfl,aj⟩;refine⟨r.trans aj,fun r=>?_⟩;refine(Gv [16,17,18]∘Yd∘Cw 36 (.bool (decide ((¬Dq m∨0<=JF l i m)))) (e:=by exact Ar Value.bool (decide_eq_decide.2 ⟨fun h=>.inr h,fun h=>h.elim (fun q=>absurd hm q) id⟩))∘Lm wp) ?_;exact r
     .have e0:Mn m≠0:=fun q=>hm ((eH m).1 q);refine(Yr 19 (fun w'=>Bf G w') (Bf.drew G)) fun r=>(Yw 0 (he:=by exact fun _ d=>Cf (g.ext d))∘Yc 1 (ck _)) ?_;rintro _ K⟨rfl,a⟩;refine⟨r.trans a,fun r=>?_⟩;refine(Gv [2,3]∘Zga 21 (e:=by exact fun h=>e0 h)∘Gv [4,5,6,7,8,9,10,11,12,13,14,15,16,17,18]∘Yd∘Cw 36 (.bool (decide ((¬Dq m∨0<=JF l i m)))) (e:=by exact Ar Value.bool (AM (.inl hm)).symm)∘Lm K) ?_;exact r
    .rintro K a;have xq:=S.trans a;have a7:=g.ext a;have P:=(D.ext x3).ext a;refine Zi (fun n=>?_) fun n=>?_
     .refine(O 4∘Bu) ?_;rw[ON (I n)];grind
     .have C:=f.snoc (m:=m) (Decidable.of_not_not fun q=>n (.inl q)) (fun q=>n (.inr q));rw[<-N]at C;refine(O 8∘Ko xq P) ?_;rintro _ v4 w4 Q x4 a6;refine(O 7)<|Lb ((i+1),v4,w4) ?_;refine⟨J,C,?_,x4⟩;rw[N,show BV (l.take i++[m])=BV (l.take i)++[(m.start,m.sectors)] by simp[BV],PN];exact Q
   .obtain rfl:i=Aim l:=J;rw[DY]at f D;obtain⟨A4,c4,rfl,_,ab⟩:=D.slice;have cs:=Tf (BV l) (by rw[Mu];omega) cap A4 c4 _ wr ab;rw[Mu]at cs;refine(O 6∘Zc cs) ?_;rintro _ w5⟨rfl,V⟩;refine(O 2)<|Zi (fun L=>?_) fun L=>?_
    .have I:¬OkX (BV l) cap:=fun q=>L (by unfold Je;grind);refine(O 4∘Bu) ?_;rw[ON (fun h=>I h.ext)];exact⟨Z,hx.trans V⟩
    .have T:OkX (BV l) cap:=Decidable.byContradiction fun q=>L (by unfold Je;grind);refine(O 5∘Bu) ?_;rw[Si ⟨J,f.may,f.rises,T⟩];exact⟨Z,hx.trans V⟩
end
section
attribute [local irreducible] OW KW QW EX GW NV
open Fld Ust Pax Pth Tar
def zj(s p:Bg)(w:Ad):Bn prog 93 [Bj s,Bj p] w fun v w'=>v=.bool (p.isPrefixOf s)/\w'=w:=
 GY func93 (by rfl) (Tryz.strings_HasPrefix ⟨⟨s⟩⟩ ⟨⟨p⟩⟩ w)
def tV{x:En}(hx:Fits x):(Cj x=CW (CM x.path 48 (Aim x.data))++Io (Bz.packS x.data (CY x.data))/\Tar.Good x.path 48 (Aim x.data))∨
 (Cj x=FU Hh 120 (Di ⟨Ec,x.path⟩)++(CW (CM (x.path.take 100) 48 (Aim x.data))++Io (Bz.packS x.data (CY x.data)))/\Tar.Good (x.path.take 100) 48 (Aim x.data)):=by
 have a:Aim x.data<=262144:=by have:=hx.data;omega
 unfold Cj Lv;split
 .rename_i q;exact .inl ⟨Z,YG hx.path a q⟩
 .exact .inr ⟨Bl,YF hx.path a⟩
def Acp(x:En)(hx:Fits x)(suf:Bg)(hs:Aim (Cj x++suf)<=1000000000)(w:Ad)(hG:Env w):
 Bn prog 61 [Bj (Cj x++suf)] w fun v w'=>v=.tuple #[.agg x.cells.toArray,U ((Aim (Cj x):Y):H),U ((0:Y):H)]/\Bf w w':=by
 obtain⟨_,bs,d,hz⟩:=Qx hx.path;have bx:=hx.data;have Q:=jZ hx;have a8:=JN hx;have K:=tV hx
 have j:(Cj x).isPrefixOf (Cj x++suf)=Af:=by
  rw[List.isPrefixOf_iff_prefix];exact WH _ _
 have L:Aim (Cj x++suf)=Aim (Cj x)+Aim suf:=BA;obtain⟨s,hse⟩:∃s,s=Cj x++suf:=⟨_,Z⟩;obtain⟨E,hE⟩:∃E,E=Cj x:=⟨_,Z⟩;rw[<-hse]at hs j L;rw[<-hse];rw[<-hE]at Q a8 K j L hse;rw[<-hE];obtain⟨q,hq⟩:∃q,q=Io (Bz.packS x.data (CY x.data))++suf:=⟨_,Z⟩;have a1:=lY d;have P:=lB d;have cH:=fun k hk w=>nj s k hk J w;refine Bw func61 Z ntmps61 Be Z ?_;refine(O 2∘Zn) ?_;rintro tb w1 bm I f;refine(O 12∘Zc (cH 120 Bc w1)) ?_;rintro _ w2⟨rfl,t⟩;refine(O 3∘Zn) ?_;rintro xb w3 bl bc p;refine(Zs bc (hlt:=Bq _)) ?_;rintro m l S;refine(O 6) ?_;replace l:Bk m xb 167 (Lw s 120).1.cells:=l;have z1:=f.size;have z2:=t.size;have z3:=p.size;have z4:=S.size;have bn:=I.lt;have A:Bf w1 m:=Bv (t.trans p) S (t.trans p).size Bx
 have a3:s=CW (CM x.path 48 (Aim x.data))++q/\Tar.Good x.path 48 (Aim x.data)∨s=FU Hh 120 (Di ⟨Ec,x.path⟩)++(CW (CM (x.path.take 100) 48 (Aim x.data))++q)/\Tar.Good (x.path.take 100) 48 (Aim x.data):=by
  rcases K with⟨e,g⟩|⟨e,g⟩
  .grind
  .grind
 refine Lc (fun((at_,a,wr):Y×(Bg)×Ad)=>((at_=0/\a=[]/\s=CW (CM x.path 48 (Aim x.data))++q/\Tar.Good x.path 48 (Aim x.data)∨at_=1024/\a=x.path/\s=FU Hh 120 (Di ⟨Ec,x.path⟩)++(CW (CM (x.path.take 100) 48 (Aim x.data))++q)/\Tar.Good (x.path.take 100) 48 (Aim x.data))/\Bf w1 wr,[(0,Bj (s)),(2,.pointer (X ⟨tb,0,Aa⟩)),(5,U at_),(6,Bj (a))],wr)) ?_ ?_
 .have a2:=a3;rcases a2 with⟨e,g⟩|⟨e,g⟩
  .have T:Lw s 120=(CM x.path 48 (Aim x.data),Aj):=by
    rw[e,YO g];rfl
   rw[T];refine(O 2∘Lm (0,([]),m)) ?_;grind
  .obtain⟨R,hR⟩:∃R,R=Di ⟨Ec,x.path⟩:=⟨_,Z⟩;rw[<-hR]at a1 P;have e0:=e;rw[<-hR]at e;have gp:Tar.Good Hh 120 (Aim R):=YH J
   have T:Lw s 120=(CM Hh 120 (Aim R),Af):=by
    have:FU Hh 120 R=CW (CM Hh 120 (Aim R))++(R++Cx (Gj (Aim R)-Aim R)):=by unfold FU;rw[Cq]
    rw[e,this,Cq,YO gp];rfl
   have bh:(s.drop 512).take (Aim R)=R:=by
    have:FU Hh 120 R=CW (CM Hh 120 (Aim R))++(R++Cx (Gj (Aim R)-Aim R)):=by unfold FU;rw[Cq]
    rw[e,this,Cq,RN gp.len,Cq,Hp Z]
   have bq:1024+512<=Aim s:=by
    rw[e,BA,BA,P,g.len];omega
   have V:GH R=([⟨Ec,x.path⟩],0):=by rw[hR];exact yO d
   rw[T]at l ⊢;replace l:Bk m xb 167 (CM Hh 120 (Aim R)).cells:=l;refine(O 8∘Ig 26∘O 5∘Ig 31∘O 8∘Cd 38∘O 8∘Zv (by exact Oo (i:=512) underlying9 Z Z Z J)) ?_;have bf:(s.drop 512).take (512+Aim R-512)=R:=by rw[Ki];exact bh
   have cp:Bn prog 91 [Bj ((s.drop 512).take (512+Aim R-512))] m fun v w'=>∃u,v=.tuple #[u,U ((0:Y):H)]/\Bp w' m.heap.size 174 2 u 1 (MH [⟨Ec,x.path⟩])/\Bf m w':=by
    have h:=yR R J m (hG.ext (f.trans A));rw[V]at h;rw[bf];exact h
   refine(Zc cp) ?_;rintro _ w5⟨u,rfl,B,al⟩;refine(O 8) ?_;obtain⟨A5,c5,rfl,_,ai⟩:=B.slice;obtain⟨b5,o5,rfl,_,ba⟩:=ai.at_ (Nat.succ_pos _);refine(O 4∘Ig 51∘O 5∘Cd 55∘O 6∘Zq (by exact fun _=>BZ (eE (Bf.drewN w5 _) (ba 1 _ Z)))∘O 2∘QW.nil) fun nq=>(Lm (1024,x.path,(w5.drewN nq))) ?_;exact⟨.inr ⟨Z,Z,e0,g⟩,(A.trans al).trans (Bf.drewN w5 nq)⟩
 .rintro⟨at_,a,wr⟩⟨y,xr⟩
  obtain⟨g0,hg0⟩:∃p' pre,Aim pre=at_/\s=pre++(CW (CM p' 48 (Aim x.data))++q)/\Tar.Good p' 48 (Aim x.data)/\(a=[]/\p'=x.path∨a=x.path)/\at_<=1024:=by
   rcases y with⟨rfl,h,e,g⟩|⟨rfl,h,e,g⟩
   .simp_all
   .grind
  obtain⟨pre,N,e,g,a4,b0⟩:=hg0;have a7:=g.len;have bi:at_+512<=Aim s:=by rw[e,BA,BA];omega
  have a9:s.drop at_=CW (CM g0 48 (Aim x.data))++q:=by rw[e,<-N];exact RN Z
  have T:Lw (s.drop at_) 48=(CM g0 48 (Aim x.data),Af):=by rw[a9,YO g];rfl
  have c2:=nj (s.drop at_) 48 Bc Bh wr;rw[T]at c2;refine(O 4∘Zv (by exact Nd underlying9 Z Z J)∘Zc c2) ?_;rintro _ w6⟨rfl,o⟩;refine(O 3∘Zn) ?_;rintro hb w7 bj bb C;refine(Zs bb (hlt:=Bq _)) ?_;rintro w8 W a6;refine(O 8) ?_;replace W:Bk w8 hb 167 (CM g0 48 (Aim x.data)).cells:=W;refine(O 6∘Zv (by exact HD (r:=[]) Z Z)∘O 1)<|Lc (fun(p2:(Bg))=>(p2=x.path,[(0,Bj (s)),(2,.pointer (X ⟨tb,0,Aa⟩)),(5,U at_),(6,Bj (p2))],w8)) ?_ ?_
  .refine Zi (fun hp=>?_) fun hp=>?_
   .refine(O 5∘Lm g0) ?_;grind
   .refine(O 1∘Lm a) ?_;grind
  .rintro _ rfl
   have ao:Bz.takeS s (at_+512)=X (x.data,at_+512+Aim (Bz.packS x.data (CY x.data))):=by
    have h:=Ady (pre:=pre++CW (CM g0 48 (Aim x.data))) (suf:=Cx (Gj (Aim (Bz.packS x.data (CY x.data)))-Aim (Bz.packS x.data (CY x.data)))++suf) (s:=x.data) hx.data
    have e2:pre++CW (CM g0 48 (Aim x.data))++Bz.packS x.data (CY x.data)++(Cx (Gj (Aim (Bz.packS x.data (CY x.data)))-Aim (Bz.packS x.data (CY x.data)))++suf)=s:=by
     rw[e,hq];unfold Io;simp only[Cq]
    have e3:Aim (pre++CW (CM g0 48 (Aim x.data)))=at_+512:=by rw[BA,a7,N]
    rw[e2,e3]at h;exact h
   refine(O 5∘Zc (Adt s (at_+512) hs _ ao w8)) ?_;rintro _ w9⟨rfl,aj⟩;refine(O 14∘Cd 84∘O 6) ?_;have x8:Bf w1 w8:=xr.trans (Bv (o.trans C) a6 (o.trans C).size (by simp;have:=o.size;omega));have x9:=x8.trans aj;have cm:=nf x J J w9 (hG.ext (f.trans x9));rw[Q]at cm;simp only at cm;refine(Zc cm) ?_;rintro _ af⟨rfl,D⟩;refine(O 12∘Ig 94∘O 2) ?_;have ab:=zj s E af;rw[j]at ab;refine(Zc ab) ?_;rintro _ _⟨rfl,rfl⟩;refine(O 12) ?_;have n:=x9.trans D;have G:=I.ext n;refine(Zs G (hlt:=Bq _)) ?_;rintro wa a0 a5;refine(O 3) ?_;refine Gd<|NN Z underlying64 Z Hj Z Z Z (a0) Z ?_;exact⟨Z,Bv (f.trans n) a5 (f.trans n).size Bx⟩
end
end Go.Proofs.YtkmlafmjaeeanaaGreatDoor
