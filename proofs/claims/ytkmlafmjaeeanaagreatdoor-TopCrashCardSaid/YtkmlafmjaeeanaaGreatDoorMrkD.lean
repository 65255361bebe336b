/- TopCrash, part D: functions of blocks, streams, headers, records and the catalogue. -/
import Derived.Test.YtkmlafmjaeeanaaGreatDoorMrkC
set_option linter.all false
set_option maxHeartbeats 2000000
set_option maxRecDepth 20000
open Go Go.RowKit Go.Proofs.Tryz
open _root_ renaming rfl→Z,Nat→Y,Int→H,List→Ae,if_neg→Ag,if_pos→Ai,Array→Ap,Bool→Ar,congrArg→Av,Option→Aw,trivial→AB,UInt8→AH,absurd→AI,String→AJ,decide_eq_true→AL,decide_eq_false→AN,of_decide_eq_true→AO,dif_pos→AQ,of_decide_eq_false→AR
open _root_.And renaming intro→If
open _root_.Array renaming replicate→JX
open _root_.Bool renaming true→Af,false→Aj
open _root_.Go renaming World→Ad,Value→Ah,TypeId→Ay,Addr→AC,Program→AD,Act→AE,Operand→AF,Oper→AG,IntKind→AK,Code→AM,Exit→AP
open _root_.List renaming range→BF,replicate→BJ,length→DZ,Pairwise→HE,toArray→Li,length→Ajb
open _root_.Nat renaming blt→BL,beq→Jw,reducePow→WV
open _root_.Option renaming some→RZ,some→J,none→Aa
open _root_.UInt8 renaming ofNat→BU
namespace Go.Proofs.YtkmlafmjaeeanaaGreatDoor
section
attribute [local irreducible] OW KW QW EX GW NV
open Bz
def KB(l:Bj)(n:Y):Bj:=JW (BJ n 0) l
def OQ(l:Bj)(n:Y):Pl:=⟨[Gp (KB l n),Gp (KB l n)],BJ (grpN (Ajb l)) 0⟩
def uO(l:Bj)(n:Y)(hn:3<=n/\n<=258)(h1:1<=Ajb l)(h2:Ajb l<=1638350)(al:∀x∈l,x<n)(A:Aw AC)(c C:Y)(w:Ad)(hs:Sl w C A (BD .i64 l)):
 Bn prog 231 [.slice A (Ajb l) c,U (n:H)] w fun v w'=>(∃cs,v=.tuple #[.agg (Li cs),U ((0:Y):H)]/\Jl w' w.heap.size n (grpN (Ajb l)) cs (OQ l n))/\Bf w w':=by
 unfold OQ;have bb:=UP h1;have ba:grpN (Ajb l)<=32767:=by unfold grpN;omega
 refine Bw func231 Z ntmps231 Be Z ?_;refine(O 2∘Zn) ?_;rintro I w1 bl aj r;refine(O 7) ?_;have bm:=r.size;refine(Zc (kh l n hn h1 h2 al A c C w1 (hs.ext r))) ?_;rintro _ _⟨rfl,rfl⟩;refine(O 7) ?_;obtain⟨n1,n2⟩:=hn;refine(Gk) ?_;rintro h w2 bj bn ab;refine(O 9) ?_;have x2:=r.trans ab;have a7:=aj.ext ab;have bq:I≠h:=by have:=aj.lt;omega
 refine Lc (fun((a,wr):(Bj)×Ad)=>((Ajb a=n/\a=KB l n)/\Up (Ajb l) a/\Bk wr h 3 (BD .i64 a)/\Bf w wr/\Bk wr I 260 [.slice Aa 0 0,.slice Aa 0 0],[(0,.slice A (Ajb l) c),(4,.pointer (J ⟨I,0,Aa⟩)),(6,.slice (J ⟨h,0,Aa⟩) n n)],wr)) ?_ ?_
 .refine(O 1)<|Lo (fun((i,a,wr):Y×(Bj)×Ad)=>(i<=Ajb l/\(Ajb a=n/\a=JW (BJ n 0) (l.take i))/\Up i a/\Bk wr h 3 (BD .i64 a)/\Mo w2 wr [h],[(0,.slice A (Ajb l) c),(4,.pointer (J ⟨I,0,Aa⟩)),(6,.slice (J ⟨h,0,Aa⟩) n n),(20,.slice A (Ajb l) c),(21,U ((Ajb l:Y):H)),(22,U i)],wr,Ajb l-i)) (0,(BJ n 0),w2) ?_ ?_
  .exact⟨BE _,⟨Cq,Z⟩,fun x hx=>by grind,by rw[KF];omega,Mo.refl _ _⟩
  .rintro⟨i,a,wr⟩⟨hi,⟨D,m⟩,g,K,hm⟩;have xr:Bf w wr:=Bu x2 hm x2.size Bx;refine(O 5)<|Zi (fun hc=>?_) fun hc=>?_
   .obtain⟨b,f,rfl,_,bf⟩:=hs.intAt X;have p:=bf wr xr i hc;have a1:=al _ (BM hc);have d:=oF (row:=BJ n 0) hc;rw[<-m]at d;generalize l[i]=y at p a1 d;rw[CG X]at d;have hz:=g _ (BM (show y<Ajb a by omega));have ai:(BD .i64 a)[y]? =J (U ((a[y]:Y):H)):=by rw[Fx X,CG X]
    generalize a[y]=z at hz ai d;refine(O 6∘Zv (Ca p)∘O 6∘Zv (Bp K (hi:=ai))∘O 2∘Zt K (hlt:=by grind)) ?_;rintro w3 e a8;refine(O 6) ?_;replace e:Bk w3 h 3 (BD .i64 (a.set y (z+1))):=by rw[<-Iv];exact e
    refine Lb ((i+1),(a.set y (z+1)),w3) ?_;exact⟨hc,⟨Bg,d.symm⟩,Up.set (fun x hx=>TZ (g x hx)) X,e,hm.trans a8⟩
   .obtain rfl:i=Ajb l:=X;refine(O 1∘Lm (a,wr)) ?_;exact⟨⟨D,by rw[m,Dq (Bv _)];rfl⟩,g,K,xr,a7.mo hm Bg⟩
 .rintro⟨a,wr⟩⟨⟨D,m⟩,g,K,xr,E⟩;rw[<-m];have hf:=fun W (hb:Bk W h 3 (BD .i64 a))=>ux a X X (fun x hx=>BC (g x hx) X) (J ⟨h,0,Aa⟩) n _ W hb.sl;have bc:=gP (w:=a) X X;have a0:=Yz a;rw[D]at hf a0;generalize Gp a=fl at hf bc a0;refine(O 3∘Zc (hf wr K)) ?_;rintro _ w3⟨⟨u1,rfl,Q⟩,j⟩;refine(O 9) ?_;have e:=K.ext j;refine(Zc (hf w3 e)) ?_;rintro _ w4⟨⟨u2,rfl,P⟩,V⟩;refine(O 10) ?_;obtain⟨A1,c1,rfl,_,_⟩:=Q.sl;obtain⟨A2,c2,rfl,_,_⟩:=P.sl;refine Ku 2 Z Z underlying258 GV Z Z Z Z (by rfl) Bc ?_;rintro sb w5 bi a3 T;refine(O 2∘Zc (YL (Ajb l) X w5)) ?_;rintro _ _⟨rfl,rfl⟩;generalize grpN (Ajb l)=G at bb ba;refine(Gk) ?_;rintro kb w6 bh a9 S;refine(O 1) ?_;have L:=T.trans S;have N:=V.trans L;have x6:=j.trans N;have xw:=xr.trans x6;have a5:=E.ext x6
  have B:GF w6 (I+1) [.slice A1 (Ajb fl) c1,.slice A2 (Ajb fl) c2] [fl,fl]:=by
   have e0:GF w6 (I+1) [] []:=⟨Z,fun i hi=>by grind⟩;have ho:=E.lt;have h3:=j.size;exact(e0.snoc (Bo.more (CX.ext Q N) X)).snoc (Bo.more (CX.ext P L) X)
  have a2:=a3.ext S;refine(Zs a5) ?_;rintro w9 a6 o;refine(O 2) ?_;have h4:=V.size;have h3:=j.size;have h5:=T.size;have bs:=E.lt;have af:=a2.mo o Bx;have ao:=a9.mo o Bx;have a4:=B.mo o X;refine(DA a6) ?_;refine⟨⟨_,Z,⟨⟨Bi,Bi⟩,Bg,fun t ht=>?_,⟨n1,n2⟩,fun t ht=>?_,fun k hk=>?_⟩,Cq,fun W hW=>⟨_,2,_,G,_,by show _=[Value.slice _ 2 _,Value.slice _ (Ajb (BJ G 0)) _];rw[Cq];rfl,(af.of_block (hW sb X af.lt)).sl,(a4.keep fun u l' q=>Bo.Agx q fun k hk=>hW k (by have:=(q.lt k hk).1;omega) (q.lt k hk).2).rows,by show Sl _ _ _ (BD .i64 (BJ G 0));rw[KF];exact(ao.of_block (hW kb X ao.lt)).sl⟩⟩,Bu xw o xw.size Bx⟩
  .grind
  .grind
  .grind
def Jl.two{w:Ad}{e n m:Y}{d:Bm}{p:Pl}(h:Jl w e n m d p):∃a b,d=[a,b]/\a.oneCell'=Af/\b.oneCell'=Af:=by
 obtain⟨i,g,A1,k,A2,j,f,rfl,_⟩:=h.now;exact⟨_,_,Z,Z,Z⟩
def mV{p:Pl}{n:Y}(e:p.Ok n){l:Bj}(g:Ajb l<=1638350)(a:grpN (Ajb l)<=Ajb p.picks)(d:∀x∈l,x<n):Dj p l<=100000000:=by
 have h:=Vn p e;have f:=QZ p e l a d (Ajb l) (Bv _);rw[DV]at f;unfold Dj;omega
def mX(n:Y)(l:Bj)(d:Ajb l<=1638350)(a:∀x∈l,x<n)(e:Bm)(A:Aw AC)(c f:Y)(w:Ad)(p:Pl)(h:Jl w f n (grpN (Ajb l)) e p)(g:Sl w w.heap.size A (BD .i64 l)):
 Bn prog 232 [.agg e.toArray,.slice A (Ajb l) c] w fun v w'=>v=.tuple #[U ((Dj p l:Y):H),U ((0:Y):H)]/\Bf w w':=by
 obtain⟨k,j,i⟩:=h.now;exact Ack p n k l d (Oy j.symm) a _ e A c w i g (Bv _)
def Pt(l:Bj)(n:Y):Pl:=if Dj (OQ l n) l<Dj (KA l n) l then OQ l n else KA l n
def re(l:Bj)(n:Y)(hn:3<=n/\n<=258)(h1:1<=Ajb l)(B:Ajb l<=1638350)(e:∀x∈l,x<n)(A:Aw AC)(c C:Y)(I:Ajb l<=c)(w:Ad)(N:C<=w.heap.size)(Q:Sl w C A (BD .i64 l)):
 Bn prog 177 [.slice A (Ajb l) c,U (n:H)] w fun v w'=>(∃cs,v=.tuple #[.agg (Li cs),U ((0:Y):H)]/\Jl w' w.heap.size n (grpN (Ajb l)) cs (Pt l n))/\Bf w w':=by
 refine Bw func177 Z ntmps177 (by rfl) Z ?_;refine(O 2∘Zn) ?_;rintro ob w1 a6 q f;refine(O 6) ?_;have af:=f.size;refine(Zc (rN l n hn h1 B e A c C I w1 X (Q.ext f))) ?_;rintro _ w2⟨⟨cs,rfl,i⟩,aj⟩;refine(O 3) ?_;obtain⟨ca,cb,rfl,oa,a8⟩:=i.two;refine(Zn) ?_;rintro ab w3 a5 a3 E;refine(Zs a3) ?_;rintro V y ao;refine(O 8) ?_;replace y:Bk V ab 260 [ca,cb]:=y;have o:Bf w2 V:=Bu E ao E.size Bx;have k:=aj.trans o;refine(Cb 21∘O 6∘Zc (uO l n hn h1 B e A c C V (Q.ext (f.trans k)))) ?_;rintro _ w5⟨⟨bc,rfl,h⟩,ai⟩;refine(O 3) ?_;obtain⟨da,db,rfl,od,a7⟩:=h.two;refine(Zn) ?_;rintro bb w6 a4 a1 D;refine(Zs a1) ?_;rintro T t al;refine(O 4) ?_;replace t:Bk T bb 260 [da,db]:=t;have m:Bf w5 T:=Bu D al D.size Bx;have j:=ai.trans m;have x17:=k.trans j;have x7:=f.trans x17;have L:=y.ext j;refine(Zv (BW L)∘O 1∘Zc (mX n l B e _ A c _ T _ (i.ext (o.trans j)) ((Q.ext x7).more (BC N x7.size)))) ?_;rintro _ w8⟨rfl,a⟩;refine(O 8) ?_;have k2:=mV i.1 B (Oy i.2.1.symm) e;have k1:=mV h.1 B (Oy h.2.1.symm) e;have S:=x7.trans a;have K:=t.ext a;refine(Zv (BW K)∘O 1∘Zc (mX n l B e _ A c _ w8 _ (h.ext (m.trans a)) ((Q.ext S).more (BC N S.size)))) ?_;rintro _ w9⟨rfl,d⟩;refine(O 13) ?_;unfold Pt;generalize ba:Dj (KA l n) l=za at k2;generalize a9:Dj (OQ l n) l=zb at k1;have P:=S.trans d;have G:=q.ext ((x17.trans a).trans d);refine Zi (fun r=>?_) fun r=>?_
 .have a0:=K.ext d;refine(O 2∘Zv (BW a0)∘Zs G) ?_;rintro wa p g;refine(O 2∘DA p) ?_;have W:=(f.trans k).size;rw[Ai r];exact⟨⟨_,Z,((h.ext ((m.trans a).trans d)).mo g (by have:=q.lt;have:=k.size;omega)).low W⟩,Bu P g P.size Bx⟩
 .have a2:=(L.ext a).ext d;refine(O 3∘Zv (BW a2)∘Zs G) ?_;rintro wa p g;refine(O 2∘DA p) ?_;rw[Ag r];exact⟨⟨_,Z,((i.ext (((o.trans j).trans a).trans d)).mo g q.lt).low af⟩,Bu P g P.size Bx⟩
def bF:∀(gl row:Bj),Ajb (JW row gl)=Ajb row
 |[],row=>rfl
 |y::gl,row=>by
  show Ajb (JW (row.set y _) gl)=_;rw[bF gl,HH]
def oG:∀(gl row:Bj) (c:Y),Up c row->Up (c+Ajb gl) (JW row gl)
 |[],row,c,h=>h
 |y::gl,row,c,h=>by
  have e:c+Ajb (y::gl)=(c+1)+Ajb gl:=by rw[Cz];omega
  rw[e];refine oG gl (row.set y (row.getD y 0+1)) (c+1) (Up.set (fun x a=>TZ (h x a)) ?_);rw[Ck];rcases q:row[y]? with _|z
  .simp
  .exact Nat.succ_le_succ (h z (WI q))
def oH(a:Ae (Bj))(l:Bj)(n d t:Y):∀k,Ajb (wK a l n d k t)=n/\Up (50*k) (wK a l n d k t)
 |0=>⟨Cq,fun x hx=>by rw[dp hx];simp⟩
 |k+1=>by
  obtain⟨h1,h2⟩:=oH a l n d t k;have hg:Ajb (EA l k)<=50:=by unfold EA;rw[BZ];omega
  rw[wK];split
  .exact⟨by rw[bF];omega,fun x hx=>BC (oG _ _ _ h2 x hx) X⟩
  .exact⟨h1,fun x hx=>BC (h2 x hx) X⟩
def dT(tabs:Ae (Bj))(gl:Bj):∀t,JE tabs gl (t+1)<t+1
 |0=>by rw[dU];simp
 |t+1=>by
  rw[dV];split
  .simp
  .exact Nat.lt_succ_of_lt (dT tabs gl t)
def rM{l:Bj}{n:Y}(h:3<=n/\n<=258)(h1:1<=Ajb l)(v:grpN (Ajb l)<=32767):(KA l n).Ok n/\(KA l n).picks.length=grpN (Ajb l):=by
 obtain⟨q,p⟩:=jX (Ajb l);have r:=UP h1;have g:(KA l n).picks.length=grpN (Ajb l):=by unfold KA QV;rw[DF,Hp]
 have f:(KA l n).tabs.length=Gs (Ajb l):=nG _ _ _ _ _
 have mem:∀t∈(KA l n).tabs,Ajb t=n/\LOk t:=fun t a=>by
  obtain⟨i,_,rfl⟩:=Cr.1 a;obtain⟨o,d⟩:=oH (Ee l n (Gs (Ajb l)) (grpN (Ajb l)) 3) l n (Gs (Ajb l)) i (grpN (Ajb l));have:=jN (w:=wK (Ee l n (Gs (Ajb l)) (grpN (Ajb l)) 3) l n (Gs (Ajb l)) (grpN (Ajb l)) i) X X fun x a=>BC (d x a) X;grind
 refine⟨⟨X,X,fun t a=>(mem t a).1,h,fun t a=>(mem t a).2,fun k j=>?_⟩,g⟩;rw[f];obtain⟨i,_,rfl⟩:=Cr.1 (show k∈QV l n (Gs (Ajb l)) (grpN (Ajb l)) 3 from j);obtain⟨m,e⟩:∃m,Gs (Ajb l)=m+1:=⟨Gs (Ajb l)-1,X⟩;rw[e];exact dT _ _ m
def uv{l:Bj}{n:Y}(d:3<=n/\n<=258)(h1:1<=Ajb l)(h:grpN (Ajb l)<=32767):(OQ l n).Ok n/\(OQ l n).picks.length=grpN (Ajb l):=by
 have f:Ajb (KB l n)=n:=by unfold KB;rw[bF,Cq]
 have g:=UP h1;refine⟨⟨⟨by show 2<=2;omega,by show 2<=6;omega⟩,by show 1<=Ajb (BJ _ 0)/\Ajb (BJ _ 0)<=_;grind,fun t a=>?_,d,fun t a=>?_,fun k e=>?_⟩,Cq⟩
 .have:t=Gp (KB l n):=by simpa using(show t∈[Gp (KB l n),Gp (KB l n)]from a)
  rw[this,Yz];omega
 .have:t=Gp (KB l n):=by simpa using(show t∈[Gp (KB l n),Gp (KB l n)]from a)
  rw[this];exact gP X X
 .have:k=0:=(List.mem_replicate.1 e).2;subst this;show 0<2;simp
def zm{l:Bj}{n:Y}(a:3<=n/\n<=258)(h1:1<=Ajb l)(d:grpN (Ajb l)<=32767):(Pt l n).Ok n/\(Pt l n).picks.length=grpN (Ajb l):=by
 unfold Pt;split
 .exact uv a h1 d
 .exact rM a h1 d
end
section
attribute [local irreducible] OW KW QW EX GW NV
def oy(v n:Y)(hv:v<4294967296)(f:n<=64)(w:Ad):
 Bn prog 95 [.int .u32 v,U n] w fun r w'=>r=.int .u32 (Jj n v 0:Y)/\w=w':=by
 refine Bw func95 Z ntmps95 (by rfl) Z ?_;refine(O 15)<|Lo (fun((k,x,o):Y×Y×Y)=>(k<=n/\x<4294967296/\o<4294967296/\Jj (n-k) x o=Jj n v 0,[(0,.int .u32 x),(5,.int .u32 o),(6,U n),(7,U k)],w,n-k)) (0,v,0) ?_ ?_
 .grind
 .rintro⟨k,x,o⟩⟨g,d,e,a⟩;refine(O 5)<|Zi (fun h=>?_) fun h=>?_
  .refine(O 6) ?_;refine OW.val Z Z (by first|exact Ho (s:=1) (p:=2) (m:=4294967295) Z Z Bc Bc Z X|exact IH (s:=1) (p:=2) (m:=4294967296) Z Z Bc Bc Z Bc)<|(O 1∘Zv (by exact MU (b:=1) (j:=1) (p:=2) (m:=4294967295) Z Z Bc Bc Z X)∘Zv (by exact Oh (m:=4294967295) Z Z Z X)∘O 4∘Zv (by exact II (s:=1) (p:=2) Z Z Bc Bc)∘O 7)<|Lb ((k+1),(x/2),(o*2%4294967296|||x%2)) ?_
   exact⟨X,X,LZ (n:=32) X X,by
    rw[show n-k=(n-(k+1))+1 by omega]at a;exact a⟩
  .refine(O 6∘Br) ?_;obtain rfl:k=n:=X;rw[Fa]at a;exact⟨by rw[<-a];rfl,Z⟩
def NX:Bm:=BJ 256 (.int .u32 0)
def NT:TI prog 178 (.agg NX.toArray) 256 1024:=by unfold TI NX;kernel_rfl
def VO:Bm:=(BF 256).map fun i=>Value.int .u32 (Sq i:Y)
def aX(i:Y)(h:i<256):VO[i]? =J (.int .u32 (Sq i:Y)):=by simp[VO,h]
def Rs:Ajb VO=256:=by simp[VO]
def nF(w:Ad):Bn prog 94 [] w fun r w'=>r=.agg VO.toArray/\Bf w w':=by
 refine Bw func94 Z ntmps94 (by rfl) Z ?_;refine(O 2∘Zv (by exact EX.alloc (l:=NX) NT Z)∘O 3∘Zv (by exact EX.alloc (l:=NX) NT Z)∘O 7∘Cs 1 (.pointer (J ⟨w.heap.size+1,0,Aa⟩)) (e:=by simp))<|Lo (fun((k,l,wr):Y×(Bm)×Ad)=>(k<=256/\Ajb l=256/\(∀j,j<k->l[j]? =J (.int .u32 (Sq j:Y)))/\Bk wr (w.heap.size+1) 178 l/\Bk wr w.heap.size 178 NX/\Bf w wr,[(0,.pointer (J ⟨w.heap.size,0,Aa⟩)),(1,.pointer (J ⟨w.heap.size+1,0,Aa⟩)),(4,U k)],wr,256-k)) (0,NX,_) ?_ ?_
 .refine⟨X,Cq,fun j h=>absurd h X,?_,(Bk.new w _ _).alloc _,(Bf.alloc _ _).trans (Bf.alloc _ _)⟩;have:=Bk.new (w.alloc (.cells NX.toArray 178)) 178 NX;simp_all
 .rintro⟨k,l,wr⟩⟨K,I,C,d,f,x⟩;refine(O 5)<|Zi (fun h=>?_) fun h=>?_
  .refine(O 12) ?_;refine OW.val Z Z (by first|exact Ho (s:=24) (p:=16777216) (m:=4294967295) Z Z Bc Bc Z X|exact IH (s:=24) (p:=16777216) (m:=4294967296) Z Z Bc Bc Z Bc)<|(O 8)<|Lo (fun((m,r):Y×Y)=>(m<=8/\r<4294967296/\r=Sk m (k*16777216),[(0,.pointer (J ⟨w.heap.size,0,Aa⟩)),(1,.pointer (J ⟨w.heap.size+1,0,Aa⟩)),(2,U k),(3,.int .u32 r),(4,U k),(10,U m)],wr,8-m)) (0,(k*16777216)) ?_ ?_
   .exact⟨X,X,Z⟩
   .rintro⟨m,r⟩⟨G,E,a⟩;refine(O 5)<|Zi (fun D=>?_) fun D=>?_
    .refine(O 6∘Zv (by exact Wj (b:=2147483648) (m:=4294967295) Z Z Z X)∘O 2)<|Zi (fun t=>?_) fun t=>?_
     .refine(O 2) ?_;refine OW.val Z Z (by first|exact Ho (s:=1) (p:=2) (m:=4294967295) Z Z Bc Bc Z X|exact IH (s:=1) (p:=2) (m:=4294967296) Z Z Bc Bc Z Bc)<|(Zv (by exact Jr (b:=79764919) (m:=4294967295) Z Z Z X)∘O 7)<|Lb ((m+1),((r*2%4294967296) ^^^ 79764919)) ?_;refine⟨X,OA (n:=32) X X,?_⟩;rw[eU,<-a,Qx,Ai t]
     .refine(O 2) ?_;refine OW.val Z Z (by first|exact Ho (s:=1) (p:=2) (m:=4294967295) Z Z Bc Bc Z X|exact IH (s:=1) (p:=2) (m:=4294967296) Z Z Bc Bc Z Bc)<|(O 7)<|Lb ((m+1),(r*2%4294967296)) ?_;refine⟨X,X,?_⟩;rw[eU,<-a,Qx,Ag t]
    .refine(O 5) ?_;refine RY Z (RF LM Z Z Z (d) X)<|(O 6) ?_;obtain rfl:m=8:=X;refine Lb ((k+1),(l.set k (.int .u32 r)),_) ?_;refine⟨X,Bg,fun j B=>?_,d.set k _,f.far Bi _,Below.setCell x Bi _⟩;rcases Df j k with i|i
     .grind
     .obtain rfl:j=k:=X;rw[List.getElem?_set_self X,a];rfl
  .refine(O 3) ?_;obtain rfl:k=256:=X
   have o:l=VO:=by
    apply GZ;intro j;rcases Df j 256 with i|i
    .rw[C j i,aX j i]
    .rw[IN X,IN (by rw[Rs];omega)]
   subst o;refine(Zv (by exact Jp underlying178 Z NT Z d Rs)) ?_;refine WZ Z NT Z Z Rs (TG.2 fun v A=>by obtain⟨_,_,rfl⟩:=Cr.1 A;rfl) f Cq ?_;intro w' q y;refine(O 1) ?_;refine Gh<|retA Z Z underlying178 Z NT q Rs ?_;exact⟨Z,x.grown y (fun g y=>by grind)⟩
end
section
def vH{k:AK}{l:Bj}{i:Y}(h:i<Ajb l):(BD k l)[i]? =J (.int k (l[i]:Y)):=by simp[BD,h]
end
section
attribute [local irreducible] OW KW QW EX GW NV
def xN(r:Y)(q:r<4294967296)(s:Bh)(G:Ajb s<=1000000000)(w:Ad):
 Bn prog 181 [.int .u32 r,Bl s] w fun v w'=>v=.int .u32 (Nq r s:Y)/\Bf w w':=by
 refine Bw Bi Z ntmps181 (by rfl) Z ?_;refine(O 6∘Zc (nF w)) ?_;rintro _ D⟨rfl,a⟩;refine(Zn) ?_;rintro n C t j f;refine WZ Z NT Z Z Rs (TG.2 fun v o=>by obtain⟨_,_,rfl⟩:=Cr.1 o;rfl) j Bg ?_;intro l B i;refine(O 9) ?_;have E:=(a.trans f).grown i (fun g i=>by cases i;have:=a.size;omega);refine Lo (fun((k,x))=>(k<=Ajb s/\x<4294967296/\x=Nq r (s.take k),[(0,.int .u32 x),(1,Bl (s)),(5,.pointer (J ⟨n,0,Aa⟩)),(9,U (Ajb s:H)),(10,U k)],l,Ajb s-k)) (0,r) ?_ ?_
 .exact⟨X,q,Z⟩
 .rintro⟨k,x⟩⟨I,a,e⟩;refine(O 5)<|Zi (fun h=>?_) fun h=>?_
  .have A:=s[k].toNat_lt;have d:x/16777216 ^^^ s[k].toNat<256:=OA X A;have y:=XJ (x/16777216 ^^^ s[k].toNat);refine(O 10) ?_;refine OW.val Z Z (by first|exact Ho (s:=8) (p:=256) (m:=4294967295) Z Z Bc Bc Z X|exact IH (s:=8) (p:=256) (m:=4294967296) Z Z Bc Bc Z Bc)<|(O 1∘Zv (by exact II (s:=24) (p:=16777216) Z Z Bc Bc)∘O 4∘Zv (by exact Jr (m:=255) Z Z Z X)∘O 1∘Zv (Bp B (hi:=aX _ d))∘Zv (by exact Jr (m:=4294967295) Z Z Z X)∘O 7)<|Lb ((k+1),(OI x s[k].toNat)) ?_;exact⟨X,XF _ _,by rw[bd,rX,<-e]⟩
  .refine(O 6∘Br) ?_;grind
def Uu(s:Bh)(d:Ajb s<=1000000000)(w:Ad):
 Bn prog 132 [Bl s] w fun v w'=>v=.int .u32 (Ey s:Y)/\Bf w w':=by
 have e:=rW 4294967295 s X;refine Bw Bi Z ntmps132 (by rfl) Z ?_;refine(O 7∘Zc (xN 4294967295 X s d w)) ?_;rintro _ f⟨rfl,a⟩;refine(Zv (by exact cN (m:=4294967295) Z Z Z X)∘O 2∘Br) ?_;exact⟨Z,a⟩
def nw(l:Bj)(A:Aw AC)(c:Y)(hl:∀x∈l,x<4294967296)(k:Ajb l<=9223372036854775807)(w:Ad)(B:Y)(f:Sl w B A (BD .u32 l)):
 Bn prog 120 [.slice A (Ajb l) c] w fun r w'=>r=.int .u32 (Hh l:Y)/\w=w':=by
 refine Bw Bi Z ntmps120 (by rfl) Z ?_;refine(O 16)<|Lo (fun((i,x))=>(i<=Ajb l/\x<4294967296/\x=Hh (l.take i),[(3,.int .u32 x),(6,.slice A (Ajb l) c),(7,U (Ajb l:H)),(8,U i)],w,Ajb l-i)) (0,0) ?_ ?_
 .exact⟨X,X,Z⟩
 .rintro⟨i,x⟩⟨q,e,a⟩;refine(O 5)<|Zi (fun h=>?_) fun h=>?_
  .obtain⟨b,o,rfl,_,j⟩:=f.at_ (by rw[DO];omega);have d:=hl l[i] Bi;have g:(x*2%4294967296)|||x/2147483648<4294967296:=LZ (n:=32) X X
   refine(O 6∘Zv (Ca (j i _ (vH h)))∘O 5) ?_;refine OW.val Z Z (by first|exact Ho _ _ _ _ _ _|exact IH (p:=2) (m:=4294967296) Z Z Bc Bc Z Bc)<|(O 1∘Zv (by exact II (p:=2147483648) Z Z Bc Bc)∘Zv (by exact Oh (m:=4294967295) Z Z Z X)∘O 5∘Zv (by exact Jr (m:=4294967295) Z Z Z X)∘O 7)<|Lb ((i+1),(OJ x _)) ?_;exact⟨X,Ux _ _ d e,by rw[bd,sB,<-a]⟩
  .refine(O 6∘Br) ?_;grind
end
section
attribute [local irreducible] OW KW QW EX GW NV
open Bz
noncomputable def Da(s:Bh):Pl:=Pt (listOf (enc s)) (Ajb (used (enc s))+2)
def oE(t:Bh):Ajb (used t)<=256:=Afk t
def aU(u:Bh):Ajb (JU u)<=272:=by
 have h:∀l:Bj,Ajb (l.flatMap fun i=>if DM u i then Db u i else[])<=16*Ajb l:=fun l=>by
  induction l with
  |nil=>simp
  |cons i l ih=>
   rw[FZ,BA,Cz];split
   .rw[JR];omega
   .grind
 have:=h (BF 16);unfold JU;grind
def ad(s:Bh)(j:Ajb s<=100000):Qn s (Da s):=fun h=>by
 have a:=enc_ne h;have g:=enc_len (Ajb s) s (Bv _);obtain⟨d,i,_,_⟩:=listOf_len (enc s) a;have e:=VY a;have f:=oE (enc s);exact zm ⟨X,X⟩ d (by unfold grpN;omega)
def rr(s:Bh)(h0:s≠[])(i:Ajb s<=100000):Ajb (blkB s (Da s))<=90000000:=by
 have a:=enc_ne h0;have h:=enc_len (Ajb s) s (Bv _);obtain⟨k,j,f,_⟩:=listOf_len (enc s) a;obtain⟨d,e⟩:=ad s i h0;have m:=Vn _ d;have g:=QZ _ d (listOf (enc s)) (Oy e.symm) f (Ajb (listOf (enc s))) (Bv _);rw[DV]at g;have l:=aU (used (enc s));unfold blkB;simp only[BA,nb_length,Cz];omega
def eB(s:Bh)(a:Ajb s<=100000):Ajb (blocksB s (Da s))<=90000000:=by
 unfold blocksB;split
 .simp
 .rename_i h;exact rr s h a
def uy{α:Type}{l:Ae α}{L:Ae (Ae α)}(h:l∈L):Ajb l<=Ajb L.flatten:=by
 induction L with
 |nil=>grind
 |cons x L ih=>
  grind
def blk_s(s:Bh)(h0:s≠[])(hs:Ajb s<=100000)(w:Ad):
 Bn prog 131 [Bl s] w fun v w'=>(Qn s (Da s)/\v=.tuple #[.agg (Ec (blkB s (Da s))).toArray,U ((0:Y):H)])/\Bf w w':=by
 have d:=enc_ne h0;have b4:=enc_len (Ajb s) s (Bv _);have cm:=Qu s;refine Bw func131 Z ntmps131 Be Z ?_;refine(O 2∘Zn) ?_;rintro ob w1 cx b8 bq;refine(O 6∘Zv (by exact HC (r:=[]) Z Z)∘O 1∘Cb 21 (e:=h0)∘O 5∘Zc (Aan s X w1)) ?_;rintro _ w2⟨rfl,bn⟩;refine(O 9) ?_;have al:∀m:Pl,m.Ok (Ajb (used (enc s))+2)->Ajb m.picks=grpN (Ajb (listOf (enc s)))->Qn s m:=fun m a b _=>⟨a,b⟩;have a1:∀m,blkB s m=nb 48 54156738319193++(nb 32 (Ey s)++(Aj::(nb 24 (JS (GN (enc s)))++(JU (used (enc s))++(planBits m++Ev m (listOf (enc s))))))):=fun m=>rfl;have A:Da s=Pt (listOf (enc s)) (Ajb (used (enc s))+2):=rfl;generalize Da s=pS at A;generalize enc s=t at d b4 al a1 A;have hp:=ZX t d;obtain⟨l1,l2,l3,l4⟩:=listOf_len t d;obtain⟨r1,r2,r3⟩:=dS (ZR t) d;have b2:=VY d;have x:=oE t;refine(Cb 27∘O 5∘Zc (uC t d X w2)) ?_;rintro _ w3⟨rfl,bm⟩;refine(O 14∘Cb 36∘O 5∘Zc (of_s t X w3)) ?_;rintro _ w4⟨rfl,bl⟩;refine(O 6) ?_;have c2:Ajb (Gd t (GN t))=Ajb t:=r2;refine(Zc (uG _ _ _ X x (used_may d) hp.front w4)) ?_;rintro _ w5⟨⟨x5,rfl,o5⟩,bj⟩;refine(O 12) ?_;obtain⟨A5,c5,rfl,_,a6⟩:=o5.sl;refine(Cb 48∘O 7) ?_;have c1:=hp.len;refine(Zc (Age (Ajb (used t)) ⟨b2,x⟩ _ X hp.lt A5 c5 _ w5 a6)) ?_;rintro _ w6⟨⟨x6,rfl,o6⟩,bi⟩;refine(O 12) ?_;have a7:CX w6 w5.heap.size x6 (listOf t):=o6;obtain⟨A6,c6,rfl,cn,S⟩:=a7.sl;refine(Cb 59∘O 8∘Zc (re (listOf t) (Ajb (used t)+2) ⟨X,X⟩ l1 X l3 A6 c6 _ cn w6 (Bv _) S)) ?_;rintro _ w7⟨⟨cs,rfl,a0⟩,ai⟩;refine(O 3) ?_;obtain⟨ca,cb,rfl,oa,c0⟩:=a0.two;refine(Zn) ?_;rintro pb w8 cw b5 af;refine(Zs b5) ?_;rintro g n ch;refine(O 8) ?_;replace n:Bk g pb 260 [ca,cb]:=n;have p:Bf w7 g:=Bu af ch af.size Bx;refine(Cb 71∘O 4∘Zc (Pk g)) ?_;rintro _ wa⟨E,rfl,b1,f⟩;refine(O 5∘Zc (GQ g.heap.size E [] 54156738319193 48 Bc Bc Bc Bc wa b1)) ?_;rintro _ wc⟨rfl,b0,Q⟩;refine(O 5∘Zc (Uu s X wc)) ?_;rintro _ wd⟨rfl,i⟩;refine(O 1∘Zc (GQ g.heap.size E _ (Ey s) 32 X Bc cm (by rw[EP,nb_length];decide) wd (b0.ext i))) ?_;rintro _ we⟨rfl,bx,te⟩;refine(O 4∘Zc (GQ g.heap.size E _ 0 1 Bc Bc Bc (by simp only[BA,nb_length,EZ];decide) we bx)) ?_;rintro _ wf⟨rfl,bs,tf⟩;refine(O 6) ?_;have aj:JS (GN t)<16777216:=X;refine(Zc (GQ g.heap.size E _ (JS (GN t)) 24 X Bc aj (by simp only[BA,nb_length,EZ];decide) wf bs)) ?_;rintro _ wg⟨rfl,q,tg⟩;refine(O 4) ?_;have P:Bf w1 g:=(((((bn.trans bm).trans bl).trans bj).trans bi).trans ai).trans p;have cz:=P.size;have a4:Bf g wg:=tg.below (tf.below (te.below ((Q.below f f.size (Bv _)).trans (i.mono (BC f.size Q.size))) (BC f.size (BC Q.size i.size)) (Bv _)) (BC f.size (BC Q.size (BC i.size te.size))) (Bv _)) (BC f.size (BC Q.size (BC i.size (BC te.size tf.size)))) (Bv _);obtain⟨G,q2,q3⟩:=(a0.ext p).now;rw[<-A]at G q2 q3;generalize a2:[]++nb 48 54156738319193++nb 32 (Ey s)++nb 1 0++nb 24 (JS (GN t))=HW at q;have c3:Ajb HW=105:=by rw[<-a2];simp only[BA,nb_length,EZ]
 refine(Zc (NW g.heap.size E _ wg q)) ?_;rintro _ _⟨rfl,rfl⟩;refine(O 1∘Zc (MQ g.heap.size E _ wg q)) ?_;rintro _ _⟨rfl,rfl⟩;refine(O 1∘Zn) ?_;rintro hb wh cv cl ab;refine(Zs cl) ?_;rintro wi D cg;refine(O 4) ?_;replace D:Bk wi hb 226 (Ec HW):=D;have a3:Bf wg wi:=Bu ab cg ab.size Bx;refine(Zc (Acz (used t) x (used_may d) wi)) ?_;rintro _ wj⟨rfl,bh⟩;refine(O 3∘Zn) ?_;rintro a8 wk cu b9 W;refine(Zs b9) ?_;rintro wl B cf;refine(O 4) ?_;replace B:Bk wl a8 226 (Ec (JU (used t))):=B;have K:Bf wi wl:=bh.trans (Bu W cf W.size Bx);have k:=(a4.trans a3).trans K;refine(Zv (BW (n.ext k))∘Zc (jm pS _ G _ _ wl (q3.ext k) k.size)) ?_;rintro _ wm⟨rfl,bf⟩;refine(O 3∘Zn) ?_;rintro a5 wn ct b3 V;refine(Zs b3) ?_;rintro wo y ce;refine(O 4) ?_;replace y:Bk wo a5 226 (Ec (planBits pS)):=y;have o:Bf wl wo:=bf.trans (Bu V ce V.size Bx);have h:=k.trans o;refine(Zv (BW (n.ext h))∘O 1) ?_;have L:Bf w6 g:=ai.trans p;refine(Zc (jh pS _ G (listOf t) X (Oy q2.symm) l3 _ _ A6 c6 wo (q3.ext h) (((S.ext L).more L.size).ext h) h.size)) ?_;rintro _ wp⟨rfl,bc⟩;refine(O 3∘Zn) ?_;rintro a9 wq cr ck T;refine(Zs ck) ?_;rintro wr C cd;refine(O 4) ?_;replace C:Bk wr a9 226 (Ec (Ev pS (listOf t))):=C;have j:Bf wo wr:=bc.trans (Bu T cd T.size Bx);refine(Zv (BW (((D.ext K).ext o).ext j))∘Zv (BW ((B.ext o).ext j))∘Zv (BW (y.ext j))∘Zv (BW C)) ?_;refine Mb 4 ([Ec HW,Ec (JU (used t)),Ec (planBits pS),Ec (Ev pS (listOf t))]) Z Z underlying227 GU Z Bc Z Z Z Bi Bc ?_;rintro eb ws cq co bb;have k1:=Vn pS G;have k2:=QZ pS G (listOf t) (Oy q2.symm) l3 (Ajb (listOf t)) (Bv _);rw[DV]at k2;have k3:=aU (used t)
 have ao:[HW,JU (used t),planBits pS,Ev pS (listOf t)].flatten=blkB s pS:=by
  rw[a1,<-a2,show nb 1 0=[Aj]from Z];simp only[PZ,List.flatten_nil,List.append_nil,EP,Cx,RU,Gi]
 have cp:Ajb (blkB s pS)<=100000000:=by
  rw[<-ao];simp only[PZ,List.flatten_nil,BA,EZ];omega
 have cj:=Ny [HW,JU (used t),planBits pS,Ev pS (listOf t)] (fun l hl=>by
  simp only[List.mem_cons,List.not_mem_nil,or_false]at hl;rcases hl with rfl|rfl|rfl|rfl<;>omega) Bi Bg (J ⟨eb,0,Aa⟩) 4 _ ws co.sl
 rw[ao]at cj;refine(Zc cj) ?_;rintro _ wt⟨rfl,ba⟩;refine(O 2) ?_;have N:Bf w1 wt:=(((P.trans (h.trans j))).trans bb).trans ba;have b7:=b8.ext N;refine(Zs b7) ?_;rintro wu b6 cc;refine(O 2) ?_;have I:=bq.trans N;refine(DA b6) ?_;exact⟨⟨al pS G q2,Z⟩,Bu I cc I.size Bx⟩
end
section
open Fld Ust Pax Pth Tar
def Ir(s:Bh):Bh:=s++Cu (Gn (Ajb s)-Ajb s)
def UM(s:Bh):Ajb (Ir s)=Gn (Ajb s):=by
 have:=Yq (Ajb s);unfold Ir;rw[BA,Cu,Cq];omega
def Lx(x:En):Bh:=if(BP x.path).2.2=Af then CY (CL x.path 48 (Ajb x.data))else FW Hk 120 (Du ⟨Em,x.path⟩)++CY (CL (x.path.take 100) 48 (Ajb x.data))
def tR(x:En):JM x=Lx x++Ir x.data:=by
 unfold JM Lx Ir;split
 .unfold FW;simp
 .unfold FW;simp
noncomputable def Cl(x:En):Bh:=Lx x++Ir (Bz.packS x.data (Da x.data))
noncomputable def NA(x:En):Bh×Y:=if Cw x.path≠0 then([],140)else if 8192<Ajb x.data then([],3)else(Cl x,0)
structure Fits(x:En):Prop where
 path:Cw x.path=0
 data:Ajb x.data<=8192
def lY{s:Bh}(h:Ajb s<=120):1<=Ajb (Du ⟨Em,s⟩)/\Ajb (Du ⟨Em,s⟩)<=512:=by
 have a:=Pp h;have f:=an a;have e:=SC _ a;have d:Dj _=JH _+rest ⟨Em,s⟩:=rfl;omega
def lz{s:Bh}(h:Ajb s<=120):Ajb (FW Hk 120 (Du ⟨Em,s⟩))=1024:=by
 have a:=lY h;rw[aJ (YK X)];unfold Gn;omega
def YQ{x:En}(h:Fits x):Ajb (Lx x)=if(BP x.path).2.2=Af then 512 else 1536:=by
 have a:Ajb x.data<=262144:=by have:=h.data;omega
 unfold Lx;split
 .rename_i q;exact(YJ h.path a q).len
 .rw[BA,lz (Qv h.path).2.2.1,(YI h.path a).len]
def ZV{s:Bh}(h:Ajb s<=8192):10<=Ajb (Bz.packS s (Da s))/\Ajb (Bz.packS s (Da s))<=12000000:=by
 have:=eB s X;unfold Bz.packS;rw[Bz.pack_length,Bz.streamB_length];omega
def JN{x:En}(h:Fits x):Ajb (Cl x)%512=0/\1024<=Ajb (Cl x)/\Ajb (Cl x)<=13000000:=by
 have d:=YQ h;have a:=ZV h.data;unfold Cl;rw[BA,UM];unfold Gn;grind
def jW{x:En}(h:Fits x):NA x=(Cl x,0):=by
 have:=h.data;unfold NA;rw[Ag (by rw[h.path];simp),Ag X]
def Ly(s:Bh)(k:Y):Hd×Ar:=if Ajb s<512 then(IU,Aj)else((Hi (s.take 512)).1,decide ((Hi (s.take 512)).2=0) && decide ((Hi (s.take 512)).1.kind=k))
def YR{p:Bh}{k n:Y}(g:Tar.Good p k n)(b:Bh)(j:Y):Ly (CY (CL p k n)++b) j=(CL p k n,decide (k=j)):=by
 have a:=g.len;unfold Ly;rw[Ag Bg,Hr a,g.dec];rfl
def Aeg{pre suf s:Bh}(h:Ajb s<=8192):Bz.takeS (pre++Bz.packS s (Da s)++suf) (Ajb pre)=J (s,Ajb pre+Ajb (Bz.packS s (Da s))):=
 Bz.takeS_pack (ad s X) h pre suf
end
section
attribute [local irreducible] OW KW QW EX GW NV
open Bz
def bU{n most M:Y}:∀(l out:Bj) (run w:Y) (ps:Bj),(∀x∈out,x<=M)->(∀x∈l,x<=M)->Fp n most out run w l=J ps->∀x∈ps,x<=M
 |[],out,run,w,ps,_,_,h=>by rw[Fp]at h;cases h
 |s::l,out,run,w,ps,ho,hl,h=>by
  have hl2:=fun x a=>hl x (FO _ a)
  have d:∀x∈out++BJ run 0,x<=M:=fun x a=>by
   grind
  rw[Fp]at h;split at h
  .cases h
  .split at h
   .split at h
    .cases h
    .exact bU l _ _ _ ps ho hl2 h
   .split at h
    .grind
    .split at h
     .cases h
     .refine bU l _ _ _ ps (fun x a=>?_) hl2 h;rcases Dx.1 a with z|z
      .grind
      .simp_all;omega
def XP:∀(l:Bh) (same:Y) (out:Bh),(dec same out l).2=0∨(1<=(dec same out l).2/\(dec same out l).2<=30)
 |[],same,out=>by
  rw[dec];grind
 |x::r,same,out=>by
  rw[dec];split
  .split
   .exact .inr ⟨by show 1<=3;decide,by show 3<=30;decide⟩
   .exact XP r _ _
  .split
   .exact .inr ⟨by show 1<=3;decide,by show 3<=30;decide⟩
   .exact XP r _ _
def Agb(n most:Y)(hn:1<=n/\n<=256)(hm:most<=262144)(l:Bj)(hl:Ajb l<=1000000000)(hp:∀p∈l,p<=1000000000)(A:Aw AC)(c C:Y)(w:Ad)(hs:Sl w C A (BD .i64 l)):
 Bn prog 206 [U (n:H),U (most:H),.slice A (Ajb l) c] w fun v w'=>(∃u p,∃e:Y,v=.tuple #[u,U (e:H)]/\CX w' w.heap.size u p/\((e=0/\Fp n most [] 0 1 l=J p/\Ajb p<=most)∨(GX e/\Fp n most [] 0 1 l=Aa)))/\Bf w w':=
 (Aga n most hn hm l hl hp A c C w hs).mono fun v w'⟨h,x⟩=>by
  refine⟨?_,x⟩;rcases h with⟨u,p,h1,h2,h3,h4⟩|⟨h1,e,h2,h3⟩
  .grind
  .exact⟨_,[],e,h3,CX.nil _ _,.inr ⟨h2,h1⟩⟩
def Afh{u:Bh}{l:Bj}{row most:Y}(h:Fp (Ajb u) most [] 0 1 l=Aa):JV u l row most=Aa:=by unfold JV;rw[h]
def Aff{u:Bh}{l ps:Bj}{row most:Y}(h:Fp (Ajb u) most [] 0 1 l=J ps):JV u l row most=match GI u ps with
 |none=>Aa
 |some c=>if row<Ajb c then(if(dec 0 [] (back c row)).2=0 then J (dec 0 [] (back c row)).1 else Aa)else Aa:=by unfold JV;grind
def qW(L:Bh)(row:Y):Ajb (back L row)=Ajb L:=Xn _ _ _ _
def Afi(u:Bh)(hu:1<=Ajb u/\Ajb u<=256)(m:Pf u)(l:Bj)(hl:Ajb l<=2000000)(L:∀x∈l,x<=1000)(row most:Y)(hr:row<=1000000000)(hm:most<=262144)(A:Aw AC)(c C:Y)(w:Ad)(hs:Sl w C A (BD .i64 l)):
 Bn prog 163 [Bl u,.slice A (Ajb l) c,U (row:H),U (most:H)] w fun v w'=>(∃t,∃e:Y,v=.tuple #[Bl t,U (e:H)]/\((e=0/\JV u l row most=J t)∨(GX e/\JV u l row most=Aa)))/\Bf w w':=by
 refine Bw func163 Z ntmps163 (by rfl) Z ?_;refine(O 11∘Zc (Agb (Ajb u) most hu hm l X (fun x hx=>by grind) A c C w hs)) ?_;rintro _ D⟨⟨x1,g,e1,rfl,o1,r⟩,k⟩;refine(O 12)<|Zi (fun S=>?_) fun S=>?_
 .rcases r with⟨rfl,_⟩|⟨i,T⟩
  .exact AI Z S
  .refine(O 6∘BG) ?_;exact⟨⟨[],e1,Z,.inr ⟨i,Afh T⟩⟩,k⟩
 .rcases r with⟨rfl,i,T⟩|⟨i,T⟩
  .have f:=Aff (row:=row) i;have ab:=bU l [] 0 1 g Bi L i;obtain⟨A1,c1,rfl,_,E⟩:=o1.sl
   have c2:Bn prog 207 [.slice A1 (Ajb g) c1,Bl u] D fun v w'=>(∃x,∃e:Y,v=.tuple #[Bl x,U (e:H)]/\((e=0/\GI u g=J x)∨(GX e/\GI u g=Aa)))/\Bf D w':=
    (Abv g u X (fun x hx=>by grind) hu.2 m A1 c1 _ D E).mono fun v w'⟨h,x⟩=>by
     grind
   refine(O 5∘Zc c2) ?_;rintro _ B⟨⟨a,e2,rfl,p⟩,K⟩;refine(O 12) ?_;have x2:=k.trans K;refine Zi (fun Q=>?_) fun Q=>?_
   .rcases p with⟨rfl,_⟩|⟨j,W⟩
    .exact AI Z Q
    .rw[W]at f;refine(O 6∘BG) ?_;grind
   .rcases p with⟨rfl,j⟩|⟨j,W⟩
    .rw[j]at f;simp only at f;have af:=dR g u a j
     have c3:Bn prog 208 [Bl a,U (row:H)] B fun v w'=>(∃x,∃e:Y,v=.tuple #[Bl x,U (e:H)]/\((e=0/\row<Ajb a/\x=back a row)∨(GX e/\¬row<Ajb a)))/\Bf B w':=
      (qX a row X hr B).mono fun v w'⟨h,x⟩=>by
       refine⟨?_,x⟩;rw[h];by_cases q:row<Ajb a
       .grind
       .rw[Ag q];exact⟨[],50,Z,.inr ⟨⟨Bc,Bc⟩,q⟩⟩
     refine(O 5∘Zc c3) ?_;rintro _ w3⟨⟨tx,e3,rfl,o⟩,I⟩;refine(O 12) ?_;have x3:=x2.trans I;refine Zi (fun P=>?_) fun P=>?_
     .rcases o with⟨rfl,_⟩|⟨y,V⟩
      .exact AI Z P
      .rw[Ag V]at f;refine(O 6∘BG) ?_;grind
     .rcases o with⟨rfl,y,rfl⟩|⟨y,V⟩
      .rw[Ai y]at f;have N:Ajb (back a row)<=1000000000:=by rw[qW];omega
       have n:=XP (back a row) 0 [];refine(O 4∘Zc (Aal (back a row) N w3)) ?_;rintro _ w4⟨rfl,G⟩;refine(O 5) ?_;generalize dec 0 [] (back a row)=d at f n;refine(BG) ?_;refine⟨⟨d.1,d.2,Z,?_⟩,x3.trans G⟩;rcases n with z|⟨z1,z2⟩
       .grind
       .rw[Ag X]at f;exact .inr ⟨⟨z1,X⟩,f⟩
      .exact AI (Dk.1 P) (by have:=y.1;omega)
    .exact AI (Dk.1 Q) (by have:=j.1;omega)
  .exact AI (Dk.1 S) (by have:=i.1;omega)
def va(m:Y)(p0 p1 g f:Ah)(w:Ad):CallsDIn Fence.wide m prog 195 #[p0,p1,g,f] .returning w fun e u' w'=>e=.returned (.tuple #[])/\u'=.returning/\w'=w:=by
 refine callsDIn_of_wpSIn func195 Z AB fun n o j=>?_;have a:recoverD (n::o)=Aa:=by simp[recoverD,j]
 have k:Fr 20 (Ln 0 [p0,p1,g,f]) { tmps:=#[p0,p1,g,f]++JX 16 undef,defers:=[] }:=Fr.start [p0,p1,g,f] 16;refine wpSIn_seq (wpSIn_region ?_);refine Afm (i:=0) (rest:=[1]) Z a ?_;refine bG (k.put Z _) Z (CI Z) ?_;have h:=(k.put (d:=7) Z .nilIface).put (d:=4) Z .nilIface;refine wpSIn_seq (wpSIn_region ?_);refine bG (i:=0) (rest:=[1]) h Z (EX.move Z) ?_;refine bG (i:=1) (rest:=[]) (h.put Z _) Z (py (fun d=>by simp[Op.equalIn,run_underlying underlying20,Sem.run_bind]) Z) ?_;have l:=((h.put (d:=8) Z .nilIface).put (d:=9) Z (.bool Aj));refine wpSIn_cond (t:=Aj) (l.ev (x:=.tmp 9) Z) ?_;refine wpSIn_of_wpIn Z (wpIn_skip ?_);exact⟨Z,.returning,by rw[<-j],.tuple #[],results_none (by rfl) _ _ _,Z,Z,Z⟩
def UQ(d a D:Y)(s:Bh)(p n:Y)(h:n<=64)(g:p+n<=8*Ajb s)(j:Ajb s<=1000000000)(w:Ad)(k:Bk w d 253 [.pointer (J ⟨a,0,Aa⟩)])(f:RdAt w D a s p):
 Bn prog 196 [U (n:H),.pointer (J ⟨d,0,Aa⟩)] w fun v w'=>v=.int .u64 ((num (BX s p n):Y):H)/\RdAt w' D a s (p+n)/\Tm w w' D Ja:=by
 have e:=MM D a s p n h X X w f;rw[Ra g]at e;refine Bw func196 Z ntmps196 (by rfl) Z ?_;refine(O 8∘Zc e) ?_;rintro _ i⟨rfl,m,l⟩;refine(O 12∘Cb 13∘O 7∘Br) ?_;grind
def kF(w:Ad):Bn prog 197 [.bool Af] w fun v w'=>v=.tuple #[]/\w=w':=by
 refine Bw func197 Z ntmps197 (by rfl) Z ?_;refine(O 7) ?_;refine KW.done<|HX Z ?_;simp
def vi(s:Bh)(p:Y)(hp:p+105<=8*Ajb s)(hs:Ajb s<=1000000000)(h1:num (BX s p 48)=54156738319193)(h2:Cp s (p+80)=Aj)(w:Ad):
 Bn prog 159 [Bl s,U (p:H)] w fun v w'=>v=.tuple #[.int .u32 ((num (BX s (p+48) 32):Y):H),U ((num (BX s (p+81) 24):Y):H),U ((p+105:Y):H),U ((0:Y):H)]/\Bf w w':=by
 refine Sc 3 func159 Z ntmps159 Be Z ?_;refine BS<|KR.region<|JA (l:=[.int .u32 0]) Z Z LM Z ?_;rintro a1 w1 b7 a7 ab;refine JA (l:=[U 0]) Z Z BV Z ?_;rintro a2 w2 b6 a6 E;refine JA (l:=[U 0]) Z Z BV Z ?_;rintro a3 w3 b5 a5 y;refine JA (l:=[U 0]) Z Z VS Z ?_;rintro a4 A b4 bs j;refine OR.nil<|BS<|KR.region<|OR.val Z Z (Gf Z Z)<|qi Z Z Z<|OR.nil<|BS<|KR.region<|OR.val Z Z (EX.move Z)<|OR.val Z Z (EX.move Z) ?_;have x4:=((ab.trans E).trans y).trans j;refine OR.call Z Z Z (Pj s p X X A) ?_;rintro _ w5⟨P,rfl,G,a8⟩;refine JA (l:=[.pointer Aa]) Z Z bw Z ?_;rintro cb w6 b3 bq W;refine JB Z bw Z Z (by first|rfl|assumption|exact Bo.one Ce) (bq) Bi ?_;rintro w7 I bi;refine OR.nil<|BS<|BS<|KR.region ?_;have S:Bf w5 w7:=Bu W bi W.size Bx;have V:=a8.trans S;have bh:=G.ext S;refine OR.val Z Z (Ci underlying253 Z Z (I.cell_of Z))<|OR.val Z Z (by first|exact cE underlying253 Z Z|exact cD underlying253 Z Z)<|OR.nil<|RJ Z<|KR.skip<|BS<|KR.region<|OR.val Z Z (Gf Z Z)<|OR.val Z Z (CI Z)<|OR.nil<|BS<|KR.region<|OR.val Z Z (CI Z)<|OR.nil<|BS<|KR.region<|OR.val Z Z (EX.move Z)<|OR.val Z Z (EX.move Z)<|Ql Z Z Z Z Z (UQ cb P A.heap.size s p 48 Bc X hs w7 I bh) ?_;rintro _ w8⟨rfl,bf,t8⟩;refine OR.val Z Z (by first|exact Ob (b:=54156738319193) Z Z|exact Oc Z Z)<|OR.as 23 (.bool Af) Z (Av Value.bool (AL (h1)))<|Ql Z Z Z Z Z (kF w8) ?_;rintro _ _⟨rfl,rfl⟩;refine OR.nil<|BS<|KR.region<|OR.val Z Z (EX.move Z) ?_;have z1:=ab.size;have z2:=E.size;have z3:=y.size;have z4:=j.size;have l1:=a7.lt;have l2:=a6.lt;have l3:=a5.lt;have T:Bf A w8:=t8.below V V.size (Bv _);have a0:=t8.bk I Z;have b9:=Ky s (p+48) 32;refine Ql Z Z Z Z Z (UQ cb P A.heap.size s (p+48) 32 Bc X hs w8 a0 bf) ?_;rintro _ w9⟨rfl,bc,t9⟩;refine OR.val Z Z (by first|exact LP (m:=4294967295) underlying211 underlying58 Z Z X|exact MR (m:=4294967296) underlying211 underlying58 Z Z Bc|exact EX.convZ underlying211 underlying58 Z) ?_;have h:Bf A w9:=t9.below T T.size (Bv _);have ao:=t9.bk a0 Z;have g:=(((a7.ext E).ext y).ext j).ext h;refine JB Z LM Z Z (by first|rfl|assumption|exact Bo.one Ce) (g) Bi ?_;rintro wa bx e;refine OR.nil<|BS<|KR.region<|OR.val Z Z (EX.move Z)<|OR.val Z Z (EX.move Z) ?_;have al:=ao.mo e (by simpa using ao.ne g Bc);have bb:=bc.tm (Tm.set g e (BE a1)) Z Z
 have b2:num (BX s (p+48+32) 1)=0:=by
  have:=SU (s:=s) (p:=p+48+32) X;rw[Ra X]at this;injection this with this _;rw[this,show p+48+32=p+80 by omega,h2];rfl
 refine Ql Z Z Z Z Z (UQ cb P A.heap.size s (p+48+32) 1 Bc X hs wa al bb) ?_;rintro _ wb⟨rfl,ba,L⟩;refine OR.val Z Z (by first|exact Ob (b:=0) Z Z|exact Oc Z Z)<|OR.as 31 (.bool Af) Z (Av Value.bool (AL (b2)))<|Ql Z Z Z Z Z (kF wb) ?_;rintro _ _⟨rfl,rfl⟩;refine OR.nil<|BS<|KR.region<|OR.val Z Z (EX.move Z) ?_;have aj:=L.bk al Z;have ca:=Ky s (p+48+32+1) 24;refine Ql Z Z Z Z Z (UQ cb P A.heap.size s (p+48+32+1) 24 Bc X hs wb aj ba) ?_;rintro _ wc⟨rfl,a9,K⟩;refine OR.val Z Z (by first|exact LP (m:=9223372036854775807) underlying211 underlying3 Z Z X|exact EX.convZ underlying211 underlying3 Z) ?_;have ai:=K.bk aj Z;have b8:=(Tm.set g e (BE a1));have t:Bk wc a2 3 [U 0]:=K.bk (L.bk ((((a6.ext y).ext j).ext h).mo e Bx) Z) Z;refine JB Z BV Z Z (by first|rfl|assumption|exact Bo.one Ce) (t) Bi ?_;rintro D f i;refine OR.nil<|BS ?_;replace f:Bk D a2 3 [U ((num (BX s (p+48+32+1) 24):Y):H)]:=f;have x:Bk D a1 58 [.int .u32 ((num (BX s (p+48) 32):Y):H)]:=(K.bk (L.bk bx Z) Z).mo i Bx;have r:=ai.mo i (by simpa using ai.ne t Bc);have C:Bk D a3 3 [U 0]:=(K.bk (L.bk (((a5.ext j).ext h).mo e Bx) Z) Z).mo i Bx;have B:Bk D a4 34 [U 0]:=(K.bk (L.bk ((bs.ext h).mo e Bx) Z) Z).mo i Bx;have G:=a9.tm (Tm.set t i (BE a2)) Z Z;refine dh (N:=8) (fun w'=>Bk w' a1 58 [.int .u32 ((num (BX s (p+48) 32):Y):H)]/\Bk w' a2 3 [U ((num (BX s (p+48+32+1) 24):Y):H)]/\Bk w' cb 253 [.pointer (J ⟨P,0,Aa⟩)]) Be Z ?_;have d:=If x.drew (If f.drew r.drew);refine(Gv [0,1,2]∘Yc 3 (SS A.heap.size P s _ _ (G.ext (Bf.drew D)))) ?_;rintro _ _⟨rfl,rfl⟩;refine⟨d,fun d=>?_⟩;refine(Yt 4 x.drew) ?_;rintro we bn q;refine⟨⟨bn,d.2.1.mo q Bx,d.2.2.mo q (by simpa using r.ne x Bc)⟩,fun d=>?_⟩;refine(Yt 5 d.2.1) ?_;rintro wf bm o;refine⟨⟨d.1.mo o Bx,bm,d.2.2.mo o (by simpa using r.ne f Bc)⟩,fun d=>?_⟩;have b1:=(C.drew.mo q Bx).mo o Bx;refine(Yt 6 b1) ?_;rintro wg bl n;refine⟨⟨d.1.mo n Bx,d.2.1.mo n Bx,d.2.2.mo n (by simpa using r.ne C Bc)⟩,fun d=>?_⟩;have b0:=((B.drew.mo q Bx).mo o Bx).mo n Bx;refine(Yt 7 b0) ?_;rintro wh bj k;refine⟨⟨d.1.mo k Bx,d.2.1.mo k Bx,d.2.2.mo k (by simpa using r.ne B Bc)⟩,fun d=>?_⟩;refine(Yd) ?_;refine LN ?_;have af:=bl.mo k Bx;refine Kf<|Aaa func195 Z (.inr Z) Z Z (fun a ha=>Abm Z underlying58 Z underlying3 Z underlying3 Z underlying34 Z Z Z Z Z d.1 d.2.1 af bj a ha) (va _ _ _ _ _ _) ?_;have xa:Bf w wa:=Bu (x4.trans h) e (x4.trans h).size Bx;have xb:Bf w wb:=L.below xa xa.size x4.size;have xc:Bf w wc:=K.below xb xb.size x4.size;have xd:Bf w D:=Bu xc i xc.size Bx;have Q:=xd.trans (Bf.drew D);have xe:Bf w we:=Bu Q q Q.size Bx;have xf:Bf w wf:=Bu xe o xe.size Bx;have xg:Bf w wg:=Bu xf n xf.size Bx;refine⟨?_,Bu xg k xg.size Bx⟩;rfl
def nI{s:Bh}{p most:Y}{r:Bh×Y×Y}(h:NR s p most=J r):p+105<=8*Ajb s/\num (BX s p 48)=54156738319193/\Cp s (p+80)=Aj/\∃u q pl q2 l q3,ML s (p+105)=J (u,q)/\MK s q (Ajb u+2)=J (pl,q2)/\Is pl.tabs s (Ajb u+1) pl.picks q2 []=J (l,q3)/\JV u l (num (BX s (p+81) 24)) most=J r.1/\Ey r.1=num (BX s (p+48) 32)/\r=(r.1,Ey r.1,q3):=by
 unfold NR at h;split at h
 .cases h
 split at h
 .cases h
 grind
def XQ:∀(l:Bh) (same:Y) (out:Bh),Ajb out<=262144->Ajb (dec same out l).1<=262144
 |[],same,out,h=>by
  rw[dec];grind
 |x::r,same,out,h=>by
  rw[dec];split
  .split
   .exact BE _
   .exact XQ r _ _ Bg
  .split
   .exact BE _
   .exact XQ r _ _ Bg
def Afg{u t:Bh}{l:Bj}{row most:Y}(h:JV u l row most=J t):Ajb t<=262144:=by
 unfold JV at h;split at h
 .cases h
 split at h
 .cases h
 split at h
 .split at h
  .injection h with h;rw[<-h];exact XQ _ _ _ (BE _)
  .cases h
 .cases h
def rE(s:Bh)(p most:Y)(hm:1<=most/\most<=262144)(n:Ajb s<=1000000000)(r:Bh×Y×Y)(h:NR s p most=J r)(w:Ad):
 Bn prog 118 [Bl s,U (p:H),U (most:H)] w fun v w'=>v=.tuple #[Bl r.1,.int .u32 ((Ey r.1:Y):H),U ((r.2.2:Y):H),U ((0:Y):H)]/\Bf w w':=by
 obtain⟨h1,h2,h3,u,q,B,q2,l,A,e1,e2,e3,e4,e5,e6⟩:=nI h;obtain⟨m1,m2⟩:=hm;obtain⟨f1,f2,f3⟩:=Aec e1;have e7:r.2.2=A:=e6▸Z;rw[e7];generalize r.1=t at e4 e5;refine Bw Bi Z ntmps118 (by rfl) Z ?_;refine(O 13)<|Zd 19 (fun c1=>?_) fun c1=>?_
 .omega
 .refine(O 4∘Cb 22∘O 6∘Zc (vi s p h1 n h2 h3 w)) ?_;rintro _ w1⟨rfl,K⟩;refine(O 16∘Cb 32∘O 6) ?_;have c2:Bn _ 160 _ w1 fun v w'=>v=.tuple #[Bl u,U q,U ((0:Y))]/\Bf w1 w':=(Ade s _ h1 n _).mono Bg;refine(Zc c2) ?_;rintro _ w2⟨rfl,I⟩;refine(O 14∘Cb 42∘O 9) ?_;have L:1<=Ajb u:=Na.2 f1.1;refine(Zc (uV s q (Ajb u+2) f3 ⟨X,X⟩ n _)) ?_;rintro _ o⟨⟨cs,q',e,rfl,g⟩,G⟩;refine(O 4) ?_
  have T:e=0/\q'=q2/\B.Ok (Ajb u+2)/\PlanAt o o.heap.size cs B/\q2<=8*Ajb s:=by
   rcases g with⟨a,ai,b,c,d,f⟩|⟨_,b⟩
   .grind
   .grind
  obtain⟨rfl,rfl,ok,m,N⟩:=T;have k:=m;obtain⟨A1,a2,A2,a1,vs,rfl,_,_,_⟩:=k;refine(Zn) ?_;rintro pb w4 ab W j;refine(Zs W) ?_;rintro w5 V P;refine(O 9) ?_;have i:Bf o w5:=Bu j P j.size Bg;refine(Cb 55∘O 4∘Zv (BW V)∘O 2∘Zc (get_s B (Ajb u+2) ok _ _ s n q' N w5 (m.ext i) i.size)) ?_;rintro _ w6⟨⟨lv,l',q4,e,rfl,ol,g⟩,E⟩;refine(O 14) ?_
  have S:e=0/\q4=A/\l'=l/\Ajb l<=1638350/\(∀x∈l,x<Ajb u+2)/\A<=8*Ajb s:=by
   rcases g with⟨a,b,c,d,f⟩|⟨_,b⟩
   .grind
   .grind
  obtain⟨rfl,rfl,rfl,a0,ao,al⟩:=S;obtain⟨Al,cl,rfl,_,y⟩:=ol.sl;have af:=Ky s (p+81) 24;refine(Cb 66∘O 8∘Zc (Afi u ⟨L,f2⟩ f1 l' X (fun x hx=>by grind) (num (BX s (p+81) 24)) most X m2 Al cl _ w6 y)) ?_;rintro _ w7⟨⟨t',e,rfl,g⟩,D⟩;refine(O 8) ?_
  have Q:e=0/\t'=t:=by
   rcases g with⟨a,b⟩|⟨_,b⟩
   .grind
   .grind
  obtain⟨rfl,rfl⟩:=Q;have aj:=Afg e4;refine(O 4∘Zoa 78 (e:=Z)∘O 1∘Zc (Uu t' X w7)) ?_;rintro _ w8⟨rfl,C⟩;refine(O 4∘Cb 83 (e:=by exact fun z=>z e5)∘O 8∘Cb 85∘O 12) ?_;refine Gh<|ret4 Z Z Z Z Z ?_;rw[e5];exact⟨Z,((((((K.trans I).trans G).trans i).trans E).trans D).trans C)⟩
def nd(s:Bh)(p n:Y)(h:n<=64)(g:p+n<=8*Ajb s)(l:Ajb s<=1000000000)(w:Ad):
 Bn prog 117 [Bl s,U (p:H),U (n:H)] w fun v w'=>v=.tuple #[.int .u64 ((num (BX s p n):Y):H),U ((0:Y):H)]/\Bf w w':=by
 refine Bw Bi Z ntmps117 (by rfl) Z ?_;refine(O 9∘Zc (Pj s p X X w)) ?_;rintro _ j⟨k,rfl,d,a⟩;refine(O 6) ?_;have e:=MM _ _ s p n h X X _ d;rw[Ra g]at e;refine(Zc e) ?_;rintro _ i⟨rfl,_,f⟩;refine(O 5∘BG) ?_;exact⟨Z,f.below a a.size X⟩
def mr(k:Y)(hk:k<=100)(w:Ad):Bn prog 119 [U (k:H)] w fun v w'=>v=U ((min (k*100000) 262144:Y):H)/\w=w':=by
 refine Bw Bi Z ntmps119 (by rfl) Z ?_;refine(O 11∘Br) ?_;simp
def bGetD{s:Bh}{i:Y}(h:i<Ajb s):s.getD i 0=s[i]:=by
 grind
def jn{s:Bh}{p k:Y}(h:Bz.headT s p=J k):p+4<=Ajb s/\s.getD p 0=66/\s.getD (p+1) 0=90/\s.getD (p+2) 0=104/\(s.getD (p+3) 0).toNat=k+48/\1<=k/\k<=9:=by
 unfold Bz.headT at h;grind
def Ace(s:Bh)(p k:Y)(r:Ajb s<=1000000000)(h:Bz.headT s p=J k)(w:Ad):
 Bn prog 116 [Bl s,U (p:H)] w fun v w'=>v=.tuple #[U (k:H),U ((0:Y):H)]/\w=w':=by
 obtain⟨A,n,l,j,g,y,x⟩:=jn h;rw[bGetD X]at n l j g;refine Bw func116 Z ntmps116 (by rfl) Z ?_;refine(O 11)<|Lo (fun(i:Y)=>(i<=4,[(0,Bl (s)),(1,U p),(8,U i)],w,4-i)) 0 ?_ ?_
 .simp
 .rintro i t;refine(O 5)<|Zi (fun f=>?_) fun f=>?_
  .refine(O 18∘Cb 16∘O 12) ?_
   have a:i=0/\s[p+i]=66∨i=1/\s[p+i]=90∨i=2/\s[p+i]=104∨i=3/\(s[p+i]).toNat=k+48:=by
    rcases(by omega:i=0∨i=1∨i=2∨i=3)with rfl|rfl|rfl|rfl
    .grind
    .grind
    .grind
    .omega
   generalize s[p+i]=c at a;refine(O 4)<|Zd 24 (fun o=>?_) fun o=>?_
   .have d:c=([66,90,104]:Bh)[i]:=by
     rcases a with⟨rfl,q⟩|⟨rfl,q⟩|⟨rfl,q⟩|⟨rfl,q⟩
     .exact q
     .exact q
     .exact q
     .omega
    refine(O 2∘Zv (by exact EW (s:=[66,90,104]) underlying9 Z Z (BR X))∘O 3∘IQ 30 (e:=by exact fun h=>h (by rw[d]))∘O 3∘IQ 33∘O 16)<|Lb (i+1) ?_;omega
   .obtain rfl:i=3:=X
    have d:c.toNat=k+48:=by
     rcases a with⟨q,_⟩|⟨q,_⟩|⟨q,_⟩|⟨_,q⟩
     .omega
     .omega
     .omega
     .exact q
    refine(O 9∘Zoa 33 (e:=Z)∘O 3∘IQ 36∘O 6∘Cb 41∘O 7)<|Lb 4 ?_;omega
  .refine(O 7∘Zv (by exact Kc (b:=48) (m:=255) Z Z Z X)∘O 4∘BG) ?_;grind
abbrev Nk(s:Bh):={x:Bh//x=s/\x≠[]}
abbrev On(s:Bh):=Ae (Nk s)
def KL(s:Bh):On s:=if h:s=[]then[]else[⟨s,Z,h⟩]
def vO(f i most:Y)(s:Bh)(P:2*Ajb s<=most)(hm:most<=1000000000)(w:Ad)(B:Bk w f 9 [Bl s])(T:Bk w i 3 [U (most:H)]):
 SeqM 2 prog 170 [.pointer (J ⟨f,0,Aa⟩),.pointer (J ⟨i,0,Aa⟩)] (fun x:Nk s=>[Bl x.1]) [f] (fun W=>Bk W i 3 [U (most:H)]) (fun xs=>xs=KL s) (fun pre=>True) 1 w:=fun l g Jx W hW L ai K hY h0=>by
 have af:Bk W f 9 [Bl s]:=B.ext hW
 have k:Bn prog 170 [.func (.yield l) #[] #[],.pointer (J ⟨f,0,Aa⟩),.pointer (J ⟨i,0,Aa⟩)] W fun v W'=>(∃xs,xs=KL s/\g xs W')∨(∃pre,True/\Jx pre W'):=by
  refine Sc 2 func170 Z ntmps170 (by rfl) Z ?_;refine KR.block<|pQ (fun(q:(Bh)) (pre:(On s)) (wr:Ad)=>g pre wr/\Bk wr f 9 [Bl q]/\(pre=[]/\q=s∨pre=KL s/\q=[])) (fun(q:(Bh)) (pre:(On s)) (wr:Ad)=>[(0,.func (.yield l) #[] #[]),(1,.pointer (J ⟨f,0,Aa⟩)),(2,.pointer (J ⟨i,0,Aa⟩))]) (fun(q:(Bh)) (pre:(On s)) (wr:Ad)=>wr) (fun(q:(Bh)) (pre:(On s)) (wr:Ad)=>Ajb q) (s) ([]) (W) ⟨Z,Z,Z,AB⟩ Z ?_ ?_
  .grind
  .rintro q pre wr⟨p,I,hc⟩;have hG:=K pre wr p;refine BS<|BS<|KR.region<|OR.val Z Z (Ci underlying9 Z Z (I.cell_of Z))<|OR.val Z Z (MV (r:=[]) Z Z)<|OR.nil<|LS Z (fun a=>?_) (fun a=>?_)
   .obtain⟨rfl,rfl⟩:pre=[]/\q=s:=by
     grind
    have C:KL q=[⟨q,Z,a⟩]:=dif_neg a;have Q:1<=Ajb q:=Na.2 a;refine KR.skip<|KR.block<|BS<|KR.region<|OR.val Z Z (Ci underlying9 Z Z (I.cell_of Z))<|OR.val Z Z (Ci underlying3 Z Z (hG.cell_of Z))<|OR.call Z Z Z (fit_s q most P hm wr) ?_;rintro _ t⟨rfl,j⟩;refine OR.val Z Z (CI Z)<|OR.nil<|BS<|BS ?_;have n:=I.ext j;have G:g [] t:=L _ _ _ p (Mo.Agk j _)
    have A:∀(x:Nk q) (h:Ad),g [] h->Ui prog 1 l [Bl x.1] h fun v W'=>∃b,v=.bool b/\((b=Af/\g [x] W'/\W'.heap[f]? =h.heap[f]?)∨(b=Aj/\Jx [x] W')):=fun x h E=>
     YieldAt.mono (hY [] x h E Nat.one_pos) (by
      grind)
    refine KR.region<|OR.val Z Z (EX.move Z)<|OR.val Z Z (by first|exact Of (b:=1) Z Z|exact Og Z Z)<|OR.val Z Z (EX.move Z)<|OR.as 12 (.bool Aj) Z (Av Value.bool (AN X))<|OR.val Z Z (EX.move Z)<|OR.val Z Z (Ci underlying9 Z Z (n.cell_of Z))<|OR.val Z Z (EX.move Z)<|OR.val Z Z (Kb underlying9 Z Z X) ?_;have d:q.take (Ajb q)=q:=Dq (Bv _);refine WW Z Z Z Z Z (A ⟨q.take (Ajb q),d,by rw[d];exact a⟩ t G) ?_;rintro _ o⟨y,rfl,hv⟩;refine OR.val Z Z (by first|exact TA Z|exact Tz Z)<|OR.val Z Z (Jq Z Z)<|OR.nil ?_;rcases y with _|_
    .obtain⟨_,hjz⟩:Aj=Aj/\Jx [⟨q.take (Ajb q),d,by rw[d];exact a⟩] o:=by
      grind
     refine PW Z<|Kf<|SY (.inr Z) Z Z Z ?_;grind
    .obtain⟨_,hjz,hkz⟩:Af=Af/\g [⟨q.take (Ajb q),d,by rw[d];exact a⟩] o/\o.heap[f]? =t.heap[f]?:=by
      grind
     have m:Bk o f 9 [Bl q]:=n.of_block hkz;refine RJ Z<|KR.skip<|KR.region<|OR.val Z Z (Ci underlying9 Z Z (m.cell_of Z))<|OR.val Z Z (EX.move Z)<|OR.val Z Z (MW underlying9 Z Z X)<|JB Z Gz Z Z (by rfl) (m) (Bv _) ?_;rintro N ab D;refine OR.nil<|La<|pM ([]) ([⟨q,Z,a⟩]) (N) ⟨Z,Z,Z,AB⟩ Z ?_ Bg;refine⟨L _ _ _ Bg D,?_,.inr ⟨C.symm,Z⟩⟩;grind
   .obtain rfl:q=[]:=Dk.1 a;refine PX Z<|KR.done<|SY (.inl Z) Z Z Z ?_;refine .inl ⟨KL s,Z,?_⟩;rcases hc with⟨rfl,rfl⟩|⟨rfl,_⟩
    .exact p
    .exact p
 exact callsIn_wide.2 (k.2.mono fun e W'⟨v,V,S⟩=>⟨⟨v,V⟩,S⟩)
def yU(s:Bh)(most:Y)(w:Ad):Bn prog 130 [Bl s,U (most:H)] w fun v w'=>∃sb mb,v=.func (.func 170) #[] #[.pointer (J ⟨sb,0,Aa⟩),.pointer (J ⟨mb,0,Aa⟩)]/\w.heap.size<=sb/\w.heap.size<=mb/\Bk w' sb 9 [Bl s]/\Bk w' mb 3 [U (most:H)]/\Bf w w':=by
 refine Bw func130 Z ntmps130 (by rfl) Z ?_;refine(O 2) ?_;refine Ma Z Z Z Z ?_;rintro sb j f h d;refine Ma Z Z Z Z ?_;rintro mb i e g a;refine(O 4∘Zv (by exact Gf Z Z)∘O 2∘Br) ?_;exact⟨sb,mb,Z,f,BC d.size e,h.ext a,g,d.trans a⟩
end
section
open Pth
def De(l:Cn):Bm:=l.map fun s=>Bl s
def Aez(l:Cn):Ajb (De l)=Ajb l:=by simp[De]
def bE(l:Cn)(x:Bh):De (l++[x])=De l++[Bl x]:=by simp[De]
def jE(A:Aw AC)(c:Y)(l:Cn)(B:Y)(w:Ad)(d:Sl w B A (De l))(t:B<=w.heap.size)(r:Ajb l<=c)(hl:wt l<=140737488355328):
 Bn prog 126 [.slice A (Ajb l) c,Bl [47]] w fun v w'=>v=Bl (Iw l)/\Bf w w':=by
 have i:(!(f126.name== "runtime.NumGoroutine") && f126.body.isSome)=Af:=Be;by_cases m:l=[]
 .subst m;refine(Hc Bi i ((Tryz.strings_Join_none A c _ w).mono (fun e w' h=>⟨h.1,(show Bf w w' by rw[h.2];exact Bf.refl _)⟩))).mono ?_;rintro v w'⟨rfl,n⟩;exact⟨Z,n⟩
 .rcases d with d|⟨bk,o,rfl,p,g⟩
  .exact AI (by simpa[De]using d) m
  .have a:(l.map fun s=>(⟨s.toArray⟩:ByteArray)).map (·.data.toList)=l:=by
    rw[EO];exact List.map_id l
   have f:Ajb (l.map fun s=>(⟨s.toArray⟩:ByteArray))=Ajb l:=Bi
   have h:=Tryz.strings_Join bk o c (l.map fun s=>(⟨s.toArray⟩:ByteArray)) ⟨#[47]⟩ w (fun j x k=>by
    have:(De l)[j]? =J (.string x):=by
     simp only[De,Eh]at k ⊢;obtain⟨s,q,rfl⟩:=Ni.1 k;rw[q];rfl
    grind) X (by have:=Wd l;omega) X (by rw[a];rw[YZ];have:=jD l;omega)
   rw[a,f]at h;have e:Go.Lib.join l (⟨#[47]⟩:ByteArray).data.toList=Iw l:=YZ l;rw[e]at h;refine(Hc Bi i X).mono ?_;simp
def KpS(sb:Y)(W W':Ad):Prop:=W'.heap[sb]? =W.heap[sb]?
def lA{s:Bh}{i a:Y}(h:i<=Ajb s)(hf:a<=i):s.drop a=(s.drop a).take (i-a)++s.drop i:=by
 have:=HJ (i-a) (s.drop a);simp_all
def vP(d:Y)(s:Bh)(hs:Ajb s<=1000000000000)(w:Ad)(D:Bk w d 9 [Bl s]):
 SeqStopsK Fence.wide 2 prog 125 [Value.pointer (J ⟨d,0,Aa⟩)].toArray (fun x=>#[Bl x]) (KpS d) (fun xs=>xs=BO s) (fun pre=>pre<+:BO s) (Ajb s+1) w:=fun l r Jx W hW hJ af hY h0=>by
 have ab:=D.ext hW
 have A:Bn prog 125 [.func (.yield l) #[] #[],.pointer (J ⟨d,0,Aa⟩)] W fun v W'=>(∃xs,xs=BO s/\r xs W')∨(∃pre,pre<+:BO s/\Jx pre W'):=by
  have V:=by have:=Wd (BO s);rwa[Tu]at this
  refine Sc 2 Bi Z ntmps125 (by rfl) Z ?_;refine BS<|KR.region<|OR.val Z Z (CI Z)<|OR.nil<|BS<|KR.region<|OR.val Z Z (CI Z)<|OR.nil<|KR.block<|pR (fun(i:Y) (a:Y) (pre:Cn) (wr:Ad)=>i<=Ajb s+1/\a<=i/\(i<=Ajb s->BO s=pre++BO (s.drop a)/\∀c∈(s.drop a).take (i-a),c≠47)/\(i=Ajb s+1->pre=BO s)/\r pre wr/\Bk wr d 9 [Bl s]) (fun(i:Y) (a:Y) (pre:Cn) (wr:Ad)=>[(0,.func (.yield l) #[] #[]),(1,.pointer (J ⟨d,0,Aa⟩)),(3,U a),(4,U i)]) (fun(i:Y) (a:Y) (pre:Cn) (wr:Ad)=>wr) (fun(i:Y) (a:Y) (pre:Cn) (wr:Ad)=>Ajb s+1-i) (0) (0) ([]) (W) ⟨Z,Z,Z,Z,AB⟩ Z ?_ ?_
  .grind
  .rintro i a pre wr⟨hi,N,hp,P,L,n⟩;refine BS<|BS<|KR.region<|OR.val Z Z (EX.move Z)<|OR.val Z Z (Ci underlying9 Z Z (n.cell_of Z))<|OR.val Z Z (MT Bi Z)<|OR.val Z Z (by first|exact cF Z Z|exact cG Z Z)<|OR.nil<|LS Z (fun k=>?_) (fun k=>?_)
   .obtain⟨j,o⟩:=hp k
    have B:Ajb pre<Ajb s+1:=by
     have h1:=Na.2 (Vm (s.drop a));have h2:=Av DZ j;rw[BA]at h2;omega
    have t:∀x:Bh,Ui prog 1 l [Bl x] wr fun v W'=>∃b,v=.bool b/\((b=Af/\r (pre++[x]) W'/\KpS d wr W')∨(b=Aj/\Jx (pre++[x]) W')):=fun x=>
     YieldAt.mono (hY pre x wr L B) (by
      grind)
    refine KR.skip<|BS<|KR.block<|BS<|KR.region<|OR.val Z Z (EX.move Z)<|OR.val Z Z (Ci underlying9 Z Z (n.cell_of Z))<|OR.val Z Z (MT Bi Z)<|OR.val Z Z (by first|exact Ob Z Z|exact Oc Z Z)<|OR.val Z Z (EX.move Z)<|Qm 15 Z (fun G=>?_) (fun G=>?_)
    .have E:BO s=pre++[(s.drop a).take (i-a)]:=by
      have e:(s.drop a).take (i-a)=s.drop _:=Dq Bg;rw[e]at o ⊢;rw[j,ZZ _ o]
     refine Hs Z Z<|Hs Z Z<|Hs Z Z<|Hs Z Z<|OR.val Z Z (Oi Z Z)<|OR.nil<|PW Z<|BS<|BS<|KR.region<|OR.val Z Z (EX.move Z)<|OR.val Z Z (Ci underlying9 Z Z (n.cell_of Z))<|OR.val Z Z (EX.move Z)<|OR.val Z Z (EX.move Z)<|OR.val Z Z (Ol Bi Z Z Z X)<|WW Z Z Z Z Z (t _) ?_;rintro _ g⟨y,rfl,S⟩;refine OR.val Z Z (by first|exact TA Z|exact Tz Z)<|OR.nil<|RI Z (fun C=>?_) (fun C=>?_)
     .refine Kf<|SY (.inr Z) Z Z Z ?_;grind
     .obtain⟨rfl,hj1,hk⟩:y=Af/\r (pre++[(s.drop a).take (i-a)]) g/\KpS d wr g:=by
       grind
      refine KR.skip<|KR.region<|OR.val Z Z (EX.move Z)<|OR.val Z Z (by first|exact JY (b:=1) (m:=9223372036854775807) Z Z Z X|exact Ka (m:=9223372036854775807) Z Z Z Z X)<|OR.val Z Z (CI Z)<|OR.nil<|La<|KR.region<|OR.val Z Z (EX.move Z)<|OR.val Z Z (by first|exact JY (b:=1) (m:=9223372036854775807) Z Z Z X|exact Ka (m:=9223372036854775807) Z Z Z Z X)<|OR.val Z Z (CI Z)<|OR.nil ?_;have K:Bk g d 9 [Bl s]:=n.of_block hk;refine Ww (i+1) (i+1) (pre++[(s.drop a).take (i-a)]) (g) ⟨Z,Z,Z,Z,AB⟩ Z ?_ X;grind
    .skip
     refine OR.val Z Z (Ci underlying9 Z Z (n.cell_of Z))<|OR.val Z Z (EX.move Z)<|OR.val Z Z (EW underlying9 Z Z (BR X))<|OR.val Z Z (by first|exact Ob (b:=47) Z Z|exact Oc Z Z)<|OR.val Z Z (Jq Z Z)<|OR.nil<|LS Z (fun I=>?_) (fun I=>?_)
     .refine BS<|BS<|KR.region<|OR.val Z Z (EX.move Z)<|OR.val Z Z (Ci underlying9 Z Z (n.cell_of Z))<|OR.val Z Z (EX.move Z)<|OR.val Z Z (EX.move Z)<|OR.val Z Z (Ol underlying9 Z Z Z X) ?_;have p:i<Ajb s:=X
      have Q:s.drop i=47::s.drop (i+1):=by
       rw[DE p];congr 1;exact Ll.1 I
      have E:BO s=(pre++[(s.drop a).take (i-a)])++BO (s.drop (i+1)):=by
       rw[j,lA k N,Q,ZY _ _ o,<-Q,<-lA k N];simp
      refine WW Z Z Z Z Z (t _) ?_;rintro _ g⟨y,rfl,S⟩;refine OR.val Z Z (by first|exact TA Z|exact Tz Z)<|OR.nil<|RI Z (fun C=>?_) (fun C=>?_)
      .refine Kf<|SY (.inr Z) Z Z Z ?_;grind
      .obtain⟨rfl,hj1,hk⟩:y=Af/\r (pre++[(s.drop a).take (i-a)]) g/\KpS d wr g:=by
        grind
       refine KR.skip<|KR.region<|OR.val Z Z (EX.move Z)<|OR.val Z Z (by first|exact JY (b:=1) (m:=9223372036854775807) Z Z Z X|exact Ka (m:=9223372036854775807) Z Z Z Z X)<|OR.val Z Z (CI Z)<|OR.nil<|La<|KR.region<|OR.val Z Z (EX.move Z)<|OR.val Z Z (by first|exact JY (b:=1) (m:=9223372036854775807) Z Z Z X|exact Ka (m:=9223372036854775807) Z Z Z Z X)<|OR.val Z Z (CI Z)<|OR.nil ?_;have K:Bk g d 9 [Bl s]:=n.of_block hk;refine Ww (i+1) (i+1) (pre++[(s.drop a).take (i-a)]) (g) ⟨Z,Z,Z,Z,AB⟩ Z ?_ X;grind
     .have p:i<Ajb s:=X;refine KR.skip<|La<|KR.region<|OR.val Z Z (EX.move Z)<|OR.val Z Z (by first|exact JY (b:=1) (m:=9223372036854775807) Z Z Z X|exact Ka (m:=9223372036854775807) Z Z Z Z X)<|OR.val Z Z (CI Z)<|OR.nil<|Ww (i+1) (a) (pre) (wr) ⟨Z,Z,Z,Z,AB⟩ Z ?_ X;refine⟨X,X,fun _=>⟨j,?_⟩,fun h=>by omega,L,n⟩
      have e:(s.drop a).take (i+1-a)=(s.drop a).take (i-a)++[s[i]]:=by
       rw[show i+1-a=i-a+1 by omega,LY,TM,show a+(i-a)=i by omega,BR p];rfl
      rw[e];intro c f;rcases Dx.1 f with f|f
      .grind
      .simp only[CF]at f;subst f;exact fun q=>I (by simp_all)
   .obtain rfl:i=Ajb s+1:=X;refine PX Z<|KR.done<|SY (.inl Z) Z Z Z ?_;grind
 exact callsIn_wide.2 (A.2.mono fun e W'⟨v,G,T⟩=>⟨⟨v,G⟩,T⟩)
def Bk.isCells{w:Ad}{b:Y}{T:Ay}{l:Bm}(h:Bk w b T l):∃o:Obj,w.heap[b]? =J o/\o.isCells=Af:=by
 obtain⟨a,h,_⟩:=h;exact⟨_,h,Z⟩
def Bk.Agq{A B:Ad}{row:Aw Y}{C b:Y}{T:Ay}{l:Bm}(h:Bk A b T l)(hg:A.grownBy B row)(hr:∀r,row=J r->C<=r/\∃o:Obj,A.heap[r]? =J o/\o.isCells=Aj):Bk B b T l:=
 h.of_block (hg.block b h.lt fun e=>by
  obtain⟨o',ho',hc⟩:=h.isCells;grind)
def Bo.Agq{A B:Ad}{row:Aw Y}{C B0 s n:Y}{T:Ay}{v:Ah}{xs:Bm}(h:Bo A B0 T s v n xs)(hg:A.grownBy B row)(hr:∀r,row=J r->C<=r/\∃o:Obj,A.heap[r]? =J o/\o.isCells=Aj):Bo B B0 T s v n xs:=
 h.Agx fun k hk=>by
  obtain⟨_,l,hb⟩:=h.blkT k hk;refine hg.block k hb.lt fun e=>?_;obtain⟨o',ho',hc⟩:=hb.isCells;grind
def Bf.Agq{w A B:Ad}{row:Aw Y}{C:Y}(h:Bf w A)(hC:w.heap.size<=C)(hg:A.grownBy B row)(hr:∀r,row=J r->C<=r/\∃o:Obj,A.heap[r]? =J o/\o.isCells=Aj):Bf w B:=
 h.grown hg Bg
def Mo.keeps{w w':Ad}{S:Bj}(h:Mo w w' S)(hS:∀k∈S,∃T l,Bk w k T l):KeepsOthers w w':=
 ⟨h.size,fun k o hk ho=>by
  refine(h.block k Bg fun hm=>?_).trans hk;obtain⟨T,l,hb⟩:=hS k hm;obtain⟨o',ho',hc⟩:=hb.isCells;grind⟩
def rQ(s:Bh)(hs:Ajb s<=1000000000000)(w:Ad):Bn prog 98 [Bl s] w fun v w'=>v=.tuple #[Bl (GK s).1,U (((GK s).2:Y):H)]/\Bf w w':=by
 refine Sc 3 Bi Z ntmps98 Be Z ?_;refine BS<|KR.region<|qg Z Z Z Z ?_;rintro N L cb t a;refine OR.val Z Z (CI Z)<|OR.val Z Z (CI Z)<|OR.nil<|KR.scope (fun _ _ _ h=>h)<|BS<|KR.region<|dx 0 Z Z Bi Gz Z Z Z Z (by rfl) Bc ?_;rintro gb w2 bq ai p;refine JA (l:=[.slice _ 0 0]) Z Z VU Z ?_;rintro ob w3 ca ba K;have cd:L.heap.size<=ob:=by have:=p.size;omega
 refine JB Z VU Z Z (by first|rfl|assumption|exact Bo.one _) (ba) Bi ?_;rintro w4 bm bf;refine OR.nil<|BS<|KR.region<|OR.val Z Z (Gf Z Z)<|OR.val Z Z (CI Z)<|OR.nil<|BS<|BS<|KR.region ?_
 have a8:Bo _ _ 9 1 _ 0 (De []):=((Bo.Agl ai bq Z Bc).ext K).mo bf (fun k y=>by
  have:=(ai.ext K).ne ba Bc;simp[Value.ownBlock]at y;grind)
 have I:Bf _ _:=Bu (p.trans K) bf (p.trans K).size Bg;have a6:=t.ext I;refine OR.val Z Z (Ci underlying9 Z Z (a6.cell_of Z))<|OR.val Z Z (MT Bi Z)<|OR.val Z Z (EX.move Z)<|OR.nil<|KR.block<|pP (fun(i:Y)=>i<=Ajb s/\∀c∈s.take i,32<=c.toNat/\c.toNat<=126) (fun(i:Y)=>[(1,.pointer (J ⟨N,0,Aa⟩)),(4,.pointer (J ⟨ob,0,Aa⟩)),(5,.func (.func 125) #[] #[.pointer (J ⟨N,0,Aa⟩)]),(13,U ((Ajb s:Y):H)),(14,U i)]) (fun(i:Y)=>w4) (fun(i:Y)=>Ajb s-i) (0) ⟨Z,Z,Z,Z,Z,AB⟩ Z ?_ ?_
 .simp
 .rintro i⟨hi,bl⟩;refine BS<|KR.region<|OR.val Z Z (by first|exact Of Z Z|exact Og _ _)<|OR.nil<|BS<|LS Z (fun bn=>?_) (fun bn=>?_)
  .have a1:¬(32<=s[i].toNat/\s[i].toNat<=126)->GK s=([],140):=fun h=>by
    unfold GK;rw[Ag];rintro⟨d,_⟩;exact h (d _ Bi)
   refine KR.skip<|BS<|KR.block<|BS<|KR.region<|OR.val Z Z (EX.move Z)<|OR.val Z Z (CI Z)<|OR.nil<|BS<|KR.region<|OR.val Z Z (Ci underlying9 Z Z (a6.cell_of Z))<|OR.val Z Z (EX.move Z)<|OR.val Z Z (EW underlying9 Z Z (BR X))<|OR.val Z Z (by first|exact Of (b:=32) Z Z|exact Og Z Z)<|OR.val Z Z (EX.move Z)<|Qm 21 Z (fun d=>?_) (fun d=>?_)
   .refine Hs Z Z<|Hs Z Z<|Hs Z Z<|Hs Z Z<|OR.val Z Z (Oi Z Z)<|OR.nil<|PW Z<|BS<|KR.region<|OR.val Z Z (CI Z)<|OR.val Z Z (CI Z)<|OR.nil<|Kf<|me (.inr Z) Z Z Z Z Z ?_;rw[a1 X];exact⟨Z,a.trans I⟩
   .skip
    refine OR.val Z Z (Ci underlying9 Z Z (a6.cell_of Z))<|OR.val Z Z (EX.move Z)<|OR.val Z Z (EW underlying9 Z Z (BR X))<|OR.val Z Z (by first|exact Od (b:=126) Z Z|exact Oe Z Z)<|OR.val Z Z (Jq Z Z)<|OR.nil<|LS Z (fun g=>?_) (fun g=>?_)
    .refine BS<|KR.region<|OR.val Z Z (CI Z)<|OR.val Z Z (CI Z)<|OR.nil<|Kf<|me (.inr Z) Z Z Z Z Z ?_;rw[a1 X];exact⟨Z,a.trans I⟩
    .refine KR.skip<|La<|KR.region<|OR.val Z Z (by first|exact JY (b:=1) (m:=9223372036854775807) Z Z Z X|exact Ka (m:=9223372036854775807) Z Z Z Z X)<|OR.val Z Z (EX.move Z)<|OR.nil<|pL (i+1) ⟨Z,Z,Z,Z,Z,AB⟩ Z ?_ X;refine⟨X,fun c hc=>?_⟩;rw[LY,BR bn]at hc;grind
  .have bx:fits s:=by
    rw[Dq X]at bl;exact bl
   refine PX Z<|BS<|KR.region<|JA (l:=[.bool Aj]) Z Z PD Z ?_;rintro bb w5 b9 bh G;have cg:L.heap.size<=bb:=by have:=I.size;omega
   refine JB Z PD Z Z (by first|rfl|assumption|exact Bo.one Ce) (bh) Bi ?_;rintro w6 b5 bc;refine OR.nil<|BS<|pO<|BS<|BS<|KR.region<|OR.val Z Z (EX.move Z)<|OR.nil<|KR.block ?_;have n:Bf L w6:=Bu (I.trans G) bc (I.trans G).size (fun k y=>by grind);have b3:Bk w6 ob 97 [.slice (J ⟨gb,0,Aa⟩) 0 0]:=(bm.ext G).mo bc (by simp;exact(bm.ext G).ne bh Bc)
   have a7:Bo w6 L.heap.size 9 1 (.slice (J ⟨gb,0,Aa⟩) 0 0) 0 (De []):=(a8.ext G).mo bc (fun k y=>by
    have:=((ai.ext K).mo bf (by simp;exact(ai.ext K).ne ba Bc)).ext G|>.ne bh Bc
    simp[Value.ownBlock]at y;grind)
   have b6:N<w6.heap.size:=by have:=t.lt;have:=n.size;omega
   refine pU Z (Nat.le_add_left _ _) func125 Be Z Z Z (fun _ _=>rfl) Bi (vP N s hs w6 (t.ext n)) (fun h k=>k.trans h) (fun W l o o' hl h _ _=>World.putObj_heap_other X) (fun pre W=>∃v,Bk W ob 97 [v]/\Bo W L.heap.size 9 1 v (Ajb (kept pre)) (De (kept pre))/\Bk W bb 4 [.bool Aj]/\Bf L W/\dd∉pre) (fun c pre W=>∃p0,c=.exit 2/\pre=p0++[dd]/\∃v,Bk W ob 97 [v]/\Bo W L.heap.size 9 1 v (Ajb (kept p0)) (De (kept p0))/\Bk W bb 4 [.bool Af]/\Bf L W) (fun pre A B b1 h hg S=>let ⟨v,d,g,E,C,h5⟩:=h;⟨v,d.Agq hg S,g.Agq hg S,E.Agq hg S,C.Agq n.size hg S,h5⟩) (fun c pre A B b1 h hg S=>let ⟨p0,e1,e2,v,d,g,E,C⟩:=h;⟨p0,e1,e2,v,d.Agq hg S,g.Agq hg S,E.Agq hg S,C.Agq n.size hg S⟩) (⟨_,b3,a7,b5,n,Bi⟩) ?_ ?_ ?_
   .rintro l pre x W⟨v,d,g,E,C,h5⟩b8;have cc:Bk W N 9 [Bl s]:=t.ext C;have cf:Ajb (kept pre)<=Ajb pre:=RR _ _
    have aj:OX x=Aj->x≠dd->(KeepsOthers W W/\KpS N W W/\∃v,Bk W ob 97 [v]/\Bo W L.heap.size 9 1 v (Ajb (kept (pre++[x]))) (De (kept (pre++[x])))/\Bk W bb 4 [.bool Aj]/\Bf L W/\dd∉pre++[x]):=fun y hd=>by
     rw[jF,y,Ag Bi];exact⟨KeepsOthers.refl W,Z,v,d,g,E,C,Bg⟩
    refine KR.block<|BS<|BS<|KR.region<|OR.val Z Z (EX.move Z)<|OR.nil<|KR.block<|BS<|BS<|KR.region<|OR.val Z Z (HC (r:=[]) Z Z)<|OR.val Z Z (CI Z)<|OR.nil<|LS Z (fun Q=>?_) (fun Q=>?_)
    .refine KR.as 31 (.bool Af) Z (Av Value.bool (AL (Q)))<|KR.skip<|PW Z<|PX Z<|KR.done ?_;exact fun _ _=>aj (by rw[Q];rfl) (by rw[Q];decide)
    .refine KR.region<|OR.val Z Z (HC (r:=[46]) Z Z)<|OR.val Z Z (CI Z)<|OR.nil<|LS Z (fun a=>?_) (fun a=>?_)
     .refine PX Z<|KR.done ?_;exact fun _ _=>aj (by rw[a];rfl) (by rw[a];decide)
     .refine BS<|KR.region<|OR.val Z Z (HC (r:=[46,46]) Z Z)<|OR.val Z Z (CI Z)<|OR.nil<|LS Z (fun p=>?_) (fun p=>?_)
      .refine BS<|KR.region<|JB Z PD Z Z (by first|rfl|assumption|exact Bo.one Ce) (E) Bi ?_;rintro W2 b0 f;refine OR.nil<|pN Z ?_;simp only[Ko]at b0;exact fun _ _=>⟨f.keeps (fun k y=>by grind),pre,Z,by rw[p];rfl,v,d.mo f (by simp;exact d.ne E Bc),g.mo f (fun k y=>by simp;exact fun q=>g.ne E Bc k y q.symm),b0,Bu C f C.size (fun k y=>by grind)⟩
      .have b4:OX x=Af:=by simp[OX,Q,a]
       refine KR.skip<|La<|KR.region<|OR.val Z Z (Ci underlying97 Z Z (d.cell_of Z))<|OR.val Z Z (EX.move Z)<|OR.push Z Z (fun _=>rfl) Z underlying97 Gz Z Z (fun _=>rfl) Z (C) (g) CA X ?_;rintro _ v2 W2 T al bs ce;have f:Mo W W2 v.ownBlock.toList:=Mo.grown bs (fun k e=>by grind);have nb:ob∉v.ownBlock.toList:=fun q=>g.ne d Bc ob (by simpa using q) Z;have b2:bb∉v.ownBlock.toList:=fun q=>g.ne E Bc bb (by simpa using q) Z;have V:=d.mo f nb;have a2:=E.mo f b2;refine JB Z VU Z Z (by first|rfl|assumption|exact Bo.one Ce) (V) Bi ?_;rintro W3 a0 af;refine OR.nil<|La ?_;simp only[Ko]at a0;refine KR.done ?_
       have a9:Bo W3 L.heap.size 9 1 v2 (Ajb (kept (pre++[x]))) (De (kept (pre++[x]))):=by
        rw[jF,Ai b4,BA,bE];exact T.mo af (fun k y=>by simp;exact fun q=>T.ne V Bc k y q.symm)
       have P:Bf L W3:=Bu al af al.size (fun k y=>by grind);have b7:Bk W3 N 9 [Bl s]:=t.ext P;refine fun _ _=>⟨(f.keeps fun k y=>?_).trans (af.keeps fun k y=>?_),?_,v2,a0,a9,a2.mo af (by simp;exact a2.ne V Bc),P,by simp only[Dx,CF,not_or];exact⟨h5,fun q=>p q.symm⟩⟩
       .obtain⟨_,l,hb⟩:=g.blkT k Bg;grind
       .grind
       .show W3.heap[N]? =W.heap[N]?;exact(P.block N t.lt).trans (C.block N t.lt).symm
   .rintro D xs W hD rfl⟨v,d,g,E,C,h5⟩hK;obtain⟨A,c,rfl,hc,a5⟩:=g.slice;have a4:wt (kept (BO s))<=140737488355328:=by have q1:=bR OX (BO s);have q2:=Tu s;unfold kept;omega
    have bi:D<W.heap.size:=(PM.1 hK).1;refine La<|BS<|KR.region<|OR.val Z Z (Ci underlying97 Z Z (d.cell_of Z))<|OR.call Z Z Z (jE A c (kept (BO s)) _ W a5 (Bv _) hc a4) ?_;rintro _ W2⟨rfl,j⟩;refine OR.val Z Z (CI Z)<|OR.nil<|BS<|BS ?_;have ab:W2.heap[D]? =J (.deferred (J [])):=(j.block D bi).trans hK;have a3:Bf w (W2.putObj D (.deferred Aa)):=Bf.putObj ((a.trans C).trans j) (by have:=a.size;have:=n.size;omega) _;have bj:=E.ext j;refine KR.region<|OR.val Z Z (Ci underlying4 Z Z (bj.cell_of Z))<|OR.val Z Z (EX.move Z)<|OR.val Z Z (EX.move Z)<|OR.val Z Z (HC (r:=[]) Z Z)<|OR.val Z Z (Jq Z Z)<|OR.val Z Z (EX.move Z)<|Qm 47 Z (fun j1=>?_) (fun j1=>?_)
    .refine Hs Z Z<|Hs Z Z<|Hs Z Z<|OR.val Z Z (Oi Z Z)<|OR.nil<|PW Z<|BS<|KR.region<|OR.val Z Z (CI Z)<|OR.val Z Z (CI Z)<|OR.nil<|Kf<|Vz (.inr Z) Z Z (ab) Z Z Z ?_;have e:GK s=([],140):=by unfold GK;rw[Ag (fun q=>q.2.2.1 j1)]
     grind
    .refine OR.val Z Z (EX.move Z)<|OR.val Z Z (MT underlying9 Z)<|OR.val Z Z (by first|exact Od (b:=120) Z Z|exact Oe Z Z)<|OR.val Z Z (Jq Z Z)<|OR.nil<|LS Z (fun j2=>?_) (fun j2=>?_)
     .refine BS<|KR.region<|OR.val Z Z (CI Z)<|OR.val Z Z (CI Z)<|OR.nil<|Kf<|Vz (.inr Z) Z Z (ab) Z Z Z ?_;have e:GK s=([],140):=by unfold GK;rw[Ag (fun q=>by omega)]
      rw[e];exact⟨Z,a3⟩
     .refine KR.skip<|BS<|KR.region<|OR.val Z Z (EX.move Z)<|OR.val Z Z (CI Z)<|OR.val Z Z (CI Z)<|OR.nil<|Kf<|Vz (.inr Z) Z Z (ab) Z Z Z ?_;have e:GK s=(Iw (kept (BO s)),0):=by unfold GK;rw[Ai ⟨bx,h5,j1,X⟩]
      rw[e];exact⟨Z,a3⟩
   .rintro D c pre W hD ao⟨p0,rfl,rfl,v,d,g,E,C⟩hK;obtain⟨A,c,rfl,hc,a5⟩:=g.slice
    have a4:wt (kept p0)<=140737488355328:=by
     have q1:=bR OX p0;have q2:=Tu s;obtain⟨r,S⟩:=ao;rw[<-S,bQ,bQ]at q2;unfold kept;omega
    have e:GK s=([],140):=by
     unfold GK;rw[Ag];rintro⟨_,h,_⟩;exact h (ao.subset Bi)
    have bi:D<W.heap.size:=(PM.1 hK).1;refine PX Z<|BS<|KR.region<|OR.val Z Z (Ci underlying97 Z Z (d.cell_of Z))<|OR.call Z Z Z (jE A c (kept p0) _ W a5 (Bv _) hc a4) ?_;rintro _ W2⟨rfl,j⟩;refine OR.val Z Z (CI Z)<|OR.nil<|BS<|BS ?_;have ab:W2.heap[D]? =J (.deferred (J [])):=(j.block D bi).trans hK;have a3:Bf w (W2.putObj D (.deferred Aa)):=Bf.putObj ((a.trans C).trans j) (by have:=a.size;have:=n.size;omega) _;have bj:=E.ext j;refine KR.region<|OR.val Z Z (Ci underlying4 Z Z (bj.cell_of Z))<|OR.val Z Z (EX.move Z)<|Hs Z Z<|Hs Z Z<|OR.val Z Z (Oi Z Z)<|OR.val Z Z (EX.move Z)<|Hs Z Z<|Hs Z Z<|Hs Z Z<|OR.val Z Z (Oi Z Z)<|OR.nil<|PW Z<|BS<|KR.region<|OR.val Z Z (CI Z)<|OR.val Z Z (CI Z)<|OR.nil<|Kf<|Vz (.inr Z) Z Z (ab) Z Z Z ?_;grind
end
section
attribute [local irreducible] OW KW QW EX GW NV
open Bz
def xm:pack (Bz.bitsOf Bz.magicT)=Bz.magicT:=by rfl
def Rf(l:Ae Bs)(x:Bs):Je (l++[x])=Je l++[Ec x].flatten:=by
 simp
def nD(s:Bh):∀x∈Ia s,x<4294967296:=fun x a=>by
 unfold Ia at a;split at a
 .grind
 .rw[CF.1 a];exact Qu s
def PkI{s:Bh}(w:Ad)(B ab ub sb mb tb eb:Y)(pre:On s)(W:Ad):Prop:=∃v u,Bk W ab 227 [v]/\Bo W w.heap.size 226 2 v (1+Ajb pre) (Je (Bz.bitsOf Bz.magicT::pre.map (fun x=>blkB x.1 (Da x.1))))/\(∀k,v.ownBlock=J k->k≠sb/\k≠mb)/\Bk W ub 210 [u]/\Bo W w.heap.size 58 1 u (Ajb pre) (BD .u32 (pre.map (fun x=>Ey x.1)))/\(∀k,u.ownBlock=J k->k≠sb/\k≠mb)/\Bk W mb 3 [U ((20000:Y):H)]/\Bk W tb 9 [Bl []]/\Bk W eb 34 [U 0]/\Bf w W/\B<=W.heap.size
def PkI.abd{s:Bh}{w:Ad}{B o j a m l n:Y}(S:∀k∈[a],w.heap.size<=k)(V:w.heap.size<=B)(y:o≠a/\j≠a/\m≠a/\l≠a/\n≠a):Abd [a] B (PkI (s:=s) w B o j a m l n):=fun pre A C T h d e=>by
 obtain⟨v,u,Q,P,N,L,K,I,G,E,D,i,g⟩:=h;obtain⟨x,t,r,q,p⟩:=y;have f:∀{k:Y},k≠a->k∉[a]:=Bi;exact⟨v,u,Q.abd d e (f x),P.abd d e Bg,N,L.abd d e (f t),K.abd d e Bg,I,G.abd d e (f r),E.abd d e (f q),D.abd d e (f p),Bu i d X Bg,BC g d.size⟩
def yO(s:Bh)(hs:Ajb s<=8192)(w:Ad):
 Bn prog 100 [Bl s,U ((1:Y):H),U ((20000:Y):H)] w fun v w'=>v=.tuple #[Bl (packS s (Da s)),U ((0:Y):H)]/\Bf w w':=by
 refine Sc 3 Bi Z ntmps100 Be Z ?_;refine BS<|KR.region<|JA (l:=[Bl _]) Z Z Gz Z ?_;rintro tb w1 fu c6 cc;refine JA (l:=[U 0]) Z Z VS Z ?_;rintro eb w2 fs db b1;refine OR.nil<|BS<|BS<|KR.region<|OR.val Z Z (EX.move Z)<|OR.val Z Z (by first|exact Of (b:=1) Z Z|exact Og Z Z)<|OR.val Z Z (EX.move Z)<|Qm 18 Z (fun c1=>?_) (fun c1=>?_)
 .omega
 .refine OR.val Z Z (EX.move Z)<|OR.val Z Z (by first|exact Od (b:=9) Z Z|exact Oe Z Z)<|OR.val Z Z (Jq Z Z)<|OR.val Z Z (EX.move Z)<|Qm 22 Z (fun c2=>?_) (fun c2=>?_)
  .omega
  .refine OR.val Z Z (EX.move Z)<|OR.val Z Z (by first|exact Of (b:=1) Z Z|exact Og Z Z)<|OR.val Z Z (Jq Z Z)<|OR.val Z Z (EX.move Z)<|Qm 26 Z (fun c3=>?_) (fun c3=>?_)
   .omega
   .refine OR.val Z Z (EX.move Z)<|OR.val Z Z (EX.move Z)<|OR.call Z Z Z (mr 1 Bc w2) ?_;rintro _ _⟨rfl,rfl⟩;refine OR.val Z Z (by first|exact Od Z Z|exact Oe Z Z)<|OR.val Z Z (Jq Z Z)<|OR.nil<|KR.as 31 (.bool Aj) Z (Av Value.bool (AN Bc))<|RJ Z<|KR.skip<|BS<|BS<|KR.region<|OR.val Z Z (EX.move Z)<|OR.val Z Z (MT underlying9 Z)<|OR.val Z Z (by first|exact Od (b:=262144) Z Z|exact Oe Z Z)<|OR.nil<|KR.as 34 (.bool Aj) Z (Av Value.bool (AN X))<|RJ Z<|KR.skip<|BS<|KR.region<|OR.val Z Z (EX.move Z)<|OR.val Z Z (by first|exact JY (a:=48) (m:=9223372036854775807) Z Z Z X|exact Ka (m:=9223372036854775807) Z Z Z Z X)<|OR.val Z Z (by first|exact LP (m:=255) underlying3 underlying5 Z Z X|exact MR (m:=256) underlying3 underlying5 Z Z Bc|exact EX.convZ underlying3 underlying5 Z)<|dx 1 Z Z underlying23 CE Z Z Z Z (by rfl) Bc ?_;rintro bb w3 fn cl c0;replace cl:Bk w3 bb 5 (BI [49]):=cl;refine OR.val Z Z (cT underlying23 underlying5 underlying9 Z (cl.sl) (Z))<|OR.val Z Z (JZ (s:=[66,90,104]) Z Z Bi)<|OR.val Z Z (PP (pl:=[(0,1),(1,1)]) (ks:=[0,1]) (is:=[0,1]) (zs:=[Bl [],U 0]) underlying226 GU Be Z Z Z (by first|rfl|(simp only[HF,HG,HB,Ig,Bool.and_eq_true,Value.oneCell'];repeat (first|assumption|exact Bo.one Ce|constructor))) (by simp only[KN,Ko,Kn];rfl))<|qh 1 ([[Bl [66,90,104,49],U 32]]) Z Z underlying227 GU Z Bc Z Z Z Bi Bc ?_;rintro gb w4 fl b3 cz
    replace b3:Bk w4 gb 226 (Je [Bz.bitsOf Bz.magicT]):=by
     have e:Je [Bz.bitsOf Bz.magicT]=[Bl [66,90,104,49],U 32]:=by
      show[Bl (pack (Bz.bitsOf Bz.magicT)),Value.int .i64 ((Ajb (Bz.bitsOf Bz.magicT):Y):H)]=_;rw[xm,Bz.bitsOf_length];rfl
     rw[e];exact b3
    refine JA (l:=[.slice Aa 0 0]) Z Z VR Z ?_;rintro ab w5 fi dn cb;have z1:=cc.size;have z2:=b1.size;have z3:=c0.size;have z4:=cz.size;have z5:=cb.size;have f6:=c6.lt;have f5:=db.lt;have f4:=b3.lt;have f3:=dn.lt;have b7:=(c0.trans cz).trans cb;have x5:=(cc.trans b1).trans b7;refine JB Z VR Z Z (by first|rfl|assumption|exact Bo.one Ce) (dn) Bi ?_;rintro w6 cn cj;refine OR.nil<|BS<|KR.region ?_;replace cn:Bk w6 ab 227 [.slice (J ⟨gb,0,Aa⟩) 1 1]:=cn;have z6:=cj.size;have d3:Bf w2 w6:=Bu b7 cj b7.size Bx;have cs:Bo w6 w.heap.size 226 2 (.slice (J ⟨gb,0,Aa⟩) 1 1) 1 (Je [Bz.bitsOf Bz.magicT]):=(Bo.Agl (s:=2) (cap:=1) (b3.ext cb) X Z CA).mo cj (by simp[Value.ownBlock];omega);refine JA (l:=[.slice Aa 0 0]) Z Z nY Z ?_;rintro ub w7 fd c5 ca;refine OR.nil<|BS<|BS<|KR.region<|OR.val Z Z (EX.move Z)<|OR.val Z Z (EX.move Z) ?_;have z7:=ca.size;have f2:=c5.lt;refine OR.call Z Z Z (yU s 20000 w7) ?_;rintro _ w8⟨sb,mb,rfl,e9,fa,cf,bq,j⟩;refine OR.nil<|KR.block ?_;have z8:=j.size;have f0:=cf.lt;have f1:=bq.lt;have b6:Bf w2 w8:=(d3.trans ca).trans j;have x8:Bf w w8:=(cc.trans b1).trans b6;have cq:=ca.trans j;have cr:=cs.ext cq;have e3:=cn.ext cq;have eh:=c5.ext j;have em:=(c6.ext b1).ext b6;have ey:=db.ext b6
    have c9:mb≠sb:=fun e=>by
     rw[e]at bq;exact AI Z (bq.ne cf Bc)
    have ds:∀k∈[sb],w.heap.size<=k:=fun k p=>by simp at p;omega
    refine pV Z (Nat.le_add_left _ _) func170 Be Z Z Z (fun x:Nk s=>Bl x.1) (fun k p=>by simp at p;omega) (vO sb mb 20000 s X Bc w8 cf bq) (PkI w w8.heap.size ab ub sb mb tb eb) (fun c (pre:On s) W=>False) (PkI.abd ds (BC x8.size (Bv _)) ⟨X,X,c9,X,X⟩) (fun c pre A B T h hm hT=>h.elim) (fun pre W h=>let ⟨_,_,_,_,_,_,_,_,h7,_⟩:=h;h7) (⟨_,_,e3,cr,(fun k p=>by simp[Value.ownBlock]at p;omega),eh,Bo.nil _ _ _ _,(fun k p=>by simp[Value.ownBlock]at p),bq,em,ey,x8,Bv _⟩) ?_ ?_ ?_
    .rintro l pre x W⟨v,u,h1,h2,h3,h4,h5,h6,h7,h8,h9,a2,d0⟩fb _;obtain⟨x,ea,cw⟩:=x;subst ea;have eo:pre=[]:=List.length_eq_zero_iff.1 X;subst eo;have gk:=Qu x;refine KR.block<|BS<|KR.region<|OR.val Z Z (EX.move Z)<|OR.call Z Z Z (blk_s x cw X W) ?_;rintro _ wa⟨⟨gf,rfl⟩,a8⟩;refine OR.val Z Z (EX.move Z)<|OR.val Z Z (EX.extract Z Z)<|OR.val Z Z (EX.extract Z Z) ?_;generalize e7:blkB x (Da x)=BB;refine JA (l:=[Bl [],U 0]) Z Z GU Z ?_;rintro e8 wb fc e1 cx;refine qk Z GU Z Z Z (by first|rfl|(simp only[HF,HG,HB,Ig,Bool.and_eq_true,Value.oneCell'];repeat (first|assumption|exact Bo.one Ce|constructor))) (e1) Bi ?_;rintro wc ck er;refine OR.val Z Z (CI Z)<|OR.nil<|BS<|BS<|KR.region<|OR.val Z Z (EX.move Z)<|OR.val Z Z (by first|exact cL (b:=0) Z Z|exact cM Z Z)<|OR.nil ?_;replace ck:Bk wc e8 226 (Ec BB):=ck;have xc:Bf W wc:=Bu (a8.trans cx) er (a8.trans cx).size (by simp;have:=a8.size;omega);refine KR.as 53 (.bool Aj) Z (Av Value.bool (AN Bc))<|RJ Z<|KR.skip<|BS<|KR.region ?_;have zc:=xc.size;have f9:=fun k p=>(h2.lt k p);have gc:=fun k p=>(h5.lt k p);have m1:=(h1.ext xc);refine OR.val Z Z (Ci underlying227 Z Z (m1.cell_of Z))<|OR.val Z Z (Jp underlying226 Z GU Z (ck) (Z))<|qj (w.heap.size) Z Z (fun _=>rfl) Z underlying227 GU Z Bc Bc Z Z (fun _=>rfl) (by rfl) ((a2.trans xc).size) (h2.ext xc) CA X ?_;rintro _ v2 wd ct b9 d2;have d8:ab∉v.ownBlock.toList:=fun q=>h2.ne h1 Bc ab (by simpa using q) Z;have d9:=m1.mo b9 d8;refine JB Z VR Z Z (by first|rfl|assumption|exact Bo.one Ce) (d9) Bi ?_;rintro we b0 ch;refine OR.nil ?_;replace b0:Bk we ab 227 [v2]:=b0;have d7:ub∉v.ownBlock.toList:=fun q=>h2.ne h4 Bc ub (by simpa using q) Z;have bi:Bk we ub 210 [u]:=((h4.ext xc).mo b9 d7).mo ch Bx;have bh:Mo W we (ab::v.ownBlock.toList):=((Mo.Agk xc _).trans (b9.mono fun k p=>FO _ p)).trans (ch.mono fun k p=>by rw[CF.1 p];exact HI ..)
     have ee:∀k,u.ownBlock=J k->k≠ab/\k∉v.ownBlock.toList/\k≠ub:=fun k p=>by
      obtain⟨_,l5,bx⟩:=h5.blkT k p;refine⟨bx.ne h1 Bc,fun q=>?_,bx.ne h4 Bc⟩;obtain⟨_,l2,e2⟩:=h2.blkT k (by simpa using q);exact bx.ne e2 Bc Z
     have b4:Bo we w.heap.size 58 1 u 0 []:=Bo.mo h5 bh fun k p=>by
      grind
     refine de (fun(u2:Ah) (wf:Ad)=>Mo we wf (ub::u.ownBlock.toList)/\Bk wf ub 210 [u2]/\Bo wf w.heap.size 58 1 u2 1 [.int .u32 ((Ey x:Y):H)]/\(u2.ownBlock=u.ownBlock∨∃g,u2.ownBlock=J g/\we.heap.size<=g)) (fun(u2:Ah) (wf:Ad)=>[(2,U ((20000:Y):H))]) (fun(u2:Ah) (wf:Ad)=>wf) ?_ ?_
     .have cp:∀(w8 w9 L V:Ad) (K:Ah),Bf we.drew w8->Bf w8 w9->Bo L 0 58 1 K (0+1) ([]++[.int .u32 ((Ey x:Y):H)])->w9.grownBy L u.ownBlock->(K.ownBlock=u.ownBlock∨K.ownBlock=J w9.heap.size)->Bk V ub 210 [K]->Mo L V [ub]->Mo we V (ub::u.ownBlock.toList)/\Bk V ub 210 [K]/\Bo V w.heap.size 58 1 K 1 [.int .u32 ((Ey x:Y):H)]/\(K.ownBlock=u.ownBlock∨∃g,K.ownBlock=J g/\we.heap.size<=g):=fun w8 w9 L V K a b c d e f g=>by
       have x9:Bf we w9:=((Bf.drew we).trans a).trans b;have ze:=x9.size;have zz:w.heap.size<=we.heap.size:=BC a2.size bh.size
       have da:∀k,K.ownBlock=J k->w.heap.size<=k/\k≠ub:=fun k p=>by
        rcases e with e|e
        .grind
        .rw[e]at p;injection p with p;have:=bi.lt;omega
       refine⟨((Mo.Agk x9 _).trans ((Mo.grown d (fun k p=>by rw[p];simp)).mono fun k p=>FO _ p)).trans (g.mono fun k p=>by rw[CF.1 p];exact HI ..),f,(Bo.base c fun k p=>(da k p).1).mo g fun k p=>by grind,?_⟩;grind
      have bj:∀(w8 w9 L:Ad),Bf we.drew w8->Bf w8 w9->w9.grownBy L u.ownBlock->Bk L ub 210 [u]:=fun w8 w9 L a b c=>((bi.drew.ext a).ext b).grown c fun e=>(ee ub e.symm).2.2 Z;refine pW (N:=6) (fun w'=>True) Be Z Z ?_;have i:=trivial;refine(Gv [1])<|Ye 0 2 ?_ ?_
      .refine(Jo 0 (he:=by exact Bp bi.drew)) fun i=>(Yc 2 (Uu x X we.drew)) ?_;rintro _ w8⟨rfl,j⟩;refine⟨AB,fun i=>?_⟩;refine PU 3 1 Z Be Z Z underlying210 LM Z Z Z Z Z Bc ?_;rintro qb w9 b5 a7 al;refine⟨AB,fun i=>?_⟩;refine GW.append 4 0 Z Be Z Z underlying210 LM Z Bc Z Z (((b4.ext (Bf.drew we)).ext (j.trans al)).more (BE _)) (Src.Agn (m:=1) underlying210 (Sl.Agl a7 a7.lt) Z (Lz (k:=.u32) (l:=[Ey x])) Bc) CA X (BE _) ?_;rintro K L a0 aj a3;have a5:=bj w8 w9 L j al aj;refine⟨AB,fun i=>?_⟩;refine(Yt 5 a5) ?_;rintro V a4 a6;refine⟨AB,fun i=>?_⟩;refine(Yd) ?_;refine LN<|LU (K) (V) ⟨Z,AB⟩ Z ?_;exact cp w8 w9 L V K j al a0 aj a3 a4 a6
      .refine(Jc 2 (Uu x X we.drew)) ?_;rintro _ w8⟨rfl,j⟩;refine⟨AB,fun i=>?_⟩;refine Ye 0 3 ?_ ?_
       .refine(Jo 0 (he:=by exact Bp (bi.drew.ext j))) fun i=>?_;refine PU 3 1 Z Be Z Z underlying210 LM Z Z Z Z Z Bc ?_;rintro qb w9 b5 a7 al;refine⟨AB,fun i=>?_⟩;refine GW.append 4 0 Z Be Z Z underlying210 LM Z Bc Z Z (((b4.ext (Bf.drew we)).ext (j.trans al)).more (BE _)) (Src.Agn (m:=1) underlying210 (Sl.Agl a7 a7.lt) Z (Lz (k:=.u32) (l:=[Ey x])) Bc) CA X (BE _) ?_;rintro K L a0 aj a3;have a5:=bj w8 w9 L j al aj;refine⟨AB,fun i=>?_⟩;refine(Yt 5 a5) ?_;rintro V a4 a6;refine⟨AB,fun i=>?_⟩;refine(Yd) ?_;refine LN<|LU (K) (V) ⟨Z,AB⟩ Z ?_;exact cp w8 w9 L V K j al a0 aj a3 a4 a6
       .refine Jt 3 1 Z Z Z underlying210 LM Z Z Z Z Z Bc ?_;rintro qb w9 b5 a7 al;refine⟨AB,fun i=>?_⟩;refine(Yo 0 (he:=by exact Bp ((bi.drew.ext j).ext al))) fun i=>?_;refine GW.append 4 0 Z Be Z Z underlying210 LM Z Bc Z Z (((b4.ext (Bf.drew we)).ext (j.trans al)).more (BE _)) (Src.Agn (m:=1) underlying210 (Sl.Agl a7 a7.lt) Z (Lz (k:=.u32) (l:=[Ey x])) Bc) CA X (BE _) ?_;rintro K L a0 aj a3;have a5:=bj w8 w9 L j al aj;refine⟨AB,fun i=>?_⟩;refine(Yt 5 a5) ?_;rintro V a4 a6;refine⟨AB,fun i=>?_⟩;refine(Yd) ?_;refine LN<|LU (K) (V) ⟨Z,AB⟩ Z ?_;exact cp w8 w9 L V K j al a0 aj a3 a4 a6
     .rintro u2 wf⟨mf,eg,b8,d1⟩;refine La<|KR.done ?_;have bc:Bo we w.heap.size 226 2 v2 (1+0+1) (Je (Bz.bitsOf Bz.magicT::List.map (fun x:Nk x=>blkB x.1 (Da x.1)) [])++Ec BB):=ct.mo ch fun k p=>by grind
      have cd:∀k,v2.ownBlock=J k->k≠sb/\k≠mb/\k∉ub::u.ownBlock.toList:=fun k p=>by
       obtain⟨_,lb,hb⟩:=bc.blkT k p
       have n1:k∉ub::u.ownBlock.toList:=fun q=>by
        rcases List.mem_cons.1 q with q|q
        .grind
        .obtain⟨_,l5,bx⟩:=b4.blkT k (by simpa using q);exact hb.ne bx Bc Z
       rcases d2 with e|⟨g,e,hg⟩
       .grind
       .rw[e]at p;injection p with p;exact⟨X,X,n1⟩
      have bn:mb≠ab/\mb∉v.ownBlock.toList/\mb∉ub::u.ownBlock.toList:=⟨h7.ne h1 Bc,fun q=>(h3 mb (by simpa using q)).2 Z,fun q=>by
       grind⟩
      have nm:∀k,k∈v.ownBlock.toList∨k∈u.ownBlock.toList->∃T l,(T=226∨T=58)/\Bk W k T l:=fun k p=>by
       rcases p with p|p
       .obtain⟨_,l',hb⟩:=h2.blkT k (by simpa using p);grind
       .obtain⟨_,l',hb⟩:=h5.blkT k (by simpa using p);grind
      have cv:∀{b:Y} {T:Ay} {l:Bm},Bk W b T l->T≠226->T≠58->b∉v.ownBlock.toList/\b∉u.ownBlock.toList:=fun {b T l} hb q1 q2=>⟨fun q=>by
       obtain⟨T',l',e,cm⟩:=nm b (.inl q);exact hb.ne cm (by rcases e with rfl|rfl<;>assumption) Z,fun q=>by
       obtain⟨T',l',e,cm⟩:=nm b (.inr q);exact hb.ne cm (by rcases e with rfl|rfl<;>assumption) Z⟩
      have kp:∀{b:Y} {T:Ay} {l:Bm},Bk W b T l->b≠ab->b≠ub->(b∉v.ownBlock.toList/\b∉u.ownBlock.toList)->Bk wf b T l:=fun {b T l} hb n1 n2 n3=>(hb.mo bh Bg).mo mf Bg;have mW:Mo W wf (ab::v.ownBlock.toList++(ub::u.ownBlock.toList)):=(bh.mono fun k p=>List.mem_append_left _ p).trans (mf.mono fun k p=>List.mem_append_right _ p);refine fun _ _=>⟨mW.keeps fun k p=>?_,fun k p=>?_,v2,u2,b0.mo mf ?_,?_,fun k p=>⟨(cd k p).1,(cd k p).2.1⟩,eg,b8,fun k p=>?_,kp h7 bn.1 (h7.ne h4 Bc) ⟨bn.2.1,fun q=>bn.2.2 (FO _ q)⟩,kp h8 X X (cv h8 Bc Bc),kp h9 X X (cv h9 Bc Bc),Bu a2 mW a2.size fun k p=>?_,BC d0 mW.size⟩
      .rcases Dx.1 p with q|q<;>rcases List.mem_cons.1 q with q|q
       .grind
       .obtain⟨T,l,_,hb⟩:=nm k (.inl q);exact⟨T,l,hb⟩
       .grind
       .obtain⟨T,l,_,hb⟩:=nm k (.inr q);exact⟨T,l,hb⟩
      .have p:k=sb:=by simpa using p
       rw[p];refine mW.block sb X ?_;simp only[Dx,List.mem_cons,not_or];exact⟨⟨X,fun q=>(h3 sb (by simpa using q)).1 Z⟩,X,fun q=>(h6 sb (by simpa using q)).1 Z⟩
      .grind
      .have:Bo wf w.heap.size 226 2 v2 (1+0+1) (Je (Bz.bitsOf Bz.magicT::List.map (fun x:Nk x=>blkB x.1 (Da x.1)) [])++Ec BB):=bc.mo mf fun k p=>(cd k p).2.2;rw[<-e7]at this;exact this
      .rcases d1 with e|⟨g,e,hg⟩
       .grind
       .rw[e]at p;injection p with p;have:=bh.size;omega
      .rcases Dx.1 p with q|q<;>rcases List.mem_cons.1 q with q|q
       .omega
       .grind
       .omega
       .grind
    .rintro D xs W hD rfl⟨v,u,h1,h2,h3,h4,h5,h6,h7,h8,h9,a2,d0⟩hK
     have c8:∀{α:Type} (f:Bh->α),(KL s).map (fun x:Nk s=>f x.1)=if s=[]then[]else[f s]:=fun f=>by
      unfold KL;split<;>rfl
     rw[c8]at h5;have en:(if s=[]then[]else[Ey s])=Ia s:=rfl;rw[en]at h5
     have ef:Ajb (KL s)=Ajb (Ia s):=by
      unfold KL Ia;split<;>rfl
     rw[ef]at h5
     have e0:∃bl:Ae Bs,(bl=(KL s).map fun x:Nk s=>blkB x.1 (Da x.1))/\bl.flatten=blocksB s (Da s)/\Ajb bl<=1/\Ajb bl=Ajb (KL s):=⟨_,Z,by
      rw[c8 fun x=>blkB x (Da x)];unfold blocksB;grind,by
      grind,Bi⟩
     obtain⟨bl,dk,dg,fv,df⟩:=e0;rw[<-dk,<-df]at h2;obtain⟨Au,cu,rfl,_,d4⟩:=h5.slice;have ez:=Uy _ (nD s)
     have gd:Ajb (Ia s)<=1:=by
      unfold Ia;split<;>simp
     refine La<|BS<|KR.region<|OR.call Z Z Z (Pk W) ?_;rintro _ wa⟨wb,rfl,ed,a8⟩;refine OR.val Z Z (CI Z)<|OR.nil<|BS<|KR.region<|OR.val Z Z (EX.move Z)<|OR.call Z Z Z (GQ W.heap.size wb [] 25779555029136 48 Bc Bc Bc Bc wa ed) ?_;rintro _ wc⟨rfl,ec,tc⟩;refine OR.nil<|BS<|KR.region<|OR.val Z Z (EX.move Z) ?_;have xc:Bf W wc:=tc.below a8 a8.size (Bv _);refine OR.val Z Z (Ci underlying210 Z Z ((h4.ext xc).cell_of Z))<|OR.call Z Z Z (nw (Ia s) Au cu (nD s) X wc _ (d4.ext xc)) ?_;rintro _ _⟨rfl,rfl⟩;refine OR.val Z Z (by first|exact LP (m:=18446744073709551615) underlying58 underlying211 Z Z X|exact MR (m:=18446744073709551616) underlying58 underlying211 Z Z Bc|exact EX.convZ underlying58 underlying211 Z)<|OR.call Z Z Z (GQ W.heap.size wb _ (Hh (Ia s)) 32 X Bc ez (by rw[EP,nb_length];decide) wc ec) ?_;rintro _ we⟨rfl,c4,te⟩;refine OR.nil<|BS ?_;have xe:Bf W we:=te.below xc xc.size (Bv _);generalize dv:[]++nb 48 25779555029136++nb 32 (Hh (Ia s))=EB at c4;have gl:Ajb EB=80:=by rw[<-dv];simp only[BA,nb_length,EZ]
     have C:=c4;have zW:=a2.size;have f7:=h1.lt;have I:=h2.ext xe;have S:∀k,v.ownBlock=J k->w.heap.size<=k/\k<W.heap.size:=fun k p=>h2.lt k p;have bf:ab∉v.ownBlock.toList:=fun q=>h2.ne h1 Bc ab (by simpa using q) Z;have d5:tb∉v.ownBlock.toList:=fun q=>h2.ne h8 Bc tb (by simpa using q) Z;have d6:eb∉v.ownBlock.toList:=fun q=>h2.ne h9 Bc eb (by simpa using q) Z
     have af:(Bz.bitsOf Bz.magicT::bl++[EB]).flatten=MH s (Da s):=by
      rw[<-dv];unfold MH;rw[<-dg];simp only[List.flatten_append,PZ,List.flatten_nil,List.append_nil,EP,Cx,Gi]
     have ge:Ajb (blocksB s (Da s))<=90000000:=eB s X
     have ai:Ajb (MH s (Da s))<=100000000:=by
      rw[streamB_length];omega
     have ba:∀l∈Bz.bitsOf Bz.magicT::bl++[EB],Ajb l<=100000000:=fun l hl=>by
      rw[<-af]at ai;exact BC (uy hl) ai
     have a9:Ajb (Bz.bitsOf Bz.magicT::bl++[EB])=1+Ajb bl+1:=Bx;refine de (fun(ob:Y) (wz:Ad)=>Bk wz ob 226 (Ec (MH s (Da s)))/\Mo W wz v.ownBlock.toList/\W.heap.size<=ob) (fun(ob:Y) (wz:Ad)=>[(6,.pointer (J ⟨tb,0,Aa⟩)),(7,.pointer (J ⟨eb,0,Aa⟩)),(14,.pointer (J ⟨ob,0,Aa⟩)),(15,U ((0:Y):H))]) (fun(ob:Y) (wz:Ad)=>wz) ?_ ?_
     .skip
      refine dh (N:=15) (fun w'=>Bf w w'/\Bk w' ab 227 [v]/\Mo W w' v.ownBlock.toList) Be Z ?_;have i:(fun w'=>Bf w w'/\Bk w' ab 227 [v]/\Mo W w' v.ownBlock.toList) we.drew:=⟨(a2.trans xe).trans (Bf.drew we),(h1.ext xe).drew,Mo.Agk (xe.trans (Bf.drew we)) _⟩;have C:=C.ext (Bf.drew _);have I:=I.ext (Bf.drew _);refine(Gv [0,1,3])<|Ye 2 12 ?_ ?_
      .refine(Jc 2 (NW W.heap.size wb EB we.drew C)) ?_;rintro _ _⟨rfl,rfl⟩;refine⟨i,fun i=>?_⟩;refine Ye 4 12 ?_ ?_
       .refine(Jc 4 (MQ W.heap.size wb EB we.drew C)) ?_;rintro _ _⟨rfl,rfl⟩;refine⟨i,fun i=>?_⟩;refine(Gv [5])<|Ye 6 12 ?_ ?_
        .refine TC 6 1 ([Ec EB]) Z Z Z underlying227 GU Z Bc Z Z Z (by first|(intro v hv;obtain⟨f,hf,rfl⟩:=Cr.1 hv;rfl)|(simp;done)|(simp;rfl)) Bc ?_;rintro co w6 bs h6 y;refine⟨⟨i.1.trans y,i.2.1.ext y,i.2.2.trans (Mo.Agk y _)⟩,fun i=>?_⟩;have C:=C.ext y;have I:=I.ext y;refine Ye 7 12 ?_ ?_
         .refine GO.append 7 0 Z Z Z underlying227 GU Z Bc Z Z (I.more (BE _)) (Src.Agn (m:=1) underlying227 (Sl.Agl h6 h6.lt) Z (by simp[Value.oneCell']) Bc) CA X (BE _) ?_;rintro v7 w7 o G b2;obtain⟨A7,c7,rfl,_,_⟩:=o.slice;refine⟨⟨i.1.grown G fun k p=>(S k p).1,i.2.1.grown G fun e=>bf (by simp[<-e]),i.2.2.trans (Mo.grown G fun k p=>by rw[p];simp)⟩,fun i=>?_⟩;refine Ye 8 12 ?_ ?_
          .refine(Jc 8 (by have:=Ny (Bz.bitsOf Bz.magicT::bl++[EB]) ba X (by rw[af];exact ai) A7 c7 _ w7 (by obtain⟨_,_,e,_,sl⟩:=o.slice;cases e;rw[Rf];exact sl);rw[a9,af]at this;exact this)) ?_;rintro _ w8⟨rfl,j⟩;refine⟨⟨i.1.trans j,i.2.1.ext j,i.2.2.trans (Mo.Agk j _)⟩,fun i=>?_⟩;have o:=o.ext j;refine(Gv [9,10,11]∘Yn 12) ?_;rintro ob a1 E t n;have P:W.heap.size<=ob:=BC i.2.2.size E;refine⟨⟨i.1.trans n,i.2.1.ext n,i.2.2.trans (Mo.Agk n _)⟩,fun i=>?_⟩;have o:=o.ext n;refine(Ys 13 t) ?_;rintro ao Q r;refine⟨⟨Bu i.1 r i.1.size Bx,i.2.1.mo r Bx,(i.2.2.Agu r P)⟩,fun i=>?_⟩;refine(Gv [14]∘Yd) ?_;refine LN<|LU ob ao ⟨Z,Z,Z,Z,AB⟩ Z ?_;exact⟨Q,i.2.2,P⟩
          .refine(Jn 12) ?_;rintro ob a1 E t n;have P:W.heap.size<=ob:=BC i.2.2.size E;refine⟨⟨i.1.trans n,i.2.1.ext n,i.2.2.trans (Mo.Agk n _)⟩,fun i=>?_⟩;have o:=o.ext n;refine(Yc 8 (by have:=Ny (Bz.bitsOf Bz.magicT::bl++[EB]) ba X (by rw[af];exact ai) A7 c7 _ a1 (by obtain⟨_,_,e,_,sl⟩:=o.slice;cases e;rw[Rf];exact sl);rw[a9,af]at this;exact this)) ?_;rintro _ w8⟨rfl,j⟩;refine⟨⟨i.1.trans j,i.2.1.ext j,i.2.2.trans (Mo.Agk j _)⟩,fun i=>?_⟩;have o:=o.ext j;have t:=t.ext j;refine(Gv [9,10,11]∘Ys 13 t) ?_;rintro ao Q r;refine⟨⟨Bu i.1 r i.1.size Bx,i.2.1.mo r Bx,(i.2.2.Agu r P)⟩,fun i=>?_⟩;refine(Gv [14]∘Yd) ?_;refine LN<|LU ob ao ⟨Z,Z,Z,Z,AB⟩ Z ?_;exact⟨Q,i.2.2,P⟩
         .refine(Jn 12) ?_;rintro ob a1 E t n;have P:W.heap.size<=ob:=BC i.2.2.size E;refine⟨⟨i.1.trans n,i.2.1.ext n,i.2.2.trans (Mo.Agk n _)⟩,fun i=>?_⟩;have C:=C.ext n;have I:=I.ext n;have h6:=h6.ext n;refine GW.append 7 0 Z Be Z Z underlying227 GU Z Bc Z Z (I.more (BE _)) (Src.Agn (m:=1) underlying227 (Sl.Agl h6 h6.lt) Z (by simp[Value.oneCell']) Bc) CA X (BE _) ?_;rintro v7 w7 o G b2;have t:=t.grown G (fun e=>by have:=(S _ e.symm).2;omega);obtain⟨A7,c7,rfl,_,_⟩:=o.slice;refine⟨⟨i.1.grown G fun k p=>(S k p).1,i.2.1.grown G fun e=>bf (by simp[<-e]),i.2.2.trans (Mo.grown G fun k p=>by rw[p];simp)⟩,fun i=>?_⟩;refine(Yc 8 (by have:=Ny (Bz.bitsOf Bz.magicT::bl++[EB]) ba X (by rw[af];exact ai) A7 c7 _ w7 (by obtain⟨_,_,e,_,sl⟩:=o.slice;cases e;rw[Rf];exact sl);rw[a9,af]at this;exact this)) ?_;rintro _ w8⟨rfl,j⟩;refine⟨⟨i.1.trans j,i.2.1.ext j,i.2.2.trans (Mo.Agk j _)⟩,fun i=>?_⟩;have t:=t.ext j;have o:=o.ext j;refine(Gv [9,10,11]∘Ys 13 t) ?_;rintro ao Q r;refine⟨⟨Bu i.1 r i.1.size Bx,i.2.1.mo r Bx,(i.2.2.Agu r P)⟩,fun i=>?_⟩;refine(Gv [14]∘Yd) ?_;refine LN<|LU ob ao ⟨Z,Z,Z,Z,AB⟩ Z ?_;exact⟨Q,i.2.2,P⟩
        .refine(Jn 12) ?_;rintro ob a1 E t n;have P:W.heap.size<=ob:=BC i.2.2.size E;refine⟨⟨i.1.trans n,i.2.1.ext n,i.2.2.trans (Mo.Agk n _)⟩,fun i=>?_⟩;have C:=C.ext n;have I:=I.ext n;refine GB 6 1 ([Ec EB]) Z Be Z Z underlying227 GU Z Bc Z Z Z (by first|(intro v hv;obtain⟨f,hf,rfl⟩:=Cr.1 hv;rfl)|(simp;done)|(simp;rfl)) Bc ?_;rintro co w6 bs h6 y;refine⟨⟨i.1.trans y,i.2.1.ext y,i.2.2.trans (Mo.Agk y _)⟩,fun i=>?_⟩;have C:=C.ext y;have I:=I.ext y;have t:=t.ext y;refine GW.append 7 0 Z Be Z Z underlying227 GU Z Bc Z Z (I.more (BE _)) (Src.Agn (m:=1) underlying227 (Sl.Agl h6 h6.lt) Z (by simp[Value.oneCell']) Bc) CA X (BE _) ?_;rintro v7 w7 o G b2;have t:=t.grown G (fun e=>by have:=(S _ e.symm).2;omega);obtain⟨A7,c7,rfl,_,_⟩:=o.slice;refine⟨⟨i.1.grown G fun k p=>(S k p).1,i.2.1.grown G fun e=>bf (by simp[<-e]),i.2.2.trans (Mo.grown G fun k p=>by rw[p];simp)⟩,fun i=>?_⟩;refine(Yc 8 (by have:=Ny (Bz.bitsOf Bz.magicT::bl++[EB]) ba X (by rw[af];exact ai) A7 c7 _ w7 (by obtain⟨_,_,e,_,sl⟩:=o.slice;cases e;rw[Rf];exact sl);rw[a9,af]at this;exact this)) ?_;rintro _ w8⟨rfl,j⟩;refine⟨⟨i.1.trans j,i.2.1.ext j,i.2.2.trans (Mo.Agk j _)⟩,fun i=>?_⟩;have t:=t.ext j;have o:=o.ext j;refine(Gv [9,10,11]∘Ys 13 t) ?_;rintro ao Q r;refine⟨⟨Bu i.1 r i.1.size Bx,i.2.1.mo r Bx,(i.2.2.Agu r P)⟩,fun i=>?_⟩;refine(Gv [14]∘Yd) ?_;refine LN<|LU ob ao ⟨Z,Z,Z,Z,AB⟩ Z ?_;exact⟨Q,i.2.2,P⟩
       .refine(Jn 12) ?_;rintro ob a1 E t n;have P:W.heap.size<=ob:=BC i.2.2.size E;refine⟨⟨i.1.trans n,i.2.1.ext n,i.2.2.trans (Mo.Agk n _)⟩,fun i=>?_⟩;have C:=C.ext n;have I:=I.ext n;refine(Yc 4 (MQ W.heap.size wb EB a1 C)) ?_;rintro _ _⟨rfl,rfl⟩;refine⟨i,fun i=>?_⟩;refine(Gv [5]) ?_;refine GB 6 1 ([Ec EB]) Z Be Z Z underlying227 GU Z Bc Z Z Z (by first|(intro v hv;obtain⟨f,hf,rfl⟩:=Cr.1 hv;rfl)|(simp;done)|(simp;rfl)) Bc ?_;rintro co w6 bs h6 y;refine⟨⟨i.1.trans y,i.2.1.ext y,i.2.2.trans (Mo.Agk y _)⟩,fun i=>?_⟩;have C:=C.ext y;have I:=I.ext y;have t:=t.ext y;refine GW.append 7 0 Z Be Z Z underlying227 GU Z Bc Z Z (I.more (BE _)) (Src.Agn (m:=1) underlying227 (Sl.Agl h6 h6.lt) Z (by simp[Value.oneCell']) Bc) CA X (BE _) ?_;rintro v7 w7 o G b2;have t:=t.grown G (fun e=>by have:=(S _ e.symm).2;omega);obtain⟨A7,c7,rfl,_,_⟩:=o.slice;refine⟨⟨i.1.grown G fun k p=>(S k p).1,i.2.1.grown G fun e=>bf (by simp[<-e]),i.2.2.trans (Mo.grown G fun k p=>by rw[p];simp)⟩,fun i=>?_⟩;refine(Yc 8 (by have:=Ny (Bz.bitsOf Bz.magicT::bl++[EB]) ba X (by rw[af];exact ai) A7 c7 _ w7 (by obtain⟨_,_,e,_,sl⟩:=o.slice;cases e;rw[Rf];exact sl);rw[a9,af]at this;exact this)) ?_;rintro _ w8⟨rfl,j⟩;refine⟨⟨i.1.trans j,i.2.1.ext j,i.2.2.trans (Mo.Agk j _)⟩,fun i=>?_⟩;have t:=t.ext j;have o:=o.ext j;refine(Gv [9,10,11]∘Ys 13 t) ?_;rintro ao Q r;refine⟨⟨Bu i.1 r i.1.size Bx,i.2.1.mo r Bx,(i.2.2.Agu r P)⟩,fun i=>?_⟩;refine(Gv [14]∘Yd) ?_;refine LN<|LU ob ao ⟨Z,Z,Z,Z,AB⟩ Z ?_;exact⟨Q,i.2.2,P⟩
      .refine(Jn 12) ?_;rintro ob a1 E t n;have P:W.heap.size<=ob:=BC i.2.2.size E;refine⟨⟨i.1.trans n,i.2.1.ext n,i.2.2.trans (Mo.Agk n _)⟩,fun i=>?_⟩;have C:=C.ext n;have I:=I.ext n;refine(Yc 2 (NW W.heap.size wb EB a1 C)) ?_;rintro _ _⟨rfl,rfl⟩;refine⟨i,fun i=>?_⟩;refine(Yc 4 (MQ W.heap.size wb EB a1 C)) ?_;rintro _ _⟨rfl,rfl⟩;refine⟨i,fun i=>?_⟩;refine(Gv [5]) ?_;refine GB 6 1 ([Ec EB]) Z Be Z Z underlying227 GU Z Bc Z Z Z (by first|(intro v hv;obtain⟨f,hf,rfl⟩:=Cr.1 hv;rfl)|(simp;done)|(simp;rfl)) Bc ?_;rintro co w6 bs h6 y;refine⟨⟨i.1.trans y,i.2.1.ext y,i.2.2.trans (Mo.Agk y _)⟩,fun i=>?_⟩;have C:=C.ext y;have I:=I.ext y;have t:=t.ext y;refine GW.append 7 0 Z Be Z Z underlying227 GU Z Bc Z Z (I.more (BE _)) (Src.Agn (m:=1) underlying227 (Sl.Agl h6 h6.lt) Z (by simp[Value.oneCell']) Bc) CA X (BE _) ?_;rintro v7 w7 o G b2;have t:=t.grown G (fun e=>by have:=(S _ e.symm).2;omega);obtain⟨A7,c7,rfl,_,_⟩:=o.slice;refine⟨⟨i.1.grown G fun k p=>(S k p).1,i.2.1.grown G fun e=>bf (by simp[<-e]),i.2.2.trans (Mo.grown G fun k p=>by rw[p];simp)⟩,fun i=>?_⟩;refine(Yc 8 (by have:=Ny (Bz.bitsOf Bz.magicT::bl++[EB]) ba X (by rw[af];exact ai) A7 c7 _ w7 (by obtain⟨_,_,e,_,sl⟩:=o.slice;cases e;rw[Rf];exact sl);rw[a9,af]at this;exact this)) ?_;rintro _ w8⟨rfl,j⟩;refine⟨⟨i.1.trans j,i.2.1.ext j,i.2.2.trans (Mo.Agk j _)⟩,fun i=>?_⟩;have t:=t.ext j;have o:=o.ext j;refine(Gv [9,10,11]∘Ys 13 t) ?_;rintro ao Q r;refine⟨⟨Bu i.1 r i.1.size Bx,i.2.1.mo r Bx,(i.2.2.Agu r P)⟩,fun i=>?_⟩;refine(Gv [14]∘Yd) ?_;refine LN<|LU ob ao ⟨Z,Z,Z,Z,AB⟩ Z ?_;exact⟨Q,i.2.2,P⟩
     .rintro ob wz⟨ep,mz,gg⟩;have e6:=(PM.1 hK).1
      have e4:wz.heap[D]? =J (.deferred (J [])):=(mz.block D e6 fun q=>by
       obtain⟨_,l',fr,hb,_⟩:=h2.blkT D (by simpa using q);grind).trans hK
      have xz:Bf w wz:=Bu a2 mz a2.size fun k p=>(S k (by simpa using p)).1;have ek:=h8.mo mz d5;have es:=h9.mo mz d6;have f8:=mz.size;refine BS<|KR.region<|OR.val Z Z (Do (off:=0) underlying226 Z Z Gz Z Z)<|OR.val Z Z (Ci underlying9 Z Z (ep.cell_of Z))<|OR.val Z Z (EX.move Z)<|JB Z Gz Z Z (by first|rfl|assumption|exact Bo.one Ce) (ek) Bi ?_;rintro wy ce bm;replace ce:Bk wy tb 9 [Bl (packS s (Da s))]:=ce;have et:=es.mo bm Bx;refine JB Z VS Z Z (by first|rfl|assumption|exact Bo.one Ce) (et) Bi ?_;rintro wx ew cg;refine OR.nil ?_;have el:=ce.mo cg Bx;have e5:wx.heap[D]? =J (.deferred (J [])):=(cg.block D (by have:=bm.size;omega) Bx).trans ((bm.block D X Bx).trans e4);refine Kf<|Aab (.inr Z) Z Z (e5) Z underlying9 Z underlying34 Z Z Z (el) (ew) ?_;refine⟨Z,Bf.putObj (Bu (Bu xz bm xz.size Bx) cg (BC xz.size bm.size) Bx) X _⟩
    .simp
def Bo.apart{w w':Ad}{B T s n B2 T2 s2 n2:Y}{v v2:Ah}{xs xs2:Bm}(h:Bo w B T s v n xs)(h2:Bo w B2 T2 s2 v2 n2 xs2)(hT:T≠T2)(hg:w.grownBy w' v2.ownBlock):Bo w' B T s v n xs:=
 Bo.mo h (Mo.grown (S:=v2.ownBlock.toList) hg (fun k e=>by grind)) fun k hk q=>by
  obtain⟨_,l,hb⟩:=h.blkT k hk;obtain⟨_,l2,hb2⟩:=h2.blkT k Bg;exact hb.ne hb2 hT Z
def Adx(s:Bh)(room d:Y)(out:Bh)(a:Bj):KO s room 0 d out a=Aa:=by rfl
def Adw{s:Bh}{room f a:Y}{out:Bh}{d:Bj}{r:Bh×Y}(h:KO s room (f+1) a out d=J r):a+48<=8*Ajb s/\
 ((num (BX s a 48)=25779555029136/\a+80<=8*Ajb s/\num (BX s (a+48) 32)=Hh d/\r=(out,(a+87)/8))∨
  (num (BX s a 48)=54156738319193/\∃x,NR s a room=J x/\Ajb out+Ajb x.1<=262144/\KO s room f x.2.2 (out++x.1) (d++[x.2.1])=J r)):=by
 rw[KO]at h;grind
def Adu{s:Bh}{p most:Y}{r:Bh×Y×Y}(h:NR s p most=J r):r.2.1=Ey r.1:=by
 obtain⟨_,_,_,_,_,_,_,_,_,_,_,_,_,_,e⟩:=nI h;rw[e]
def Aeb(s:Bh)(p:Y)(C:Ajb s<=1000000000)(r:Bh×Y)(h:takeS s p=J r)(w:Ad):
 Bn prog 92 [Bl s,U (p:H)] w fun v w'=>v=.tuple #[Bl r.1,U ((r.2:Y):H),U ((0:Y):H)]/\Bf w w':=by
 unfold takeS at h;split at h
 .cases h
 rename_i k hk;obtain⟨h1,_,_,_,_,k1,k9⟩:=jn hk;have m:1<=min (k*100000) 262144/\min (k*100000) 262144<=262144:=X;refine Bw func92 Z ntmps92 (by rfl) Z ?_;refine(O 13)<|Zd 21 (fun c1=>?_) fun c1=>?_
 .omega
 .refine(O 6∘Cb 26∘O 6∘Zc (Ace s p k C hk w)) ?_;rintro _ _⟨rfl,rfl⟩;refine(O 12∘Cb 34∘O 21)<|Lo (fun((f,d,j,a,G,E,wr):Y×Y×(Bh)×(Bj)×Ah×Ah×Ad)=>(KO s (min (k*100000) 262144) f d j a=J r/\Bo wr w.heap.size 5 1 G (Ajb j) (BI j)/\Bo wr w.heap.size 58 1 E (Ajb a) (BD .u32 a)/\(∀x∈a,x<4294967296)/\Ajb a+f<=8*Ajb s+1/\Ajb j<=262144/\Bf w wr,[(0,Bl (s)),(7,U k),(8,U ((0:Y):H)),(9,G),(10,E),(11,U d)],wr,f)) ((8*Ajb s+1),(8*(p+4)),([]),([]),(.slice Aa 0 0),(.slice Aa 0 0),w) ?_ ?_
  .exact⟨h,Bo.nil _ _ _ _,Bo.nil _ _ _ _,(fun x hx=>by grind),Bi,Bi,Bf.refl _⟩
  .rintro⟨f,d,j,a,G,E,wr⟩⟨hl,Q,q,B,hf,al,hx⟩
   obtain⟨f,rfl⟩:∃g,f=g+1:=⟨f-1,by
    rcases f with _|f
    .rw[Adx]at hl;grind
    .omega⟩
   obtain⟨q1,q2⟩:=Adw hl;have af:=Ky s d 48;have cn:=nd s d 48 Bc q1 C wr;refine(O 5∘Zc cn) ?_;rintro _ D⟨rfl,l⟩;refine(O 12∘Cb 46∘O 12) ?_;have x1:=hx.trans l;rcases q2 with⟨e1,W,V,rfl⟩|⟨e1,x,W,V,e4⟩
   .refine(HO 49 (e:=e1)∘O 7) ?_;obtain⟨As,cs,rfl,_,I⟩:=q.slice;have a1:=Uy a B;have ai:=Ky s (d+48) 32;refine(Zc (nd s (d+48) 32 Bc X C D)) ?_;rintro _ w2⟨rfl,i⟩;refine(O 12∘Zoa 93 (e:=Z)∘O 3∘Zc (nw a As cs B X w2 _ ((I.ext l).ext i))) ?_;rintro _ _⟨rfl,rfl⟩;refine(O 3∘Cb 99 (e:=by exact fun z=>z V)∘O 8∘Cb 101∘O 5) ?_;obtain⟨Ao,co,rfl,_,n⟩:=Q.slice;refine(Zv (Eb ((n.ext l).ext i))∘O 8∘CT) ?_;exact⟨Z,x1.trans i⟩
   .refine(Cb 49∘O 6∘HO 51 (e:=e1)∘O 6∘Zc (mr k X D)) ?_;rintro _ _⟨rfl,rfl⟩;have eq:=Adu W;obtain⟨x,xs,xq⟩:=x;simp only at eq V e4;subst eq;have cz:=Qu x;have cb:=rE s d (min (k*100000) 262144) m C (x,Ey x,xq) W D;simp only at cb;refine(Zc cb) ?_;rintro _ w2⟨rfl,i⟩;refine(O 12) ?_;have ao:Ajb (BI x)=Ajb x:=by simp[BI]
    have x2:=x1.trans i;have A:=(Q.ext l).ext i;have P:=(q.ext l).ext i;obtain⟨Ao,co,rfl,a0,n⟩:=Q.slice;refine(O 4∘Zoa 65 (e:=Z)∘O 8∘Cb 72∘O 8∘Cb 74∘O 5) ?_;refine HL Z Z underlying23 CE Z Bc Z Z (x2) (A) (Src.Agy underlying9 x) CA X ?_;rintro v3 w3 o N T aj;refine(O 2) ?_;have t:=Bo.apart P A Bc T;refine(He N t) ?_;rintro _ v4 w4 ab L S _;refine(O 7) ?_;have K:=Bo.apart o t Bc S;refine Lb (f,xq,(j++x),(a++[Ey x]),v3,v4,w4) ?_;refine⟨e4,?_,?_,fun y hy=>?_,Bg,Bg,L⟩
    .rw[BA,Xq];omega
    .rw[BA,<-KG];grind
    .grind
end
section
attribute [local irreducible] OW KW QW EX GW NV
def Bd(w:Ad)(B b:Y)(l:Bh):Prop:=
 B<=b/\∃p v,(p=.pointer Aa∨p=.pointer (J ⟨b,0,Aa⟩))/\Bk w b 102 [p,v]/\(l=[]->v=.slice Aa 0 0)/\Bo w B 5 1 v (Ajb l) (BI l)
def Bd.new{w:Ad}{B b:Y}(hB:B<=b)(h:Bk w b 102 [.pointer Aa,.slice Aa 0 0]):Bd w B b []:=⟨hB,_,_,.inl Z,h,fun _=>rfl,Bo.nil _ _ _ _⟩
def Bd.ext{w w':Ad}{B b:Y}{l:Bh}(h:Bd w B b l)(hx:Bf w w'):Bd w' B b l:=by
 obtain⟨g,p,v,f,e,d,a⟩:=h;exact⟨g,p,v,f,e.ext hx,d,a.ext hx⟩
def sr(b:Y)(p v:Ah)(w:Ad)(d:p=.pointer Aa∨p=.pointer (J ⟨b,0,Aa⟩))(a:Bk w b 102 [p,v]):
 Bn prog 83 [.pointer (J ⟨b,0,Aa⟩)] w fun r w'=>r=.tuple #[]/\Bk w' b 102 [.pointer (J ⟨b,0,Aa⟩),v]/\Mo w w' [b]:=by
 refine Bw func83 Z ntmps83 Be Z ?_;refine(O 6) ?_;rcases d with rfl|rfl
 .refine(O 6∘Zv (by exact pF (s:=1) underlying100 underlying201 Be a.shape (Nat.zero_lt_succ _) Z)∘Zv (by exact pa func111 Be Be Be (E:=Extern.AbiNoEscape.same) Be Z (Lib.run_noEscape _ _))∘Zv (by exact pc (z:=2) underlying201 underlying100 Be a.shape Be Z)∘O 2∘Zt a) ?_;rintro g f e;refine(O 1) ?_;refine KW.done<|HX Z ?_;grind
 .refine(O 10∘Zv (by exact pz (z:=2) underlying100 Be Z Z)∘O 3) ?_;refine KW.done<|HX Z ?_;exact⟨Z,a,Mo.refl _ _⟩
def OD(T:Ay):Ar:=T==102||T==5
def bN(B b:Y)(l s:Bh)(w:Ad)(h:Bd w B b l)(hs:s≠[])(V:Ajb l+Ajb s<=140737488355328)(P:B<=w.heap.size):
 Bn prog 49 [.pointer (J ⟨b,0,Aa⟩),Bl s] w fun r w'=>(∃q,r=q)/\Bd w' B b (l++s)/\Below B w w'/\Tm w w' B OD:=by
 obtain⟨t,p,v,hp,L,hn,g⟩:=h;have af:Ajb (BI l)=Ajb l:=by simp[BI]
 refine Bw func49 Z ntmps49 (by rfl) Z ?_;refine(O 8∘Zc (sr b p v w hp L)) ?_;rintro _ C⟨rfl,x,m⟩;refine(O 7) ?_;have a:=g.mo m (fun k f=>by simp;exact fun z=>g.ne L Bc k f z.symm);have b1:Below B w C:=Bu (Below.refl B w) m P (fun k f=>by simp at f;omega);have y:B<=C.heap.size:=BC P b1.size;refine(O 2) ?_;refine OW.append B Z Z underlying23 CE Z Bc Z Z a (Src.Agy underlying9 s) CA X y ?_;rintro v2 A d n ab;refine(O 2) ?_;have o:=x.grown n (fun z=>a.ne x Bc b z.symm Z);have W:Below B w A:=Bu b1 (Mo.grown n (S:=v.ownBlock.toList) (fun k e=>by grind)) y (fun k f=>(a.lt k (FC.1 f)).1);have N:B<=A.heap.size:=BC P W.size;refine(Zt o) ?_;rintro Q K j;refine(O 8) ?_;have b3:Below B w Q:=Bu W j N (fun k f=>by simp at f;omega);have I:=d.mo j (fun k f=>by simp;exact fun z=>d.ne o Bc k f z.symm);have G:Tm w C B OD:=(Tm.set L m t).mono fun T i=>by simp at i;simp[OD,i]
 have E:Tm C A B OD:=(Tm.grown a n).mono fun T i=>by simp at i;simp[OD,i]
 have D:Tm A Q B OD:=(Tm.set o j t).mono fun T i=>by simp at i;simp[OD,i]
 refine(BG) ?_;refine⟨⟨_,Z⟩,⟨t,_,v2,.inr Z,K,fun q=>absurd q (by simp[hs]),?_⟩,b3,(G.trans E).trans D⟩;rw[BA];have e:BI (l++s)=BI l++BI s:=by simp[BI]
 grind
def oR(B b:Y)(l s:Bh)(w:Ad)(h:Bd w B b l)(hs:s≠[])(hlen:Ajb l+Ajb s<=140737488355328)(hB:B<=w.heap.size):
 Bn prog 49 [.pointer (J ⟨b,0,Aa⟩),Bl s] w fun r w'=>(∃q,r=q)/\Bd w' B b (l++s)/\Below B w w':=
 (bN B b l s w h hs hlen hB).mono fun _ _ h=>⟨h.1,h.2.1,h.2.2.1⟩
def Xo(B b:Y)(l:Bh)(w:Ad)(h:Bd w B b l)(j:Ajb l<=140737488355328)(C:B<=w.heap.size):
 Bn prog 51 [.pointer (J ⟨b,0,Aa⟩)] w fun r w'=>r=Bl l/\Below B w w':=by
 obtain⟨x,p,v,A,d,n,a⟩:=h;refine Bw func51 Z ntmps51 Be Z ?_;refine(O 5) ?_;rcases Decidable.em (l=[])with hl|hl
 .obtain rfl:=n hl;subst hl;refine(O 4∘Zq (by exact fun _=>Bp d)∘Zq (by exact fun _=>pE Z)∘O 3∘Zq (by exact fun _=>Bp d)∘O 1∘Zq (by exact fun _=>pG Z Z)∘O 1∘QW.nil) fun k=>(Br) ?_;exact⟨Z,Uo (Below.refl B w) k⟩
 .have e:Ajb l≠0:=fun z=>hl (Ih z);rcases a.2 with⟨_,m⟩|⟨g,y,rest,rfl,o,i,f,t,q⟩
  .exact AI m e
  .refine Kg 10 Be Be<|HW.val Z Z (EX.move Z)<|HW.val Z Z (DS Z)<|HW.val Z Z (Do (off:=1) underlying102 Z Z Rt Z Z)<|HW.val Z Z (Ci underlying23 Z Z (d.cell_of Z))<|HW.val Z Z (cS X Z)<|HW.val Z Z (EX.move Z)<|HW.val Z Z (DS Z)<|HW.val Z Z (Do (off:=1) underlying102 Z Z Rt Z Z)<|HW.val Z Z (Ci underlying23 Z Z (d.cell_of Z))<|HW.val Z Z (PS underlying23 Z)<|HW.tail<|(Zv (by exact cU (g:=g) (l:=l) (rest:=rest) underlying157 Be (i.drewN _) hl X Z Z)∘O 2∘Br) ?_;exact⟨Z,Lib.below_freeze (Uo (Below.refl B w) _) (p:=⟨g,0,Aa⟩) o _⟩
end
section
attribute [local irreducible] OW KW QW EX GW NV
open Fld
def YX(l:Bh)(w:Ad):Bn prog 192 [Bl l,.int .u8 ((0:Y):H)] w fun v w'=>v=U (Lib.indexByte l 0)/\w'=w:=
 Hc func192 (by rfl) (Tryz.strings_IndexByte ⟨⟨l⟩⟩ 0 w)
def ZU(s:Bh)(Q:Ajb s<=140737488355328)(a bs m:Y)(I:Bm)(p:AH->Ar)(f:Y->Ad->Prop)(S:Bj)(E:a∉S)(D:bs∉S)(N:a≠bs)
 (g:∀j w (h:j<Ajb s),f j w->Bn prog m ([.int .u8 ((s[j]'h).toNat:H)]++I) w fun v w'=>v=.bool (p (s[j]'h))/\Mo w w' S/\f (if p (s[j]'h)then j+1 else j) w')
 (n:∀j w w',f j w->Mo w w' [a]->f j w')
 (i:Y) (hi:i<=Ajb s) (w:Ad) (y:Bk w a 3 [U (i:H)]) (t:Bk w bs 9 [Bl s]) (x:f i w):
 Bn prog 241 [.func (.func m) #[] I.toArray,.pointer (J ⟨a,0,Aa⟩),.pointer (J ⟨bs,0,Aa⟩)] w fun v w'=>
  v=.tuple #[]/\∃i':Y,i'<=Ajb s/\s.drop i'=(s.drop i).dropWhile p/\Bk w' a 3 [U (i':H)]/\Bk w' bs 9 [Bl s]/\f i' w'/\Mo w w' (a::S):=by
 refine Bw func241 Z ntmps241 (by rfl) Z ?_;refine(O 1)<|Lo (fun((j,wr):Y×Ad)=>(j<=Ajb s/\(s.drop j).dropWhile p=(s.drop i).dropWhile p/\Bk wr a 3 [U (j:H)]/\Bk wr bs 9 [Bl s]/\f j wr/\Mo w wr (a::S),[(0,.func (.func m) #[] I.toArray),(1,.pointer (J ⟨a,0,Aa⟩)),(2,.pointer (J ⟨bs,0,Aa⟩))],wr,Ajb s-j)) (i,w) ?_ ?_
 .exact⟨hi,Z,y,t,x,Mo.refl _ _⟩
 .rintro⟨j,wr⟩⟨T,K,y,t,x,B⟩;refine(O 8)<|Zd 8 (fun A=>?_) fun A=>?_
  .refine(O 4∘DW (g j wr A x)) ?_;rintro _ P⟨rfl,d,e⟩;refine(O 2) ?_;have q:=y.mo d E;have o:=t.mo d D;refine HD Z (fun r=>?_) (fun r=>?_)
   .rw[Ai r]at e;refine(O 5∘Zt q) ?_;rintro L G l;refine(O 2)<|Lb ((j+1),L) ?_;refine⟨X,?_,G,o.mo l Bg,n _ _ _ e l,(B.trans (d.mono (fun k C=>by simp[C]))).trans (l.mono Bi)⟩;rw[<-K,XX s j A,List.dropWhile_cons_of_pos r]
   .rw[Ag (by simp[r])]at e;refine(O 1) ?_;refine KW.done<|HX Z ?_;refine⟨Z,j,X,?_,q,o,e,B.trans (d.mono (fun k C=>by simp[C]))⟩;rw[<-K,XX s j A,dm (by simp[r])]
  .refine(O 9) ?_;refine KW.done<|HX Z ?_;obtain rfl:j=Ajb s:=X;refine⟨Z,Ajb s,X,?_,y,t,x,B⟩;simp_all
def sp_c(c:AH)(w:Ad):Bn prog 242 [.int .u8 (c.toNat:H)] w fun v w'=>v=.bool (HV 32 32 c)/\w=w':=by
 refine Bw func242 Z ntmps242 (by rfl) Z ?_;refine(O 10∘Br) ?_;exact⟨by simp[HV],Z⟩
def nul_c(c:AH)(w:Ad):Bn prog 244 [.int .u8 (c.toNat:H)] w fun v w'=>v=.bool (HV 32 0 c)/\w=w':=by
 refine Bw func244 Z ntmps244 (by rfl) Z ?_;refine(O 9)<|Zd 5 (fun a=>?_) fun a=>?_
 .refine(O 5∘Br) ?_;exact⟨by simp[HV,a],Z⟩
 .refine(O 5∘Br) ?_;exact⟨by simp[HV,a],Z⟩
def oct_c(c:AH)(g f:Y)(l:g≠f)(n:Y)(y:n<=90071992547409920+255)(w:Ad)(i:Bk w g 4 [.bool (decide (9007199254740992<n))])(h:Bk w f 3 [U (n:H)]):
 Bn prog 243 [.int .u8 (c.toNat:H),.pointer (J ⟨g,0,Aa⟩),.pointer (J ⟨f,0,Aa⟩)] w fun v w'=>v=.bool (Fi c)/\Mo w w' [g,f]/\
  ∃m:Y,m=(if Fi c=Af then(if n<=9007199254740992 then 8*n+(c.toNat-48)else n)else n)/\Bk w' g 4 [.bool (decide (9007199254740992<m))]/\Bk w' f 3 [U (m:H)]:=by
 have A:c.toNat<256:=c.toNat_lt;refine Bw func243 Z ntmps243 (by rfl) Z ?_;refine(O 10)<|Zd 7 (fun r=>?_) fun r=>?_
 .have a:Fi c=Aj:=by simp only[Fi,Rz,decide_eq_false_iff_not];omega
  refine(O 9∘Br) ?_;rw[a];exact⟨Z,Mo.refl _ _,n,Z,i,h⟩
 .refine(O 4)<|Zi (fun q=>?_) fun q=>?_
  .have a:Fi c=Aj:=by simp only[Fi,Rz,decide_eq_false_iff_not];omega
   refine(O 4∘Br) ?_;rw[a];exact⟨Z,Mo.refl _ _,n,Z,i,h⟩
  .have a:Fi c=Af:=by simp only[Fi,Bool.and_eq_true,decide_eq_true_eq];omega
   refine(O 7)<|Zi (fun p=>?_) fun p=>?_
   .refine(O 5∘Zv (by exact Kc (b:=48) (m:=255) Z Z Z X)∘O 2∘Zt h) ?_;rintro x j e;refine(O 2) ?_;have k:=i.mo e Bx;refine(O 2∘Zt k) ?_;rintro t o d;refine(O 5∘Br) ?_;refine⟨by rw[a],(e.mono Bi).trans (d.mono Bi),_,Z,?_,?_⟩
    .grind
    .rw[Ai a,Ai X];exact j.mo d Bx
   .refine(O 5∘Br) ?_;refine⟨by rw[a],Mo.refl _ _,n,?_,i,h⟩;grind
def tE(l:Bh)(p:AH->Ar):(l.dropWhile p).takeWhile p=[]:=by
 cases h:l.dropWhile p with
 |nil=>rfl
 |cons c r=>
  have:=List.head_dropWhile_not p (l:=l) Bg;simp_all
def yp(s:Bh)(hs:Ajb s<=140737488355328)(w:Ad):
 Bn prog 191 [Bl s] w fun v w'=>v=.tuple #[U ((num s).1:Y),U ((num s).2:Y)]/\Bf w w':=by
 refine Bw func191 Z ntmps191 (by rfl) Z ?_;refine(O 2) ?_;refine Ma Z Z Z Z ?_;rintro bs w1 bf E r;refine(O 5∘Me) ?_;rintro bi w2 bc K l;have l1:=E.lt;refine(Zt K) ?_;rintro w3 a7 x;refine(O 3∘Zv (by exact Gf Z Z)∘O 5) ?_;have a0:=(E.ext l).mo x Bx;have e3:Bf w w3:=Bu (r.trans l) x (by have:=r.size;have:=l.size;omega) Bg;have z2:=l.size;have z1:=r.size;have z3:=x.size;have l2:=K.lt;refine(DW (ZU s hs bi bs _ [] (HV 32 32) (fun _ _=>True) [] Bi Bi X (fun j w hj _=>(sp_c _ w).mono fun v w'⟨N,L⟩=>⟨N,L▸Mo.refl _ _,AB⟩) (fun _ _ _ _ _=>trivial) 0 X w3 a7 a0 AB)) ?_;rintro _ w4⟨rfl,i4,aj,o,d,p,_,A⟩;refine(O 3) ?_;have e4:Bf w w4:=Bu e3 A X Bx;have z4:=A.size;refine(Me) ?_;rintro T w5 ba I k;refine(Me) ?_;rintro V w6 a9 G e;have l5:=I.lt;have l6:=G.lt;have z5:=k.size;have z6:=e.size;refine(Zt (I.ext e)) ?_;rintro w7 a4 g;have a2:=G.mo g Bx;refine(Zt a2) ?_;rintro w8 bq f;refine(O 4∘Zv (by exact Gf Z Z)) ?_;have z7:=g.size;have z8:=f.size;have bx:=a4.mo f Bx;have a6:=(((d.ext k).ext e).mo g (by simp;have:=d.lt;omega)).mo f (by simp;have:=d.lt;omega);have ao:=(((p.ext k).ext e).mo g (by simp;have:=p.lt;omega)).mo f (by simp;have:=p.lt;omega);have e8:Bf w w8:=Bu (Bu ((e4.trans k).trans e) g X Bx) f X Bx
 have af:=ZU s hs bi bs 243 [.pointer (J ⟨V,0,Aa⟩),.pointer (J ⟨T,0,Aa⟩)] Fi (fun j w=>∃n:Y,n<=90071992547409920+255/\Fw 8 n ((s.drop j).takeWhile Fi)=Fw 8 0 ((s.drop i4).takeWhile Fi)/\Bk w V 4 [.bool (decide (9007199254740992<n))]/\Bk w T 3 [U (n:H)]) [V,T] (by simp;have:=d.lt;omega) (by simp;have:=p.lt;omega) X
  (fun j w hj⟨n,Q,q,hb,hi⟩=>(oct_c (s[j]) V T X n Q w hb hi).mono fun v w'⟨N,L,m,B,h3,h4⟩=>by
   have hc:(s[j]).toNat<256:=(s[j]).toNat_lt;refine⟨N,L,m,Bg,?_,h3,h4⟩;rw[<-q,XX s j hj];by_cases ho:Fi s[j]=Af
   .rw[Ai ho]at B ⊢;rw[List.takeWhile_cons_of_pos ho,Fw,B]
   .simp_all)
  (fun j w w'⟨n,Q,q,hb,hi⟩B=>⟨n,Q,q,hb.mo B (by simp;have:=d.lt;omega),hi.mo B (by simp;have:=d.lt;omega)⟩)
  i4 aj w8 a6 ao ⟨0,X,Z,Bg,Bg⟩
 refine(DW af) ?_;rintro _ w9⟨rfl,i9,ai,C,a5,al,⟨n,Q,q,a1,a3⟩,y⟩;refine(O 4) ?_;have z9:=y.size;have e9:Bf w w9:=Bu e8 y X Bx;refine(DW (ZU s hs bi bs _ [] (HV 32 0) (fun _ _=>True) [] Bi Bi X (fun j w hj _=>(nul_c _ w).mono fun v w'⟨N,L⟩=>⟨N,L▸Mo.refl _ _,AB⟩) (fun _ _ _ _ _=>trivial) i9 ai w9 a5 al AB)) ?_;rintro _ W⟨rfl,ab,a8,D,bm,bh,_,i⟩;refine(O 4) ?_;have P:Bf w W:=Bu e9 i X Bx;have bj:=a1.mo i Bx;have bl:=a3.mo i Bx;refine(O 5) ?_;rw[C,tE]at q;simp only[Fw]at q;rw[Ot]at o
 have t:(((s.dropWhile (HV 32 32)).dropWhile Fi).dropWhile (HV 32 0)≠[])↔ab<Ajb s:=by
  rw[<-o,<-C,<-D];simp
 refine Zi (fun S=>?_) fun S=>?_
 .have a:num s=(0,150):=by simp only[num];rw[Ai (t.2 S)]
  refine(O 5∘BG) ?_;grind
 .refine(O 6)<|Zi (fun h6=>?_) fun h6=>?_
  .have a:num s=(0,3):=by simp only[num];rw[Ag (fun h=>S (t.1 h)),<-o,<-q,Ai h6]
   refine(O 5∘BG) ?_;rw[a];exact⟨Z,P⟩
  .have a:num s=(n,0):=by simp only[num];rw[Ag (fun h=>S (t.1 h)),<-o,<-q,Ag h6]
   refine(O 7∘BG) ?_;rw[a];exact⟨Z,P⟩
def nC(s:Bh)(k:Ajb s<=140737488355328)(w:Ad):
 Bn prog 155 [Bl s] w fun v w'=>v=.tuple #[U ((sum s).1:Y),U ((sum s).2:Y)]/\w=w':=by
 refine Bw Bi Z ntmps155 (by rfl) Z ?_;refine(O 12)<|Zi (fun a=>?_) fun a=>?_
 .have j:sum s=(0,2):=by unfold sum;rw[Ai a]
  refine(O 5∘BG) ?_;grind
 .have j:sum s=(Fm s 512,0):=by unfold sum;rw[Ag a]
  refine(O 13)<|Lo (fun i=>(i<=512,[(0,Bl _),(4,.int _ (((Fm s i)):H)),(10,.int _ _),(11,.int _ i)],w,512-i)) 0 ?_ ?_
  .omega
  .rintro i l;have n:=VM s i;refine(O 5)<|Zi (fun d=>?_) fun d=>?_
   .have m:s[i].toNat<256:=s[i].toNat_lt;have f:s.getD i 0=s[i]:=by simp[BR d]
    refine(O 13)<|Zd 16 (fun h=>?_) fun h=>?_
    .refine(O 4)<|Zi (fun g=>?_) fun g=>?_
     .refine(O 10∘Cs 4 (U (((Fm s (i+1)):Y))) (e:=by simp[Fm,h,g]))<|Lb _ ?_;omega
     .refine(O 14∘Cs 4 (.int _ (((Fm s (i+1))):H)) (e:=by simp only[Fm];rw[Ag X,f]))<|Lb _ ?_;omega
    .refine(O 19∘Cs 4 (.int _ (((Fm s (i+1))):H)) (e:=by simp only[Fm];rw[Ag X,f]))<|Lb _ ?_;omega
   .refine(O 7∘BG) ?_;grind
def Xr(n:Y):BI (Cu n)=BJ n (.int .u8 0):=by simp[BI,Cu]
def Ss(s:Bh)(f:Ajb s<=140737488355328)(w:Ad):
 Bn prog 154 [Bl s] w fun v w'=>v=Bl (cut s)/\w=w':=by
 refine Bw func154 Z ntmps154 (by rfl) Z ?_;refine(O 8∘Zc (YX s w)) ?_;rintro _ _⟨rfl,rfl⟩;refine(O 7) ?_;rcases OV s 0 with⟨a,d⟩|⟨i,a,d,e,g⟩
 .rw[a];refine Zi (fun h=>?_) fun h=>?_
  .omega
  .refine(O 6∘Br) ?_;rw[UA d];exact⟨Z,Z⟩
 .rw[a];refine Zi (fun h=>?_) fun h=>?_
  .refine(O 4∘Zv (by exact Kb underlying9 Z Z X)∘O 2∘Br) ?_;rw[cut,e];exact⟨Z,Z⟩
  .omega
def Vf(n:Y):Ajb (Cu n)=n:=by simp[Cu]
def nP{s:Bh}{m:H}(h:m<0∨512<m):text s m=([],2):=by unfold text;grind
def bp{s:Bh}{m:H}(h:¬(m<0∨512<m))(a:m<Ajb s∨cut s≠s):text s m=([],150):=by unfold text;grind
def nU{s:Bh}{m:H}(h:¬(m<0∨512<m))(a:¬(m<Ajb s∨cut s≠s)):text s m=(s++Cu (m.toNat-Ajb s),0):=by unfold text;grind
def Aeq(s:Bh)(y:Ajb s<=140737488355328)(n:H)(h0:-9223372036854775808<=n)(h1:n<=9223372036854775807)(w:Ad):
 Bn prog 260 [Bl s,U n] w fun v w'=>v=.tuple #[Bl (text s n).1,U ((text s n).2:Y)]/\Bf w w':=by
 refine Bw func260 Z ntmps260 (by rfl) Z ?_;refine(O 11)<|Zd 8 (fun j=>?_) fun j=>?_
 .have a:=nP (s:=s) (.inl j);refine(O 10∘BG) ?_;rw[a];exact⟨Z,Bf.refl _⟩
 .refine(O 4)<|Zi (fun h=>?_) fun h=>?_
  .have a:=nP (s:=s) (.inr h);refine(O 5∘BG) ?_;rw[a];exact⟨Z,Bf.refl _⟩
  .have d:¬(n<0∨512<n):=X;obtain⟨m,rfl⟩:=EY (show 0<=n by omega);refine(O 9)<|Zd 16 (fun p=>?_) fun p=>?_
   .have a:=bp d (.inl (show(m:H)<Ajb s by omega));refine(O 11∘BG) ?_;rw[a];exact⟨Z,Bf.refl _⟩
   .refine(O 1∘Zc (YX s w)) ?_;rintro _ _⟨rfl,rfl⟩;refine(O 3) ?_;rcases OV s 0 with⟨f,k⟩|⟨i,f,k,A,r⟩
    .rw[f];have a:=nU (s:=s) (m:=(m:H)) d (by rintro(q|q);omega;exact q (UA k));refine Zi (fun e=>?_) fun e=>?_
     .omega
     .refine(O 8∘Gk) ?_;rintro b t o g x;rw[<-Xr]at g;have l:=Vf (m-Ajb s);refine(Zv (Eb g.sl (hl:=Vf _))∘O 4∘BG) ?_;grind
    .rw[f];have a:=bp (s:=s) (m:=(m:H)) d (.inr (fun q=>(Uz s).1 q r));refine Zi (fun e=>?_) fun e=>?_
     .refine(O 5∘BG) ?_;rw[a];exact⟨Z,Bf.refl _⟩
     .omega
def kT{n m:H}(h:m<2∨20<m):El n m=([],2):=by unfold El;grind
def ZL{n:H}{k:Y}(h:1<=k)(hk:k<=19)(a:n<0∨n/8 ^ k≠0):El n ((k+1:Y):H)=([],150):=by
 unfold El;grind
def ZM{n k:Y}(h:1<=k)(hk:k<=19)(a:n/8 ^ k=0):El (n:H) ((k+1:Y):H)=(Dm n k++[0],0):=by
 unfold El;grind
def yr(n k c:Y)(e:c<k):(BI (Cu (k-c)++Dm n c++[0])).set (k-1-c) (.int .u8 ((Ml (n/8 ^ c%8)).toNat:H))=BI (Cu (k-(c+1))++Dm n (c+1)++[0]):=by
 have d:Cu (k-c)=Cu (k-(c+1))++[0]:=by
  unfold Cu;rw[show k-c=(k-(c+1))+1 by omega,RT]
 have a:Ajb (BI (Cu (k-(c+1))))=k-1-c:=by simp[BI,Cu];omega
 rw[d,Vh];simp only[Cx,RU,Gi,Xq];rw[<-a,Nc _ _ (Bv _)];simp[BI]
def tv{d:Y}(h:d<10):(Ml d).toNat=48+d:=by
 simp[Ml];omega
def kU(n:H)(h0:-9223372036854775808<=n)(h1:n<=9223372036854775807)(m:H)(Q:-9223372036854775808<=m)(P:m<=9223372036854775807)(w:Ad):
 Bn prog 222 [U n,U m] w fun v w'=>v=.tuple #[Bl (El n m).1,U ((El n m).2:Y)]/\Bf w w':=by
 refine Bw func222 Z ntmps222 (by rfl) Z ?_;refine(O 11)<|Zd 10 (fun B=>?_) fun B=>?_
 .have d:=kT (n:=n) (.inl B);refine(O 10∘BG) ?_;rw[d];exact⟨Z,Bf.refl _⟩
 .refine(O 4)<|Zi (fun A=>?_) fun A=>?_
  .have d:=kT (n:=n) (.inr A);refine(O 5∘BG) ?_;rw[d];exact⟨Z,Bf.refl _⟩
  .obtain⟨k,rfl⟩:∃k:Y,m=((k+1:Y):H):=⟨m.toNat-1,X⟩;have g:1<=k/\k<=19:=X;refine(O 7)<|Zd 16 (fun y=>?_) fun y=>?_
   .have d:=ZL g.1 g.2 (.inl y);refine(O 14∘BG) ?_;rw[d];exact⟨Z,Bf.refl _⟩
   .obtain⟨a,rfl⟩:=EY (show 0<=n by omega);refine(O 4∘Zv (by exact II (s:=3*(k+1-1)) (p:=8 ^ k) Z Z (by rw[Nat.pow_mul];rfl) (by show 3*(k+1-1)<=64;omega))∘O 3)<|Zi (fun r=>?_) fun r=>?_
    .have d:=ZL (n:=(a:H)) g.1 g.2 (.inr (fun q=>r Bg));refine(O 5∘BG) ?_;rw[d];exact⟨Z,Bf.refl _⟩
    .have d:=ZM (n:=a) g.1 g.2 (Dk.1 r);refine(O 4∘Gk) ?_;rintro b D I l G;refine(O 10∘Cs 7 (U (((k:H)-1-((0:Y):H)):H)) (e:=by congr 1;omega)) ?_;rw[<-Xr]at l;refine Lo (fun((c,x,wr):Y×Y×Ad)=>(c<=k/\x=a/8 ^ c/\x<=9223372036854775807/\Bk wr b 5 (BI (Cu (k-c)++Dm a c++[0]))/\Bf w wr,[(0,U x),(6,.slice (J ⟨b,0,Aa⟩) (k+1) (k+1)),(7,U (((k:H)-1-(c:H)):H))],wr,k-c)) (0,a,D) ?_ ?_
     .refine⟨X,Bi,X,?_,G⟩;have:Cu (k-0)++Dm a 0++[0]=Cu (k+1):=by simp[Cu,Dm,RT]
      grind
     .rintro⟨c,x,wr⟩⟨N,h,E,l,f⟩;refine(O 6)<|Zi (fun L=>?_) fun L=>?_
      .refine(Cs 7 (U (((k-1-c):Y):H)) (e:=by congr 1;omega)) ?_;have t:Ajb (BI (Cu (k-c)++Dm a c++[0]))=k+1:=by simp[BI,Cu,QS];omega
       refine(O 8∘Zv (by exact MU (b:=7) (j:=3) (p:=8) (m:=9223372036854775807) Z Z Bc Bc Z X)∘O 3∘Zt l) ?_;rintro C K o;refine(O 3) ?_;refine OW.val Z Z (by first|exact II (s:=3) (p:=8) Z Z Bc Bc|exact EX.shrZ (s:=3) (p:=8) Z Z Bc Bc)<|(O 8∘Cs 7 (U (((k:H)-1-((c+1:Y):H)):H)) (e:=by congr 1;omega))<|Lb ((c+1),(x/8),C) ?_;refine⟨X,by rw[h,WR,Kt],X,?_,Bu f o f.size Bg⟩;rw[<-yr _ _ _ X,tv X,<-h];omega
      .obtain rfl:c=k:=X;refine(O 4) ?_;have i:=l.sl;rw[Fa]at i;refine(Zv (Eb i (hl:=by simp[Cu,QS]))∘O 3∘BG) ?_;rw[d];exact⟨Z,f⟩
def yt(n m:H):Ajb (El n m).1<=20:=by
 unfold El;split
 .simp
 .split
  .simp
  .simp[QS];omega
def Aeo(s:Bh)(m:H):Ajb (text s m).1<=512:=by
 unfold text;split
 .simp
 .split
  .simp
  .simp[Cu];omega
def Aep{s:Bh}{m:H}(h:(text s m).2=0):cut (text s m).1=s/\(Ajb (text s m).1:H)=m:=by
 unfold text at h ⊢;split at h
 .simp at h
 .rename_i d;rw[Ag d];split at h
  .simp at h
  .rename_i a;rw[Ag a];refine⟨fE (IG fun q=>a (.inr q)) _,?_⟩;simp[Cu];omega
end
section
attribute [local irreducible] OW KW QW EX GW NV
open Fld Ust
abbrev Fd:=Bh×Y
def Iq(f:Fd):Bm:=[Bl f.1,U ((f.2:Y):H)]
def FI(s:Bh)(width most:H):Fd:=((text s width).1,if most<(Ajb s:H)then 150 else(text s width).2)
def EL(s:Bh)(t:Ajb s<=140737488355328)(n:H)(h0:-9223372036854775808<=n)(h1:n<=9223372036854775807)(m:H)(w:Ad):
 Bn prog 220 [Bl s,U n,U m] w fun v w'=>v=.agg (Iq (FI s n m)).toArray/\Bf w w':=by
 refine Bw func220 Z ntmps220 Be Z ?_;refine(O 2∘Zn) ?_;rintro y r p o i;refine(O 5∘Zc (Aeq s t n h0 h1 r)) ?_;rintro _ x⟨rfl,f⟩;refine(O 14) ?_;have g:=o.ext f;have h:=i.trans f;refine Zi (fun j=>?_) fun j=>?_
 .have e:FI s n m=((text s n).1,150):=by unfold FI;rw[Ai j]
  refine(O 8∘Zs g (hlt:=Bv _)) ?_;rintro q d a;refine(O 1∘Kw d) ?_;rw[e];exact⟨Z,Bu h a h.size (fun k l=>by simp at l;omega)⟩
 .have e:FI s n m=((text s n).1,(text s n).2):=by unfold FI;rw[Ag j]
  refine(O 6∘Zs g (hlt:=Bv _)) ?_;rintro q d a;refine(O 1∘Kw d) ?_;rw[e];exact⟨Z,Bu h a h.size (fun k l=>by simp at l;omega)⟩
def Hz(n:H)(h0:-9223372036854775808<=n)(h1:n<=9223372036854775807)(m:H)(p:-9223372036854775808<=m)(o:m<=9223372036854775807)(w:Ad):
 Bn prog 221 [U n,U m] w fun v w'=>v=.agg (Iq (El n m)).toArray/\Bf w w':=by
 refine Bw func221 Z ntmps221 Be Z ?_;refine(O 2∘Zn) ?_;rintro x l j h d;refine(O 5∘Zc (kU n h0 h1 m p o l)) ?_;rintro _ r⟨rfl,a⟩;refine(O 11) ?_;have g:=h.ext a;have i:=d.trans a;refine(Zs g (hlt:=Bv _)) ?_;rintro q f e;refine(O 1∘Kw f) ?_;exact⟨Z,Bu i e i.size (fun k t=>by grind)⟩
def FV(l:Ae Fd):Bh×Ar:=if ∀f∈l,f.2=0 then(l.flatMap (·.1),Af)else([],Aj)
def Mr(l:Ae Fd)(T:∀f∈l,f.2=0->f.1≠[])(t:∀f∈l,Ajb f.1<=1000)(hl:Ajb l<=1000)(A:Aw AC)(k B:Y)(w:Ad)(hs:Sl w B A (l.flatMap Iq)):
 Bn prog 219 [.slice A (Ajb l) k] w fun v w'=>v=.tuple #[Bl (FV l).1,.bool (FV l).2]/\Bf w w':=by
 have r:∀i,Ajb ((l.take i).flatMap (·.1))<=1000*i:=by
  intro i
  induction i with
  |zero=>simp
  |succ i ih=>
   rw[LY];grind
 refine Bw func219 Z ntmps219 (by rfl) Z ?_;refine(O 7∘Zn) ?_;rintro L w1 y af P;refine(O 9)<|Lo (fun((i,wr):Y×Ad)=>(i<=Ajb l/\(∀j f,j<i->l[j]? =J f->f.2=0)/\Bd wr w.heap.size L ((l.take i).flatMap (·.1))/\Bf w wr,[(4,.pointer (J ⟨L,0,Aa⟩)),(7,.slice A (Ajb l) k),(8,U ((Ajb l:Y):H)),(9,U i)],wr,Ajb l-i)) (0,w1) ?_ ?_
 .exact⟨X,fun j f K=>by omega,Bd.new y af,P⟩
 .rintro⟨i,wr⟩⟨hi,hz,n,I⟩;have Q:=r i;refine(O 5)<|Zi (fun a=>?_) fun a=>?_
  .obtain⟨b,o,rfl,_,d⟩:=(hs.ext I).flat (c:=2) (fun _=>rfl) Bi a;have m:=BM a;have S:l.take (i+1)=l.take i++[l[i]]:=(CS a).symm;have x:l[i]? =J l[i]:=BR a;have W:=t _ m;have C:=T _ m;generalize l[i]=f at d S x W C;refine(O 6∘Zv (Dr (Iq f) d)∘Zn) ?_;rintro fb w2 ai ab q;refine(Zs ab (hlt:=Bv _)) ?_;rintro N D V;refine(O 5) ?_;replace D:Bk N fb 316 (Iq f):=D;have p:Bf wr N:=Bu q V q.size (fun k hk=>by grind);have x3:=I.trans p;have E:=n.ext p;refine(O 3)<|Zi (fun G=>?_) fun G=>?_
   .refine(O 5∘BG) ?_
    have e:FV l=([],Aj):=by
     unfold FV;rw[Ag];intro h;have:=h f (WI x);omega
    grind
   .have h0:f.2=0:=X;refine(O 4∘Zc (oR w.heap.size L _ f.1 N E (C h0) X x3.size)) ?_;rintro _ w4⟨⟨q4,rfl⟩,aj,b4⟩;refine(O 6)<|Lb ((i+1),w4) ?_;refine⟨X,fun j g K hg=>?_,?_,Below.trans x3 b4⟩
    .grind
    .grind
  .obtain rfl:i=Ajb l:=X;rw[DV]at n Q;refine(O 3∘Zc (Xo w.heap.size L _ wr n X I.size)) ?_;rintro _ w5⟨rfl,b5⟩;refine(O 3∘BG) ?_
   have e:FV l=(l.flatMap (·.1),Af):=by
    unfold FV;rw[Ai];intro f hf;obtain⟨j,K,rfl⟩:=List.getElem_of_mem hf;exact hz j _ K (BR K)
   rw[e];exact⟨Z,Below.trans I b5⟩
end
section
attribute [local irreducible] OW KW QW EX GW NV
def lK(p:Bh)(x:Ajb p<=9223372036854775807)(w:Ad):Bn prog 127 [Bl p] w fun v w'=>∃r,v=.tuple #[Bl r.1,Bl r.2.1,.bool r.2.2]/\RH p r/\Bf w w':=by
 refine Bw Bi Z ntmps127 Be Z ?_;refine(O 13)<|Zi (fun d=>?_) fun d=>?_
 .refine(O 7∘CT) ?_;exact⟨([],p,Af),Z,.inl ⟨X,Z⟩,Bf.refl _⟩
 .refine(O 7)<|Lo (fun i=>((1<=i/\i<=Ajb p/\∀j,j<i->¬good p j),[(0,Bl _),(5,.int _ i)],w,Ajb p-i)) 1 ?_ ?_
  .exact⟨X,X,fun j f a=>by have:=a.2.1;omega⟩
  .rintro i⟨k,y,g⟩
   have stop:¬(i<Ajb p-1/\i<=155)->∀j,¬good p j:=fun h j a=>by
    rcases Df j i with f|f
    .grind
    .have:=a.2.2;omega
   refine(O 9)<|Zd 15 (fun q=>?_) fun q=>?_
   .refine(O 4)<|Zi (fun o=>?_) fun o=>?_
    .have e:i<Ajb p:=X;have l:=uR e;refine(O 10)<|Zd 25 (fun n=>?_) fun n=>?_
     .refine(O 8)<|Zi (fun m=>?_) fun m=>?_
      .have a:good p i:=Bg;refine(O 4∘Zq (by exact fun _=>Kb Bi Z Z X)∘O 3∘Zq (by exact fun _=>MW Bi Z Z X)∘O 3∘QW.nil) fun t=>(CT) ?_;exact⟨(p.take i,p.drop (i+1),Af),Z,.inr (.inl ⟨X,i,a,g,Z⟩),Bf.drewN _ _⟩
      .refine(O 7)<|Lb _ ?_;grind
     .refine(O 16)<|Lb _ ?_;grind
    .refine(O 7∘CT) ?_;exact⟨([],[],Aj),Z,.inr (.inr ⟨X,stop X,Z⟩),Bf.refl _⟩
   .refine(O 12∘CT) ?_;exact⟨([],[],Aj),Z,.inr (.inr ⟨X,stop X,Z⟩),Bf.refl _⟩
end
section
attribute [local irreducible] OW KW QW EX GW NV
open Fld Ust
def _root_.Go.Proofs.YtkmlafmjaeeanaaGreatDoor.Ust.Hd.cells(h:Hd):Bm:=[Bl h.path,U h.size,.int .u8 (h.kind:H),U h.mode,U h.time,Bl h.link,Bl h.n0,Bl h.n1,U h.i0,U h.i1]
def Ke(n:H):Prop:=-9223372036854775808<=n/\n<=9223372036854775807
structure _root_.Go.Proofs.YtkmlafmjaeeanaaGreatDoor.Ust.Hd.Ok(h:Hd):Prop where
 kind:h.kind<=255
 path:Ajb h.path<=140737488351232
 link:Ajb h.link<=140737488351232
 n0:Ajb h.n0<=140737488351232
 n1:Ajb h.n1<=140737488351232
 size:Ke h.size
 mode:Ke h.mode
 time:Ke h.time
 i0:Ke h.i0
 i1:Ke h.i1
def QH{s:Bh}{n m:Y}(h:KJ s m)(hm:m<=n)(a:n<=512):FI s (n:H) (m:H)=(DB s n,0):=by
 have d:=h.1;unfold FI;rw[Ag X,nU X (by rw[not_or,Dk];exact⟨X,UA h.2⟩)];rfl
def ua{s:Bh}{n m:Y}(h:¬KJ s m)(a:n<=512):(FI s (n:H) (m:H)).2≠0:=by
 unfold FI;simp only;split
 .decide
 .rename_i d;rw[bp X (.inr fun e=>h ⟨X,(Uz s).1 e⟩)];decide
def QR{n:H}{k:Y}(hk:1<=k)(d:k<=19){m:H}(h:CJ n m)(hm:m<((8 ^ k:Y):H)):El n ((k+1:Y):H)=(oc n k,0):=by
 obtain⟨a,rfl⟩:=EY h.1;have:=QC h hm;rw[ZM hk d Bg];rfl
def yu{n:H}{k:Y}(hk:1<=k)(d:k<=19){m:H}(h:¬CJ n m)(hm:m+1=((8 ^ k:Y):H)):(El n ((k+1:Y):H)).2≠0:=by
 rw[ZL hk d]
 .decide
 .by_cases j:n<0
  .omega
  .refine .inr fun e=>h ⟨X,?_⟩;obtain⟨a,rfl⟩:=EY (show 0<=n by omega);have g:(((a/8 ^ k:Y)):H)=0:=by simpa using e
   have f:a/8 ^ k=0:=by exact_mod_cast g
   have i:a<8 ^ k:=by
    rcases Nat.div_eq_zero_iff.1 f with h|h
    .grind
    .omega
   omega
def L1(h:Hd)(name:Bh):Ae Fd:=[FI name 100 100,El h.mode 8,El h.i0 8,El h.i1 8,El h.size 12,El h.time 12,FI [] 8 8]
def L2(h:Hd)(pre:Bh):Ae Fd:=[([BU h.kind],0),FI h.link 100 100,(magic,0),FI h.n0 32 31,FI h.n1 32 31,El 0 8,El 0 8,FI pre 155 155,FI [] 12 12]
def gy(n:Y)(h:n<=512):FI [] (n:H) (n:H)=(Cu n,0):=by
 rw[QH (s:=[]) (n:=n) (m:=n) ⟨Bi,Bi⟩ (Bv _) h];rfl
def vR{h:Hd}(hm:May h){pre a:Bh}(g:Ajb a<=100)(f:Ajb pre<=155)(e:(0:AH)∉a)(d:(0:AH)∉pre):
 FV (L1 h a)=((Hv h a).flatten++Cu 8,Af)/\FV (L2 h pre)=((Ib h pre).flatten,Af):=by
 have C:=QH (s:=a) (n:=100) (m:=100) ⟨g,e⟩ Bc Bc;have B:=QR (k:=7) Bc Bc hm.mode Bc;have A:=QR (k:=7) Bc Bc hm.i0 Bc;have y:=QR (k:=7) Bc Bc hm.i1 Bc;have x:=QR (k:=11) Bc Bc hm.size Bc;have w:=QR (k:=11) Bc Bc hm.time Bc;have v:=gy 8 Bc;have t:=QH (s:=h.link) (n:=100) (m:=100) hm.link Bc Bc;have r:=QH (s:=h.n0) (n:=32) (m:=31) hm.n0 Bc Bc;have q:=QH (s:=h.n1) (n:=32) (m:=31) hm.n1 Bc Bc;have p:=QR (n:=0) (m:=0) (k:=7) Bc Bc ⟨Bc,Bc⟩ Bc;have o:=QH (s:=pre) (n:=155) (m:=155) ⟨f,d⟩ Bc Bc;have l:=gy 12 Bc
 have j:L1 h a=[(DB a 100,0),(oc h.mode 7,0),(oc h.i0 7,0),(oc h.i1 7,0),(oc h.size 11,0),(oc h.time 11,0),(Cu 8,0)]:=by
  rw[<-C,<-B,<-A,<-y,<-x,<-w,<-v];rfl
 have i:L2 h pre=[([BU h.kind],0),(DB h.link 100,0),(magic,0),(DB h.n0 32,0),(DB h.n1 32,0),(oc 0 7,0),(oc 0 7,0),(DB pre 155,0),(Cu 12,0)]:=by
  rw[<-t,<-r,<-q,<-p,<-o,<-l];rfl
 constructor
 .rw[j];unfold FV;rw[Ai Bi];simp[Hv]
 .rw[i];rfl
def jC{l:Ae Fd}(h:(FV l).2=Af):∀f∈l,f.2=0:=by
 unfold FV at h;grind
def vQ{h:Hd}{pre a:Bh}(hk:IV h.kind)(d:(0:AH)∉h.path)(h1:(FV (L1 h a)).2=Af)(l:(FV (L2 h pre)).2=Af):May h:=by
 have e:=jC h1;have i:=jC l;have p:∀{n:H} {k:Y} {m:H},1<=k->k<=19->m+1=((8 ^ k:Y):H)->(El n ((k+1:Y):H)).2=0->CJ n m:=fun hk g j d=>IG fun f=>yu hk g f j d;have q:∀{s:Bh} {n m:Y},n<=512->(FI s (n:H) (m:H)).2=0->KJ s m:=fun f d=>IG fun h=>ua h f d
 exact⟨hk,d,q (n:=100) Bc (i _ (by simp[L2])),q (n:=32) Bc (i (FI h.n0 32 31) (by simp[L2])),q (n:=32) Bc (i (FI h.n1 32 31) (by simp[L2])),
  p (k:=7) Bc Bc Bc (e (El h.mode 8) (by simp[L1])),p (k:=7) Bc Bc Bc (e (El h.i0 8) (by simp[L1])),p (k:=7) Bc Bc Bc (e (El h.i1 8) (by simp[L1])),
  p (k:=11) Bc Bc Bc (e (El h.size 12) (by simp[L1])),p (k:=11) Bc Bc Bc (e (El h.time 12) (by simp[L1]))⟩
structure FdOk(f:Fd):Prop where
 ne:f.2=0->f.1≠[]
 len:Ajb f.1<=1000
def OP{s:Bh}{n:Y}{m:H}(h0:1<=n):FdOk (FI s (n:H) m):=by
 refine⟨fun h e=>?_,?_⟩
 .unfold FI at h e;simp only at h e;split at h
  .omega
  .have:=(Aep h).2;grind
 .have:=Aeo s n;show Ajb (text s n).1<=1000;omega
def OO(n:H)(m:Y)(hm:2<=m):FdOk (El n (m:H)):=by
 refine⟨fun h e=>?_,?_⟩
 .unfold El at h e;split at h
  .exact AI h Bc
  .rename_i d;rw[Ag d]at e;split at h
   .exact AI h Bc
   .rename_i a;rw[Ag a]at e;simp at e
 .have:=yt n m;omega
def l1_ok(h:Hd)(a:Bh):∀f∈L1 h a,FdOk f:=by
 intro f d;simp only[L1,List.mem_cons,List.not_mem_nil,or_false]at d;rcases d with rfl|rfl|rfl|rfl|rfl|rfl|rfl
 .exact OP (n:=100) Bc
 .exact OO _ 8 Bc
 .exact OO _ 8 Bc
 .exact OO _ 8 Bc
 .exact OO _ 12 Bc
 .exact OO _ 12 Bc
 .exact OP (n:=8) Bc
def l2_ok(h:Hd)(pre:Bh):∀f∈L2 h pre,FdOk f:=by
 intro f a;simp only[L2,List.mem_cons,List.not_mem_nil,or_false]at a;rcases a with rfl|rfl|rfl|rfl|rfl|rfl|rfl|rfl|rfl
 .exact⟨fun _=>by simp,Bi⟩
 .exact OP (n:=100) Bc
 .exact⟨fun _=>by decide,Bc⟩
 .exact OP (n:=32) Bc
 .exact OP (n:=32) Bc
 .exact OO _ 8 Bc
 .exact OO _ 8 Bc
 .exact OP (n:=155) Bc
 .exact OP (n:=12) Bc
def Mx{w:Ad}{b k:Y}{T:Ay}(h:Bk w b T [.int .u8 (k:H)])(hk:k<=255):Sl w w.heap.size (J ⟨b,0,Aa⟩) (BI [BU k]):=by
 have e:BI [BU k]=[.int .u8 (k:H)]:=by
  have:(BU k).toNat=k:=Bx;simp[BI,this]
 rw[e];exact h.sl
def sq(c:Y)(d:c<=255)(w:Ad):Bn prog 168 [Bl [48,53,120,103],Bl [BU c]] w fun v w'=>v=.bool (decide (IV c))/\w=w':=by
 refine(Hc func168 (by rfl) (Tryz.strings_Contains_one ⟨#[48,53,120,103]⟩ (BU c) w)).mono ?_;rintro v w'⟨rfl,rfl⟩;refine⟨Av Value.bool (decide_eq_decide.2 ?_),Z⟩;have e:(BU c).toNat=c:=Bx
 have a:BU c∈([48,53,120,103]:Bh)↔IV c:=by
  unfold IV;simp only[List.mem_cons,List.not_mem_nil,or_false,<-Ll,e];rfl
 rcases OV [48,53,120,103] (BU c)with⟨h1,h2⟩|⟨i,h1,_,_,h2⟩
 .grind
 .grind
def Afc(h:Hd)(ho:h.Ok)(w:Ad):Bn prog 166 [.agg h.cells.toArray] w fun v w'=>v=.tuple #[Bl (JJ h).1,U (((JJ h).2:Y):H)]/\Bf w w':=by
 have hk:=ho.kind;have b7:=ho.path;have q1:=ho.size;have q2:=ho.mode;have q3:=ho.time;have q4:=ho.i0;have q5:=ho.i1;unfold Ke at q1 q2 q3 q4 q5;refine Bw func166 Z ntmps166 Be Z ?_;refine(O 2) ?_;refine Dz Z Z Z ?_;rintro Q w0 b4 a6 bl;refine(O 6) ?_;replace a6:Bk w0 Q 167 h.cells:=a6;refine(O 1∘Zc (lK h.path X w0)) ?_;rintro _ w1⟨r,rfl,hr,ao⟩;refine(O 10) ?_;obtain rfl:=nj hr;have x1:=bl.trans ao;have b2:=a6.ext ao;rcases hs1:(BP h.path).2.2 with _|_
 .skip
  have e:JJ h=([],140):=by unfold JJ;rw[Ai (.inl hs1)]
  refine(O 15∘BG) ?_;grind
 .skip
  refine(O 6∘Zv (by exact HC (r:=[]) Z Z)∘O 2)<|Zi (fun ai=>?_) fun ai=>?_
  .have e:JJ h=([],140):=by unfold JJ;rw[Ai (.inr ai)]
   refine(O 5∘BG) ?_;grind
  .obtain⟨p1,p2,p3,p4,p5,p6,p7⟩:=aP hs1 ai;have b8:¬((BP h.path).2.2=Aj∨h.path=[]):=by rw[hs1];simp[ai]
   have bi:¬May h->JJ h=([],160):=fun hm=>by unfold JJ;grind
   have bh:May h->JJ h=(CY h,0):=fun hm=>by unfold JJ;grind
   refine(O 6) ?_;refine Ku 1 Z Z underlying23 CE Z Z Z Z (by rfl) Bc ?_;rintro kb N L bs p;have x2:=x1.trans p;have b1:=b2.ext p;refine(Zv (Eb (Mx bs hk))∘Zc (sq h.kind hk N)) ?_;rintro _ _⟨rfl,rfl⟩;refine(O 2)<|Zd 34 (fun a4=>?_) fun a4=>?_
   .have a0:¬IV h.kind:=by simpa using a4
    refine(O 12∘BG) ?_;rw[bi fun hm=>a0 hm.kind];exact⟨Z,x2⟩
   .have a0:IV h.kind:=by simpa using a4
    refine(O 2∘Zc (YX h.path N)) ?_;rintro _ w3⟨rfl,rfl⟩;refine(O 3) ?_;have bf:=OV h.path 0;refine Zi (fun hz=>?_) fun hz=>?_
    .have al:(0:AH)∈h.path:=by
      rcases bf with⟨q,_⟩|⟨_,_,_,_,q⟩
      .omega
      .exact q
     refine(O 5∘BG) ?_;rw[bi fun hm=>hm.path al];exact⟨Z,x2⟩
    .have al:(0:AH)∉h.path:=by
      rcases bf with⟨_,q⟩|⟨_,q,_⟩
      .exact q
      .omega
     have nl:=l1_ok h (BP h.path).2.1;have A:=l2_ok h (BP h.path).1;refine(O 2)<|Lc (fun(wr:Ad)=>(Bf w wr/\Bk wr Q 167 h.cells,[(1,.pointer (J ⟨Q,0,Aa⟩)),(4,Bl ((BP h.path).1)),(7,Bl ((FV (L1 h (BP h.path).2.1)).1)),(6,.bool (FV (L1 h (BP h.path).2.1)).2)],wr)) ?_ ?_
     .skip
      refine(Yr 27 (fun w'=>Bf w w'/\Bk w' Q 167 h.cells) ⟨x2.trans (Bf.drew w3),b1.drew⟩) fun a=>(Gv [0,2,3,5,6,7,9,10,11,13,14,16,17]∘Yc 1 (EL (BP h.path).2.1 X ((100:Y):H) Bc Bc ((100:Y):H) w3.drew)) ?_;rintro _ w1⟨rfl,ao⟩;refine⟨⟨a.1.trans ao,a.2.ext ao⟩,fun a=>?_⟩;refine(Yc 4 (Hz h.mode q2.1 q2.2 ((8:Y):H) Bc Bc w1)) ?_;rintro _ w4⟨rfl,a9⟩;refine⟨⟨a.1.trans a9,a.2.ext a9⟩,fun a=>?_⟩;refine(Yc 8 (Hz h.i0 q4.1 q4.2 ((8:Y):H) Bc Bc w4)) ?_;rintro _ w8⟨rfl,a8⟩;refine⟨⟨a.1.trans a8,a.2.ext a8⟩,fun a=>?_⟩;refine(Yc 12 (Hz h.i1 q5.1 q5.2 ((8:Y):H) Bc Bc w8)) ?_;rintro _ af⟨rfl,y⟩;refine⟨⟨a.1.trans y,a.2.ext y⟩,fun a=>?_⟩;refine(Yc 15 (Hz h.size q1.1 q1.2 ((12:Y):H) Bc Bc af)) ?_;rintro _ bj⟨rfl,a2⟩;refine⟨⟨a.1.trans a2,a.2.ext a2⟩,fun a=>?_⟩;refine(Yc 18 (Hz h.time q3.1 q3.2 ((12:Y):H) Bc Bc bj)) ?_;rintro _ I⟨rfl,m⟩;refine⟨⟨a.1.trans m,a.2.ext m⟩,fun a=>?_⟩;refine(Yc 19 (EL [] Bi ((8:Y):H) Bc Bc ((8:Y):H) I)) ?_;rintro _ b5⟨rfl,a1⟩;refine⟨⟨a.1.trans a1,a.2.ext a1⟩,fun a=>?_⟩;refine GB 20 7 ((L1 h (BP h.path).2.1).map Iq) Z Be Z Z underlying349 LL Z Bc Z Z Z (by first|(intro v hv;obtain⟨f,x,rfl⟩:=Cr.1 hv;rfl)|(simp;done)|(simp;rfl)) Bc ?_;rintro W D bx a7 l;refine⟨⟨a.1.trans l,a.2.ext l⟩,fun a=>?_⟩;refine(Yc 21 (Mr (L1 h (BP h.path).2.1) (fun f x=>(nl f x).ne) (fun f x=>(nl f x).len) (by simp[L1]) (J ⟨W,0,Aa⟩) 7 _ D (by have K:=a7.sl;rw[<-IM]at K;exact K))) ?_;rintro _ S⟨rfl,g⟩;refine⟨⟨a.1.trans g,a.2.ext g⟩,fun a=>?_⟩;have a7:=a7.ext g;refine(Gv [22,23,24,25,26]∘Yd∘Lm S) ?_;exact a
     .rintro wr⟨xr,b0⟩;refine(O 1)<|Lc (fun(wq:Ad)=>(Bf w wq,[(6,.bool (FV (L1 h (BP h.path).2.1)).2),(7,Bl ((FV (L1 h (BP h.path).2.1)).1)),(8,Bl ((FV (L2 h (BP h.path).1)).1)),(9,.bool (FV (L2 h (BP h.path).1)).2)],wq)) ?_ ?_
      .skip
       refine(Yr 29 (fun w'=>Bf w w'/\Bk w' Q 167 h.cells) ⟨xr.trans (Bf.drew wr),b0.drew⟩) fun a=>(Gv [0,1,5,6,8,9,10,11,13,14,15,19])<|Ye 2 7 ?_ ?_
       .refine Jt 2 1 Z Z Z underlying23 CE Z Z Z Z Z Bc ?_;rintro P N L h2 p;refine⟨⟨a.1.trans p,a.2.ext p⟩,fun a=>?_⟩;refine Ju (fun w'=>Bf w w'/\Bk w' Q 167 h.cells/\Bk w' P 5 [.int .u8 (h.kind:H)]) (fun _ h=>⟨h.1,h.2.1⟩) ?_;replace a:=(⟨a.1,a.2,h2⟩:(fun w'=>Bf w w'/\Bk w' Q 167 h.cells/\Bk w' P 5 [.int .u8 (h.kind:H)]) N);refine(Yw 3 (he:=by exact fun _ G=>Eb (Mx G.2.2 hk))∘Gv [4]∘Yc 7 (EL h.link (by have:=ho.link;omega) ((100:Y):H) Bc Bc ((100:Y):H) N)) ?_;rintro _ w7⟨rfl,aj⟩;refine⟨⟨a.1.trans aj,a.2.1.ext aj,a.2.2.ext aj⟩,fun a=>?_⟩;refine(Yc 12 (EL h.n0 (by have:=ho.n0;omega) ((32:Y):H) Bc Bc ((31:Y):H) w7)) ?_;rintro _ af⟨rfl,y⟩;refine⟨⟨a.1.trans y,a.2.1.ext y,a.2.2.ext y⟩,fun a=>?_⟩;refine(Yc 16 (EL h.n1 (by have:=ho.n1;omega) ((32:Y):H) Bc Bc ((31:Y):H) af)) ?_;rintro _ ab⟨rfl,t⟩;refine⟨⟨a.1.trans t,a.2.1.ext t,a.2.2.ext t⟩,fun a=>?_⟩;refine(Yc 17 (Hz 0 Bc Bc ((8:Y):H) Bc Bc ab)) ?_;rintro _ V⟨rfl,o⟩;refine⟨⟨a.1.trans o,a.2.1.ext o,a.2.2.ext o⟩,fun a=>?_⟩;refine(Yc 18 (Hz 0 Bc Bc ((8:Y):H) Bc Bc V)) ?_;rintro _ I⟨rfl,m⟩;refine⟨⟨a.1.trans m,a.2.1.ext m,a.2.2.ext m⟩,fun a=>?_⟩;refine(Yc 20 (EL (BP h.path).1 X ((155:Y):H) Bc Bc ((155:Y):H) I)) ?_;rintro _ D⟨rfl,l⟩;refine⟨⟨a.1.trans l,a.2.1.ext l,a.2.2.ext l⟩,fun a=>?_⟩;refine(Yc 21 (EL [] Bi ((12:Y):H) Bc Bc ((12:Y):H) D)) ?_;rintro _ S⟨rfl,g⟩;refine⟨⟨a.1.trans g,a.2.1.ext g,a.2.2.ext g⟩,fun a=>?_⟩;refine GB 22 9 ((L2 h (BP h.path).1).map Iq) Z Be Z Z underlying349 LL Z Bc Z Z Z (by first|(intro v hv;obtain⟨f,x,rfl⟩:=Cr.1 hv;rfl)|(simp;done)|(simp;rfl)) Bc ?_;rintro W C E n i;refine⟨⟨a.1.trans i,a.2.1.ext i,a.2.2.ext i⟩,fun a=>?_⟩;refine(Yc 23 (Mr (L2 h (BP h.path).1) (fun f x=>(A f x).ne) (fun f x=>(A f x).len) (by simp[L2]) (J ⟨W,0,Aa⟩) 9 _ C (by have K:=n.sl;rw[<-IM]at K;exact K))) ?_;rintro _ B⟨rfl,d⟩;refine⟨⟨a.1.trans d,a.2.1.ext d,a.2.2.ext d⟩,fun a=>?_⟩;have n:=n.ext d;refine(Gv [24,25,26,27,28]∘Yd∘Lm B) ?_;exact a.1
       .refine(Jc 7 (EL h.link (by have:=ho.link;omega) ((100:Y):H) Bc Bc ((100:Y):H) wr.drew)) ?_;rintro _ w7⟨rfl,aj⟩;refine⟨⟨a.1.trans aj,a.2.ext aj⟩,fun a=>?_⟩;refine Ye 2 12 ?_ ?_
        .refine Jt 2 1 Z Z Z underlying23 CE Z Z Z Z Z Bc ?_;rintro P N L h2 p;refine⟨⟨a.1.trans p,a.2.ext p⟩,fun a=>?_⟩;refine Ju (fun w'=>Bf w w'/\Bk w' Q 167 h.cells/\Bk w' P 5 [.int .u8 (h.kind:H)]) (fun _ h=>⟨h.1,h.2.1⟩) ?_;replace a:=(⟨a.1,a.2,h2⟩:(fun w'=>Bf w w'/\Bk w' Q 167 h.cells/\Bk w' P 5 [.int .u8 (h.kind:H)]) N);refine(Yw 3 (he:=by exact fun _ G=>Eb (Mx G.2.2 hk))∘Gv [4]∘Yc 12 (EL h.n0 (by have:=ho.n0;omega) ((32:Y):H) Bc Bc ((31:Y):H) N)) ?_;rintro _ af⟨rfl,y⟩;refine⟨⟨a.1.trans y,a.2.1.ext y,a.2.2.ext y⟩,fun a=>?_⟩;refine(Yc 16 (EL h.n1 (by have:=ho.n1;omega) ((32:Y):H) Bc Bc ((31:Y):H) af)) ?_;rintro _ ab⟨rfl,t⟩;refine⟨⟨a.1.trans t,a.2.1.ext t,a.2.2.ext t⟩,fun a=>?_⟩;refine(Yc 17 (Hz 0 Bc Bc ((8:Y):H) Bc Bc ab)) ?_;rintro _ V⟨rfl,o⟩;refine⟨⟨a.1.trans o,a.2.1.ext o,a.2.2.ext o⟩,fun a=>?_⟩;refine(Yc 18 (Hz 0 Bc Bc ((8:Y):H) Bc Bc V)) ?_;rintro _ I⟨rfl,m⟩;refine⟨⟨a.1.trans m,a.2.1.ext m,a.2.2.ext m⟩,fun a=>?_⟩;refine(Yc 20 (EL (BP h.path).1 X ((155:Y):H) Bc Bc ((155:Y):H) I)) ?_;rintro _ D⟨rfl,l⟩;refine⟨⟨a.1.trans l,a.2.1.ext l,a.2.2.ext l⟩,fun a=>?_⟩;refine(Yc 21 (EL [] Bi ((12:Y):H) Bc Bc ((12:Y):H) D)) ?_;rintro _ S⟨rfl,g⟩;refine⟨⟨a.1.trans g,a.2.1.ext g,a.2.2.ext g⟩,fun a=>?_⟩;refine GB 22 9 ((L2 h (BP h.path).1).map Iq) Z Be Z Z underlying349 LL Z Bc Z Z Z (by first|(intro v hv;obtain⟨f,x,rfl⟩:=Cr.1 hv;rfl)|(simp;done)|(simp;rfl)) Bc ?_;rintro W C E n i;refine⟨⟨a.1.trans i,a.2.1.ext i,a.2.2.ext i⟩,fun a=>?_⟩;refine(Yc 23 (Mr (L2 h (BP h.path).1) (fun f x=>(A f x).ne) (fun f x=>(A f x).len) (by simp[L2]) (J ⟨W,0,Aa⟩) 9 _ C (by have K:=n.sl;rw[<-IM]at K;exact K))) ?_;rintro _ B⟨rfl,d⟩;refine⟨⟨a.1.trans d,a.2.1.ext d,a.2.2.ext d⟩,fun a=>?_⟩;have n:=n.ext d;refine(Gv [24,25,26,27,28]∘Yd∘Lm B) ?_;exact a.1
        .refine(Jc 12 (EL h.n0 (by have:=ho.n0;omega) ((32:Y):H) Bc Bc ((31:Y):H) w7)) ?_;rintro _ af⟨rfl,y⟩;refine⟨⟨a.1.trans y,a.2.ext y⟩,fun a=>?_⟩;refine Ye 2 16 ?_ ?_
         .refine Jt 2 1 Z Z Z underlying23 CE Z Z Z Z Z Bc ?_;rintro P N L h2 p;refine⟨⟨a.1.trans p,a.2.ext p⟩,fun a=>?_⟩;refine Ju (fun w'=>Bf w w'/\Bk w' Q 167 h.cells/\Bk w' P 5 [.int .u8 (h.kind:H)]) (fun _ h=>⟨h.1,h.2.1⟩) ?_;replace a:=(⟨a.1,a.2,h2⟩:(fun w'=>Bf w w'/\Bk w' Q 167 h.cells/\Bk w' P 5 [.int .u8 (h.kind:H)]) N);refine(Yw 3 (he:=by exact fun _ G=>Eb (Mx G.2.2 hk))∘Gv [4]∘Yc 16 (EL h.n1 (by have:=ho.n1;omega) ((32:Y):H) Bc Bc ((31:Y):H) N)) ?_;rintro _ ab⟨rfl,t⟩;refine⟨⟨a.1.trans t,a.2.1.ext t,a.2.2.ext t⟩,fun a=>?_⟩;refine(Yc 17 (Hz 0 Bc Bc ((8:Y):H) Bc Bc ab)) ?_;rintro _ V⟨rfl,o⟩;refine⟨⟨a.1.trans o,a.2.1.ext o,a.2.2.ext o⟩,fun a=>?_⟩;refine(Yc 18 (Hz 0 Bc Bc ((8:Y):H) Bc Bc V)) ?_;rintro _ I⟨rfl,m⟩;refine⟨⟨a.1.trans m,a.2.1.ext m,a.2.2.ext m⟩,fun a=>?_⟩;refine(Yc 20 (EL (BP h.path).1 X ((155:Y):H) Bc Bc ((155:Y):H) I)) ?_;rintro _ D⟨rfl,l⟩;refine⟨⟨a.1.trans l,a.2.1.ext l,a.2.2.ext l⟩,fun a=>?_⟩;refine(Yc 21 (EL [] Bi ((12:Y):H) Bc Bc ((12:Y):H) D)) ?_;rintro _ S⟨rfl,g⟩;refine⟨⟨a.1.trans g,a.2.1.ext g,a.2.2.ext g⟩,fun a=>?_⟩;refine GB 22 9 ((L2 h (BP h.path).1).map Iq) Z Be Z Z underlying349 LL Z Bc Z Z Z (by first|(intro v hv;obtain⟨f,x,rfl⟩:=Cr.1 hv;rfl)|(simp;done)|(simp;rfl)) Bc ?_;rintro W C E n i;refine⟨⟨a.1.trans i,a.2.1.ext i,a.2.2.ext i⟩,fun a=>?_⟩;refine(Yc 23 (Mr (L2 h (BP h.path).1) (fun f x=>(A f x).ne) (fun f x=>(A f x).len) (by simp[L2]) (J ⟨W,0,Aa⟩) 9 _ C (by have K:=n.sl;rw[<-IM]at K;exact K))) ?_;rintro _ B⟨rfl,d⟩;refine⟨⟨a.1.trans d,a.2.1.ext d,a.2.2.ext d⟩,fun a=>?_⟩;have n:=n.ext d;refine(Gv [24,25,26,27,28]∘Yd∘Lm B) ?_;exact a.1
         .refine(Jc 16 (EL h.n1 (by have:=ho.n1;omega) ((32:Y):H) Bc Bc ((31:Y):H) af)) ?_;rintro _ ab⟨rfl,t⟩;refine⟨⟨a.1.trans t,a.2.ext t⟩,fun a=>?_⟩;refine Ye 2 17 ?_ ?_
          .refine Jt 2 1 Z Z Z underlying23 CE Z Z Z Z Z Bc ?_;rintro P N L h2 p;refine⟨⟨a.1.trans p,a.2.ext p⟩,fun a=>?_⟩;refine Ju (fun w'=>Bf w w'/\Bk w' Q 167 h.cells/\Bk w' P 5 [.int .u8 (h.kind:H)]) (fun _ h=>⟨h.1,h.2.1⟩) ?_;replace a:=(⟨a.1,a.2,h2⟩:(fun w'=>Bf w w'/\Bk w' Q 167 h.cells/\Bk w' P 5 [.int .u8 (h.kind:H)]) N);refine(Yw 3 (he:=by exact fun _ G=>Eb (Mx G.2.2 hk))∘Gv [4]∘Yc 17 (Hz 0 Bc Bc ((8:Y):H) Bc Bc N)) ?_;rintro _ V⟨rfl,o⟩;refine⟨⟨a.1.trans o,a.2.1.ext o,a.2.2.ext o⟩,fun a=>?_⟩;refine(Yc 18 (Hz 0 Bc Bc ((8:Y):H) Bc Bc V)) ?_;rintro _ I⟨rfl,m⟩;refine⟨⟨a.1.trans m,a.2.1.ext m,a.2.2.ext m⟩,fun a=>?_⟩;refine(Yc 20 (EL (BP h.path).1 X ((155:Y):H) Bc Bc ((155:Y):H) I)) ?_;rintro _ D⟨rfl,l⟩;refine⟨⟨a.1.trans l,a.2.1.ext l,a.2.2.ext l⟩,fun a=>?_⟩;refine(Yc 21 (EL [] Bi ((12:Y):H) Bc Bc ((12:Y):H) D)) ?_;rintro _ S⟨rfl,g⟩;refine⟨⟨a.1.trans g,a.2.1.ext g,a.2.2.ext g⟩,fun a=>?_⟩;refine GB 22 9 ((L2 h (BP h.path).1).map Iq) Z Be Z Z underlying349 LL Z Bc Z Z Z (by first|(intro v hv;obtain⟨f,x,rfl⟩:=Cr.1 hv;rfl)|(simp;done)|(simp;rfl)) Bc ?_;rintro W C E n i;refine⟨⟨a.1.trans i,a.2.1.ext i,a.2.2.ext i⟩,fun a=>?_⟩;refine(Yc 23 (Mr (L2 h (BP h.path).1) (fun f x=>(A f x).ne) (fun f x=>(A f x).len) (by simp[L2]) (J ⟨W,0,Aa⟩) 9 _ C (by have K:=n.sl;rw[<-IM]at K;exact K))) ?_;rintro _ B⟨rfl,d⟩;refine⟨⟨a.1.trans d,a.2.1.ext d,a.2.2.ext d⟩,fun a=>?_⟩;have n:=n.ext d;refine(Gv [24,25,26,27,28]∘Yd∘Lm B) ?_;exact a.1
          .refine(Jc 17 (Hz 0 Bc Bc ((8:Y):H) Bc Bc ab)) ?_;rintro _ V⟨rfl,o⟩;refine⟨⟨a.1.trans o,a.2.ext o⟩,fun a=>?_⟩;refine Ye 2 18 ?_ ?_
           .refine Jt 2 1 Z Z Z underlying23 CE Z Z Z Z Z Bc ?_;rintro P N L h2 p;refine⟨⟨a.1.trans p,a.2.ext p⟩,fun a=>?_⟩;refine Ju (fun w'=>Bf w w'/\Bk w' Q 167 h.cells/\Bk w' P 5 [.int .u8 (h.kind:H)]) (fun _ h=>⟨h.1,h.2.1⟩) ?_;replace a:=(⟨a.1,a.2,h2⟩:(fun w'=>Bf w w'/\Bk w' Q 167 h.cells/\Bk w' P 5 [.int .u8 (h.kind:H)]) N);refine(Yw 3 (he:=by exact fun _ G=>Eb (Mx G.2.2 hk))∘Gv [4]∘Yc 18 (Hz 0 Bc Bc ((8:Y):H) Bc Bc N)) ?_;rintro _ I⟨rfl,m⟩;refine⟨⟨a.1.trans m,a.2.1.ext m,a.2.2.ext m⟩,fun a=>?_⟩;refine(Yc 20 (EL (BP h.path).1 X ((155:Y):H) Bc Bc ((155:Y):H) I)) ?_;rintro _ D⟨rfl,l⟩;refine⟨⟨a.1.trans l,a.2.1.ext l,a.2.2.ext l⟩,fun a=>?_⟩;refine(Yc 21 (EL [] Bi ((12:Y):H) Bc Bc ((12:Y):H) D)) ?_;rintro _ S⟨rfl,g⟩;refine⟨⟨a.1.trans g,a.2.1.ext g,a.2.2.ext g⟩,fun a=>?_⟩;refine GB 22 9 ((L2 h (BP h.path).1).map Iq) Z Be Z Z underlying349 LL Z Bc Z Z Z (by first|(intro v hv;obtain⟨f,x,rfl⟩:=Cr.1 hv;rfl)|(simp;done)|(simp;rfl)) Bc ?_;rintro W C E n i;refine⟨⟨a.1.trans i,a.2.1.ext i,a.2.2.ext i⟩,fun a=>?_⟩;refine(Yc 23 (Mr (L2 h (BP h.path).1) (fun f x=>(A f x).ne) (fun f x=>(A f x).len) (by simp[L2]) (J ⟨W,0,Aa⟩) 9 _ C (by have K:=n.sl;rw[<-IM]at K;exact K))) ?_;rintro _ B⟨rfl,d⟩;refine⟨⟨a.1.trans d,a.2.1.ext d,a.2.2.ext d⟩,fun a=>?_⟩;have n:=n.ext d;refine(Gv [24,25,26,27,28]∘Yd∘Lm B) ?_;exact a.1
           .refine(Jc 18 (Hz 0 Bc Bc ((8:Y):H) Bc Bc V)) ?_;rintro _ I⟨rfl,m⟩;refine⟨⟨a.1.trans m,a.2.ext m⟩,fun a=>?_⟩;refine Ye 2 20 ?_ ?_
            .refine Jt 2 1 Z Z Z underlying23 CE Z Z Z Z Z Bc ?_;rintro P N L h2 p;refine⟨⟨a.1.trans p,a.2.ext p⟩,fun a=>?_⟩;refine Ju (fun w'=>Bf w w'/\Bk w' Q 167 h.cells/\Bk w' P 5 [.int .u8 (h.kind:H)]) (fun _ h=>⟨h.1,h.2.1⟩) ?_;replace a:=(⟨a.1,a.2,h2⟩:(fun w'=>Bf w w'/\Bk w' Q 167 h.cells/\Bk w' P 5 [.int .u8 (h.kind:H)]) N);refine(Yw 3 (he:=by exact fun _ G=>Eb (Mx G.2.2 hk))∘Gv [4]∘Yc 20 (EL (BP h.path).1 X ((155:Y):H) Bc Bc ((155:Y):H) N)) ?_;rintro _ D⟨rfl,l⟩;refine⟨⟨a.1.trans l,a.2.1.ext l,a.2.2.ext l⟩,fun a=>?_⟩;refine(Yc 21 (EL [] Bi ((12:Y):H) Bc Bc ((12:Y):H) D)) ?_;rintro _ S⟨rfl,g⟩;refine⟨⟨a.1.trans g,a.2.1.ext g,a.2.2.ext g⟩,fun a=>?_⟩;refine GB 22 9 ((L2 h (BP h.path).1).map Iq) Z Be Z Z underlying349 LL Z Bc Z Z Z (by first|(intro v hv;obtain⟨f,x,rfl⟩:=Cr.1 hv;rfl)|(simp;done)|(simp;rfl)) Bc ?_;rintro W C E n i;refine⟨⟨a.1.trans i,a.2.1.ext i,a.2.2.ext i⟩,fun a=>?_⟩;refine(Yc 23 (Mr (L2 h (BP h.path).1) (fun f x=>(A f x).ne) (fun f x=>(A f x).len) (by simp[L2]) (J ⟨W,0,Aa⟩) 9 _ C (by have K:=n.sl;rw[<-IM]at K;exact K))) ?_;rintro _ B⟨rfl,d⟩;refine⟨⟨a.1.trans d,a.2.1.ext d,a.2.2.ext d⟩,fun a=>?_⟩;have n:=n.ext d;refine(Gv [24,25,26,27,28]∘Yd∘Lm B) ?_;exact a.1
            .refine(Jc 20 (EL (BP h.path).1 X ((155:Y):H) Bc Bc ((155:Y):H) I)) ?_;rintro _ D⟨rfl,l⟩;refine⟨⟨a.1.trans l,a.2.ext l⟩,fun a=>?_⟩;refine Ye 2 21 ?_ ?_
             .refine Jt 2 1 Z Z Z underlying23 CE Z Z Z Z Z Bc ?_;rintro P N L h2 p;refine⟨⟨a.1.trans p,a.2.ext p⟩,fun a=>?_⟩;refine Ju (fun w'=>Bf w w'/\Bk w' Q 167 h.cells/\Bk w' P 5 [.int .u8 (h.kind:H)]) (fun _ h=>⟨h.1,h.2.1⟩) ?_;replace a:=(⟨a.1,a.2,h2⟩:(fun w'=>Bf w w'/\Bk w' Q 167 h.cells/\Bk w' P 5 [.int .u8 (h.kind:H)]) N);refine(Yw 3 (he:=by exact fun _ G=>Eb (Mx G.2.2 hk))∘Gv [4]∘Yc 21 (EL [] Bi ((12:Y):H) Bc Bc ((12:Y):H) N)) ?_;rintro _ S⟨rfl,g⟩;refine⟨⟨a.1.trans g,a.2.1.ext g,a.2.2.ext g⟩,fun a=>?_⟩;refine GB 22 9 ((L2 h (BP h.path).1).map Iq) Z Be Z Z underlying349 LL Z Bc Z Z Z (by first|(intro v hv;obtain⟨f,x,rfl⟩:=Cr.1 hv;rfl)|(simp;done)|(simp;rfl)) Bc ?_;rintro W C E n i;refine⟨⟨a.1.trans i,a.2.1.ext i,a.2.2.ext i⟩,fun a=>?_⟩;refine(Yc 23 (Mr (L2 h (BP h.path).1) (fun f x=>(A f x).ne) (fun f x=>(A f x).len) (by simp[L2]) (J ⟨W,0,Aa⟩) 9 _ C (by have K:=n.sl;rw[<-IM]at K;exact K))) ?_;rintro _ B⟨rfl,d⟩;refine⟨⟨a.1.trans d,a.2.1.ext d,a.2.2.ext d⟩,fun a=>?_⟩;have n:=n.ext d;refine(Gv [24,25,26,27,28]∘Yd∘Lm B) ?_;exact a.1
             .refine(Jc 21 (EL [] Bi ((12:Y):H) Bc Bc ((12:Y):H) D)) ?_;rintro _ S⟨rfl,g⟩;refine⟨⟨a.1.trans g,a.2.ext g⟩,fun a=>?_⟩;refine PU 2 1 Z Be Z Z underlying23 CE Z Z Z Z Z Bc ?_;rintro P N L h2 p;refine⟨⟨a.1.trans p,a.2.ext p⟩,fun a=>?_⟩;refine Ju (fun w'=>Bf w w'/\Bk w' Q 167 h.cells/\Bk w' P 5 [.int .u8 (h.kind:H)]) (fun _ h=>⟨h.1,h.2.1⟩) ?_;replace a:=(⟨a.1,a.2,h2⟩:(fun w'=>Bf w w'/\Bk w' Q 167 h.cells/\Bk w' P 5 [.int .u8 (h.kind:H)]) N);refine(Yw 3 (he:=by exact fun _ G=>Eb (Mx G.2.2 hk))∘Gv [4]) ?_;refine GB 22 9 ((L2 h (BP h.path).1).map Iq) Z Be Z Z underlying349 LL Z Bc Z Z Z (by first|(intro v hv;obtain⟨f,x,rfl⟩:=Cr.1 hv;rfl)|(simp;done)|(simp;rfl)) Bc ?_;rintro W C E n i;refine⟨⟨a.1.trans i,a.2.1.ext i,a.2.2.ext i⟩,fun a=>?_⟩;refine(Yc 23 (Mr (L2 h (BP h.path).1) (fun f x=>(A f x).ne) (fun f x=>(A f x).len) (by simp[L2]) (J ⟨W,0,Aa⟩) 9 _ C (by have K:=n.sl;rw[<-IM]at K;exact K))) ?_;rintro _ B⟨rfl,d⟩;refine⟨⟨a.1.trans d,a.2.1.ext d,a.2.2.ext d⟩,fun a=>?_⟩;have n:=n.ext d;refine(Gv [24,25,26,27,28]∘Yd∘Lm B) ?_;exact a.1
      .rintro wq xq;have jy:=fun hm:May h=>vR hm p1 p3 (fun z=>al (p5 _ z)) (fun z=>al (p4 _ z));have a5:=@vQ h (BP h.path).1 (BP h.path).2.1 a0 al;generalize cc:FV (L1 h (BP h.path).2.1)=J1 at jy a5;generalize cb:FV (L2 h (BP h.path).1)=J2 at jy a5;obtain⟨g1,o1⟩:=J1;obtain⟨g2,o2⟩:=J2;refine(O 2) ?_;rcases o1 with _|_
       .skip
        refine(O 14∘BG) ?_;simp_all
       .skip
        rcases o2 with _|_
        .skip
         refine(O 14∘BG) ?_;simp_all
        .skip
         have hm:=a5 Z Z;obtain⟨j1,j2⟩:=jy hm;obtain rfl:=(Prod.mk.inj j1).1;obtain rfl:=(Prod.mk.inj j2).1;have bc:Ajb ((Hv h (BP h.path).2.1).flatten)=148:=by rw[WG,YS h p1];rfl
         have bq:Ajb ((Ib h (BP h.path).1).flatten)=356:=by rw[WG,nH h p3 hm.link.1 (by have:=hm.n0.1;omega) (by have:=hm.n1.1;omega)];rfl
         have ca:=SM 8;have a3:Ajb ((Hv h (BP h.path).2.1).flatten++Cu 8++(Ib h (BP h.path).1).flatten)=512:=by rw[BA,BA];omega
         have ba:sum ((Hv h (BP h.path).2.1).flatten++Cu 8++(Ib h (BP h.path).1).flatten)=(Iu h,0):=by
          unfold sum;rw[Ag X];rfl
         have bm:Iu h/8 ^ 6=0:=nB _;have bb:El ((Iu h:Y):H) ((7:Y):H)=(Dm (Iu h) 6++[0],0):=ZM (k:=6) Bc Bc bm;have b9:Iu h<=1000000:=by have:=VM (MP h (BP h.path).1 (BP h.path).2.1 (Cu 8)) 512;unfold Iu;omega
         have b6:=QS 6 (Iu h);have c1:=nC ((Hv h (BP h.path).2.1).flatten++Cu 8++(Ib h (BP h.path).1).flatten) X wq;rw[ba]at c1;have c2:=kU ((Iu h:Y):H) X X ((7:Y):H) Bc Bc wq;rw[bb]at c2;rw[bh hm];generalize hH:(Hv h (BP h.path).2.1).flatten=j7 at bc c1 a3;generalize hT:(Ib h (BP h.path).1).flatten=T at bq c1 a3;have bn:Ajb (j7++Cu 8)=156:=by rw[BA];omega
         have b3:Ajb (j7++Cu 8,Af).1=156:=bn;refine(O 15∘Zc c1) ?_;rintro _ _⟨rfl,rfl⟩;refine(O 9∘Zc c2) ?_;rintro _ wz⟨rfl,xz⟩;refine(O 9∘Zv (by exact Kb (j:=148) underlying9 Z Z X)∘O 2∘Zv (by exact JZ (r:=[32]) Z Z (by first|omega|(simp only[BA,Cz,EZ,BZ,CM,Cq];omega)))∘O 5∘BG) ?_;refine⟨?_,xq.trans xz⟩;have ht:(j7++Cu 8).take 148=j7:=by rw[<-bc];exact Hr Z
         have ed:CY h=j7++(Dm (Iu h) 6++[0])++[32]++T:=by
          unfold CY MP Rr;rw[hH,hT];simp
         grind
def fy(cb k n:Y)(s:Bh)(bad:Ar)(w:Ad)(g:Ajb s<=140737488355328)(hk:k+n<=Ajb s)(e:Bk w cb 252 [Bl (s.drop k),.bool bad]):
 Bn prog 153 [.pointer (J ⟨cb,0,Aa⟩),U ((n:Y):H)] w fun v w'=>v=Bl (sl s k n)/\Bk w' cb 252 [Bl (s.drop (k+n)),.bool bad]/\Mo w w' [cb]:=by
 have i:Ajb (s.drop k)=Ajb s-k:=CM;refine Bw func153 Z ntmps153 (by rfl) Z ?_;refine(O 11∘Zv (by exact Kb underlying9 Z Z X)∘O 10∘Zv (by exact MW underlying9 Z Z X)∘O 2∘Zt e) ?_;rintro f d a;refine(O 6∘Br) ?_;refine⟨Z,?_,a⟩;simp_all
def si(cb k n:Y)(s:Bh)(bad:Ar)(w:Ad)(p:Ajb s<=140737488355328)(hk:k+n<=Ajb s)(r:Bk w cb 252 [Bl (s.drop k),.bool bad]):
 Bn prog 152 [.pointer (J ⟨cb,0,Aa⟩),U ((n:Y):H)] w fun v w'=>v=U (((num (sl s k n)).1:Y):H)/\Bk w' cb 252 [Bl (s.drop (k+n)),.bool (bad||decide ((num (sl s k n)).2≠0))]/\Mo w w' [cb]:=by
 have q:Ajb (sl s k n)<=140737488355328:=by unfold sl;rw[BZ,CM];omega
 refine Bw func152 Z ntmps152 (by rfl) Z ?_;refine(O 8∘Zc (fy cb k n s bad w p hk r)) ?_;rintro _ o⟨rfl,i,g⟩;refine(Zc (yp (sl s k n) q o)) ?_;rintro _ m⟨rfl,d⟩;refine(O 7) ?_;have f:=i.ext d;have j:Mo w m [cb]:=g.trans (Mo.Agk d _);rcases bad with _|_
 .refine(O 12∘Zt f) ?_;rintro l e a;refine(O 6∘Br) ?_;refine⟨Z,?_,j.trans a⟩;grind
 .refine(O 12∘Zt f) ?_;rintro l e a;refine(O 6∘Br) ?_;exact⟨Z,e,j.trans a⟩
structure Dc(w0 w:Ad)(rb cb hb:Y)(rest:Bh)(bad:Ar)(h:Bm):Prop where
 x:Bf w0 w
 r:Bk w rb 167 IU.cells
 c:Bk w cb 252 [Bl rest,.bool bad]
 h:Bk w hb 167 h
 rlo:w0.heap.size<=rb
 clo:w0.heap.size<=cb
 hlo:w0.heap.size<=hb
 ne:rb≠hb
section
variable{w0 w:Ad}{rb cb hb:Y}{s rest:Bh}{bad:Ar}{h:Bm}{k:Y}
def Dc.step{w':Ad}{rest':Bh}{bad':Ar}(d:Dc w0 w rb cb hb rest bad h)(hc:Bk w' cb 252 [Bl rest',.bool bad'])(hm:Mo w w' [cb]):Dc w0 w' rb cb hb rest' bad' h:=
 ⟨Bu d.x hm d.x.size (fun k hk=>by simp at hk;subst hk;exact d.clo),d.r.mo hm (by simp;exact d.r.ne d.c Bc),hc,d.h.mo hm (by simp;exact d.h.ne d.c Bc),d.rlo,d.clo,d.hlo,d.ne⟩
def Dc.put{w':Ad}{h':Bm}(d:Dc w0 w rb cb hb rest bad h)(hh:Bk w' hb 167 h')(hm:Mo w w' [hb]):Dc w0 w' rb cb hb rest bad h':=
 ⟨Bu d.x hm d.x.size (fun k hk=>by simp at hk;subst hk;exact d.hlo),d.r.mo hm (by simp;exact d.ne),d.c.mo hm (by simp;exact fun z=>d.h.ne d.c Bi z.symm),hh,d.rlo,d.clo,d.hlo,d.ne⟩
def Dc.raw(d:Dc w0 w rb cb hb (s.drop k) bad h)(n:Y)(hs:Ajb s=512)(hk:k+n<=512):
 Bn prog 153 [.pointer (J ⟨cb,0,Aa⟩),U ((n:Y):H)] w fun v w'=>v=Bl (sl s k n)/\Dc w0 w' rb cb hb (s.drop (k+n)) bad h:=
 (fy cb k n s bad w X X d.c).mono fun v w'⟨h1,h2,h3⟩=>⟨h1,d.step h2 h3⟩
def Dc.num(d:Dc w0 w rb cb hb (s.drop k) bad h)(n:Y)(hs:Ajb s=512)(hk:k+n<=512):
 Bn prog 152 [.pointer (J ⟨cb,0,Aa⟩),U ((n:Y):H)] w fun v w'=>v=U (((num (sl s k n)).1:Y):H)/\Dc w0 w' rb cb hb (s.drop (k+n)) (bad||decide ((num (sl s k n)).2≠0)) h:=
 (si cb k n s bad w X X d.c).mono fun v w'⟨h1,h2,h3⟩=>⟨h1,d.step h2 h3⟩
end
def Px{s:Bh}(a:Ajb s=512)(k n:Y):Ajb (sl s k n)<=512:=by unfold sl;grind
def Sv{s:Bh}(h:¬OkD s):Hi s=(IU,160):=by unfold Hi;grind
def ti{s:Bh}(h:OkD s):Hi s=(Nx s,0):=by unfold Hi;grind
def Afb(s:Bh)(hs:Ajb s<=140737488355328)(w:Ad):Bn prog 113 [Bl s] w fun v w'=>v=.tuple #[.agg (Hi s).1.cells.toArray,U (((Hi s).2:Y):H)]/\Bf w w':=by
 refine Bw func113 Z ntmps113 Be Z ?_;refine(O 2∘Zn) ?_;rintro rb w1 a0 q n;refine(O 9)<|Zi (fun hl=>?_) fun hl=>?_
 .refine(O 3∘Zs q (hlt:=Bv _)) ?_;rintro w2 bh bl;refine(O 2∘DA bh) ?_;rw[Sv fun h=>hl (by have:=h.len;omega)];exact⟨Z,Bu n bl n.size (fun k t=>by grind)⟩
 .have a:Ajb s=512:=X;refine(O 5) ?_;refine Dz Z Z Z ?_;rintro cb w2 cn b0 m;refine(O 5∘Zv (by exact Gf Z Z)∘O 1∘Zv (by exact Gf Z Z)∘O 5∘Zn) ?_;rintro hb w3 cm bx p;refine(O 4) ?_;have ck:=q.lt;have d0:Dc w w3 rb cb hb (s.drop 0) Aj IU.cells:=⟨(n.trans m).trans p,(q.ext m).ext p,b0.ext p,bx,a0,X,by have:=n.size;have:=m.size;omega,by have:=m.size;omega⟩;refine(DW (d0.raw 100 a Bc)) ?_;rintro _ w4⟨rfl,d1⟩;refine(Zc (Ss (sl s 0 100) (by have:=Px a 0 100;omega) w4)) ?_;rintro _ _⟨rfl,rfl⟩;refine(O 5∘DW (d1.num 8 a Bc)) ?_;rintro _ w5⟨rfl,d2⟩;refine(O 1∘DW (d2.num 8 a Bc)) ?_;rintro _ w6⟨rfl,d3⟩;refine(O 1∘DW (d3.num 8 a Bc)) ?_;rintro _ w7⟨rfl,d4⟩;refine(O 1∘Zt d4.h (hlt:=AO Z)) ?_;rintro w8 bs bj;refine(O 2) ?_;have d5:=d4.put bs bj;refine(Zt d5.h (hlt:=AO Z)) ?_;rintro w9 bq bi;refine(O 2) ?_;have d6:=d5.put bq bi;refine(Zt d6.h (hlt:=AO Z)) ?_;rintro c5 ao Q;refine(O 4) ?_;have d7:=d6.put ao Q;refine(DW (d7.num 12 a Bc)) ?_;rintro _ c4⟨rfl,d8⟩;refine(O 1∘DW (d8.num 12 a Bc)) ?_;rintro _ c0⟨rfl,d9⟩;refine(O 1∘Zt d9.h (hlt:=AO Z)) ?_;rintro cz al P;refine(O 1) ?_;have a6:=d9.put al P;refine(Zt a6.h (hlt:=AO Z)) ?_;rintro cx aj N;refine(O 4) ?_;have cg:=a6.put aj N;refine(DW (cg.num 8 a Bc)) ?_;rintro _ cw⟨rfl,cf⟩;refine(O 5) ?_;have bm:Ajb (sl s (0+100+8+8+8+12+12+8) 1)=1:=by unfold sl;rw[BZ,CM];omega
  have cl:Ajb (sl s 156 1)=1:=bm;refine(DW (cf.raw 1 a Bc)) ?_;rintro _ cv⟨rfl,a5⟩;refine(Zv (by exact EW (i:=0) underlying9 Z Z (BR X))∘O 1∘Zt a5.h (hlt:=AO Z)) ?_;rintro cu ai L;refine(O 4) ?_;have ce:=a5.put ai L;refine(DW (ce.raw 100 a Bc)) ?_;rintro _ bc⟨rfl,a4⟩;refine(Zc (Ss (sl s 157 100) (by have:=Px a 157 100;omega) bc)) ?_;rintro _ _⟨rfl,rfl⟩;refine(O 1∘Zt a4.h (hlt:=AO Z)) ?_;rintro ct af K;refine(O 4) ?_;have cd:=a4.put af K;refine(DW (cd.raw 8 a Bc)) ?_;rintro _ cr⟨rfl,cc⟩;refine(O 5∘DW (cc.raw 32 a Bc)) ?_;rintro _ bb⟨rfl,ca⟩;refine(Zc (Ss (sl s 265 32) (by have:=Px a 265 32;omega) bb)) ?_;rintro _ _⟨rfl,rfl⟩;refine(O 1∘DW (ca.raw 32 a Bc)) ?_;rintro _ ba⟨rfl,a3⟩;refine(Zc (Ss (sl s 297 32) (by have:=Px a 297 32;omega) ba)) ?_;rintro _ _⟨rfl,rfl⟩;refine(O 2∘Zt a3.h (hlt:=AO Z)) ?_;rintro cq ab I;refine(O 2) ?_;have a2:=a3.put ab I;refine(Zt a2.h (hlt:=AO Z)) ?_;rintro cp W G;refine(O 4) ?_;have b9:=a2.put W G;refine(DW (b9.raw 16 a Bc)) ?_;rintro _ co⟨rfl,b8⟩;refine(O 4∘DW (b8.raw 155 a Bc)) ?_;rintro _ a9⟨rfl,a1⟩;refine(Zc (Ss (sl s 345 155) (by have:=Px a 345 155;omega) a9)) ?_;rintro _ _⟨rfl,rfl⟩;refine(O 6∘Zt a1.h (hlt:=AO Z)) ?_;rintro A V E;refine(O 5∘Zv (by exact MV (r:=[]) Z Z)∘O 1) ?_;have b7:=a1.put V E
  have bf:(sl s 156 1)[0]=s.getD 156 0:=by
   unfold sl;simp[Ck,a]
  obtain⟨bad,hbad,d25⟩:∃bad,(bad=Aj↔(num (sl s 100 8)).2=0/\(num (sl s 108 8)).2=0/\(num (sl s 116 8)).2=0/\(num (sl s 124 12)).2=0/\(num (sl s 136 12)).2=0/\(num (sl s 148 8)).2=0)/\Dc w A rb cb hb (s.drop 500) bad (Hd.cells ⟨cut (sl s 0 100),(num (sl s 124 12)).1,((sl s 156 1)[0]).toNat,(num (sl s 100 8)).1,(num (sl s 136 12)).1,cut (sl s 157 100),cut (sl s 265 32),cut (sl s 297 32),(num (sl s 108 8)).1,(num (sl s 116 8)).1⟩):=⟨_,Bg,b7⟩;rw[bf]at d25;have c7:=fD (sl s 0 100);have c6:=fD (sl s 345 155);have cj:=Px a 0 100;have ch:=Px a 345 155;refine Lc (fun(wr:Ad)=>(Dc w wr rb cb hb (s.drop 500) bad (Hd.cells ⟨LG s,(num (sl s 124 12)).1,(s.getD 156 0).toNat,(num (sl s 100 8)).1,(num (sl s 136 12)).1,cut (sl s 157 100),cut (sl s 265 32),cut (sl s 297 32),(num (sl s 108 8)).1,(num (sl s 116 8)).1⟩),[(0,Bl (s)),(2,.pointer (J ⟨rb,0,Aa⟩)),(4,.pointer (J ⟨cb,0,Aa⟩)),(7,.pointer (J ⟨hb,0,Aa⟩)),(9,U (((num (sl s 148 8)).1:Y):H)),(10,Bl ((sl s 257 8)))],wr)) ?_ ?_
  .refine Zi (fun j=>?_) fun j=>?_
   .refine(O 2∘Zv (by exact JZ (r:=[47]) Z Z (by first|omega|(simp only[BA,Cz,EZ,BZ,CM,Cq];omega)))∘O 3∘Zt d25.h (hlt:=AO Z)) ?_;rintro a8 T D;refine(O 1∘Lm a8) ?_;have e:LG s=cut (sl s 345 155)++[47]++cut (sl s 0 100):=by unfold LG;rw[Ai j]
    rw[e];exact d25.put T D
   .refine(O 1∘Lm A) ?_;have e:LG s=cut (sl s 0 100):=by unfold LG;rw[Ag j]
    rw[e];exact d25
  .rintro wr e0;refine(O 4∘Zv (Bp e0.h)∘O 2)<|Lc (fun(y:Ad)=>(Dc w y rb cb hb (s.drop 500) bad (Nx s).cells,[(0,Bl (s)),(2,.pointer (J ⟨rb,0,Aa⟩)),(4,.pointer (J ⟨cb,0,Aa⟩)),(7,.pointer (J ⟨hb,0,Aa⟩)),(9,U (((num (sl s 148 8)).1:Y):H)),(10,Bl ((sl s 257 8)))],y)) ?_ ?_
   .refine Zi (fun bn=>?_) fun bn=>?_
    .refine(O 2∘Zt e0.h (hlt:=AO Z)) ?_;rintro a7 S C;refine(O 1∘Lm a7) ?_;have e:OY s=48:=by unfold OY;rw[Ai X]
     unfold Nx;rw[e];exact e0.put S C
    .refine(O 1∘Lm wr) ?_;have e:OY s=(s.getD 156 0).toNat:=by unfold OY;rw[Ag X]
     unfold Nx;rw[e];exact e0
   .rintro y g;have B:sum s=(Fm s 512,0):=by unfold sum;rw[Ag X]
    have cs:=nC s hs y;rw[B]at cs;have o:∀(w':Ad),Bk w' rb 167 IU.cells->Mo y w' [rb]->Bf w w':=fun w' _ hm=>Bu g.x hm g.x.size (fun k t=>by simp at t;subst t;exact g.rlo);refine(O 4∘Zc cs) ?_;rintro _ _⟨rfl,rfl⟩;refine(O 7) ?_;rcases bad with _|_
    .obtain⟨b1,b2,b3,b4,b5,b6⟩:=hbad.1 Z;refine(O 4∘Zv (Bp g.c)∘O 6)<|Zd 99 (fun c1=>?_) fun c1=>?_
     .refine(O 13∘Zs g.r (hlt:=Bv _)) ?_;rintro l d f;refine(O 2∘DA d) ?_;rw[Sv fun h=>c1 (by have:=h.sums;omega)];exact⟨Z,o _ d f⟩
     .refine(O 1∘Zv (by exact MV (r:=[117,115,116,97,114,0,48,48]) Z Z)∘O 2)<|Zd 103 (fun c2=>?_) fun c2=>?_
      .refine(O 9∘Zs g.r (hlt:=Bv _)) ?_;rintro l d f;refine(O 2∘DA d) ?_;rw[Sv fun h=>c2 h.magic];exact⟨Z,o _ d f⟩
      .refine(O 1∘Zv (Bp g.h)∘Zv (by exact HC (r:=[]) Z Z)∘O 2)<|Zi (fun c3=>?_) fun c3=>?_
       .refine(O 3∘Zs g.r (hlt:=Bv _)) ?_;rintro l d f;refine(O 2∘DA d) ?_;rw[Sv fun h=>h.path c3];exact⟨Z,o _ d f⟩
       .have ok:OkD s:=⟨a,Dk.1 c2,b1,b2,b3,b4,b5,b6,X,c3⟩;refine(O 3∘Zv (BW g.h)∘Zs g.r (hlt:=Bv _)) ?_;rintro l d f;refine(O 2∘DA d) ?_;rw[ti ok];exact⟨Z,Bu g.x f g.x.size (fun k t=>by simp at t;subst t;exact g.rlo)⟩
    .refine(O 4∘Zv (Bp g.c)∘O 19∘Zs g.r (hlt:=Bv _)) ?_;rintro l d f;refine(O 2∘DA d) ?_
     rw[Sv fun h=>by
      have:=hbad.2 ⟨h.mode,h.i0,h.i1,h.size,h.time,h.sum⟩;grind]
     exact⟨Z,o _ d f⟩
end
section
open Fld Ust
def MayR(h:Hd):Prop:=May h/\Ajb h.path<=1099511627776
instance(h:Hd):Decidable (MayR h):=by unfold MayR;infer_instance
end

section
attribute [local irreducible] OW KW QW EX GW NV
open Pth
def OF(s:Bh)(d:Ajb s<=1000000000000)(w:Ad):Bn prog 71 [Bl s] w fun v w'=>v=U ((Cw s:Y):H)/\Bf w w':=by
 refine Bw Bi Z ntmps71 (by rfl) Z ?_;refine(O 8∘Zc (rQ s d w)) ?_;rintro _ i⟨rfl,a⟩;refine(O 7) ?_;rcases hc:GK s with⟨q,e⟩;refine(O 4)<|Zd 12 (fun g=>?_) fun g=>?_
 .have h:Cw s=140:=by unfold Cw;rw[hc,Ag Bg]
  refine(O 10∘Br) ?_;grind
 .refine(O 5)<|Zi (fun f=>?_) fun f=>?_
  .have h:Cw s=140:=by unfold Cw;rw[hc,Ag Bg]
   refine(O 4∘Br) ?_;rw[h];exact⟨Z,a⟩
  .have h:Cw s=0:=by unfold Cw;rw[hc,Ai Bg]
   refine(O 5∘Br) ?_;rw[h];exact⟨Z,a⟩
def Ts{l:Cn}{i:Y}(h:i<Ajb l):(De l)[i]? =J (Bl l[i]):=by simp[De]
end
section
open Pax
def _root_.Go.Proofs.YtkmlafmjaeeanaaGreatDoor.Pax.Pr.cells(p:Pr):Bm:=[Bl p.key,Bl p.val]
abbrev MA(l:Ae Pr):Bm:=l.flatMap Pr.cells
end
section
attribute [local irreducible] OW KW QW EX GW NV
open Fld
def Afa{c:AH}{n:Y}(a:n<256)(h:c.toNat=n):c=BU n:=by
 rw[<-h];simp
def fN{s:Bh}(h:s=[]∨(s.head? =J 48/\s≠[48])):dec s=(0,150):=by unfold dec;grind
def fO{s:Bh}{i:Y}(hi:i<Ajb s)(h:DY s[i]=Aj):dec s=(0,150):=by
 unfold dec;grind
def ve{s:Bh}(h0:0<Ajb s)(h:s[0].toNat=48):s.head? =J 48:=by
 rw[List.head?_eq_getElem?,BR h0,Afa X h];rfl
def vh{s:Bh}(h0:0<Ajb s)(h:¬s[0].toNat=48):¬s.head? =J 48:=by
 rw[List.head?_eq_getElem?,BR h0];intro e;simp_all
def dL{s:Bh}{i:Y}(hi:i<Ajb s)(h:(s.take i).all DY=Af)(a:DY s[i]=Af):(s.take (i+1)).all DY=Af:=by
 rw[nL s i hi,List.all_append,h];grind
def sU{s:Bh}(h:¬(s=[]∨(s.head? =J 48/\s≠[48])))(a:(s.take (Ajb s)).all DY=Af):dec s=(if 9007199254740992<Fw 10 0 s then(0,3)else(Fw 10 0 s,0)):=by
 rw[DV]at a;unfold dec;grind
def tj(s:Bh)(E:Ajb s<=140737488355328)(w:Ad):
 Bn prog 115 [Bl s] w fun v w'=>v=.tuple #[U ((dec s).1:Y),U ((dec s).2:Y)]/\w=w':=by
 refine Bw func115 Z ntmps115 (by rfl) Z ?_;refine(O 9∘Zv (by exact HC (r:=[]) Z Z)∘O 1)<|Zd 8 (fun j=>?_) fun j=>?_
 .have a:=fN (s:=s) (.inl j);refine(O 15∘BG) ?_;grind
 .have B:0<Ajb s:=Na.2 j;refine(O 1∘Zv (by exact EW (i:=0) underlying9 Z Z (BR X))∘O 2)<|Zd 12 (fun A=>?_) fun A=>?_
  .refine(O 1∘Zv (by exact MV (r:=[48]) Z Z)∘O 3)<|Zi (fun k=>?_) fun k=>?_
   .have a:=fN (s:=s) (.inr ⟨ve B A,k⟩);refine(O 5∘BG) ?_;grind
   .have d:¬(s=[]∨(s.head? =J 48/\s≠[48])):=by rintro(h|h);exact j h;exact k h.2
    have y:s=[48]:=Dk.1 k;subst y;have a:dec [48]=(0,0):=by decide+kernel
    refine(O 13)<|Lo (fun(i:Y)=>(i<=1,[(0,Bl ([48])),(4,U ((0:Y):H)),(18,U ((1:Y):H)),(19,U i)],w,1-i)) 0 ?_ ?_
    .omega
    .rintro i C;refine(O 5)<|Zi (fun e=>?_) fun e=>?_
     .obtain rfl:i=0:=X;have D:([48]:Bh)[0].toNat=48:=rfl;refine(O 16)<|Zd 26 (fun x=>?_) fun x=>?_
      .omega
      .refine(O 6)<|Zi (fun t=>?_) fun t=>?_
       .omega
       .refine(O 6∘HO 33∘O 7∘Zv (by exact Kc (b:=48) (m:=255) Z Z Z X)∘O 9)<|Lb 1 ?_;omega
     .refine(O 7∘Cb 44∘O 8∘BG) ?_;rw[a];exact⟨Z,Z⟩
  .have d:¬(s=[]∨(s.head? =J 48/\s≠[48])):=by rintro(h|h);exact j h;exact vh B A h.1
   refine(O 19)<|Lo (fun((i,n):Y×Y)=>(i<=Ajb s/\n=Fw 10 0 (s.take i)/\n<=90071992547409920+255/\(s.take i).all DY=Af,[(0,Bl (s)),(4,U n),(18,U ((Ajb s:Y):H)),(19,U i)],w,Ajb s-i)) (0,0) ?_ ?_
   .exact⟨X,by rfl,X,Bi⟩
   .rintro⟨i,n⟩⟨C,l,G,o⟩;refine(O 5)<|Zi (fun e=>?_) fun e=>?_
    .have D:s[i].toNat<256:=s[i].toNat_lt;refine(O 16)<|Zd 26 (fun x=>?_) fun x=>?_
     .have a:=fO e (by simp only[DY,Rz,decide_eq_false_iff_not];omega);refine(O 12∘BG) ?_;rw[a];exact⟨Z,Z⟩
     .refine(O 6)<|Zi (fun t=>?_) fun t=>?_
      .have a:=fO e (by simp only[DY,Rz,decide_eq_false_iff_not];omega);refine(O 5∘BG) ?_;grind
      .have g:DY s[i]=Af:=by simp only[DY,Bool.and_eq_true,decide_eq_true_eq];omega
       have f:=YF 10 (s.take i) s[i] 0;rw[<-nL s i e,<-l]at f;refine(O 6)<|Zi (fun q=>?_) fun q=>?_
       .rw[Ai q]at f;refine(O 6∘Zv (by exact Kc (b:=48) (m:=255) Z Z Z X)∘O 9)<|Lb ((i+1),(10*n+(s[i].toNat-48))) ?_;exact⟨X,f.symm,X,dL e o g⟩
       .rw[Ag q]at f;refine(O 6)<|Lb ((i+1),n) ?_;exact⟨X,f.symm,X,dL e o g⟩
    .obtain rfl:i=Ajb s:=X;have a:=sU d o;rw[DV]at l;rw[<-l]at a;refine(O 7)<|Zi (fun p=>?_) fun p=>?_
     .rw[Ai p]at a;refine(O 5∘BG) ?_;rw[a];exact⟨Z,Z⟩
     .rw[Ag p]at a;refine(O 7∘BG) ?_;rw[a];exact⟨Z,Z⟩
def tS(w:Ad)(k:Y)(os:Ap Obj):Bf w (Sort.grow (w.drewN k) os):=
 ⟨Z,Z,Z,Bi,fun j hj=>by
  show(w.heap++os)[j]? =w.heap[j]?;grind⟩
abbrev Qo (w:Ad):Prop:=Lib.TabBelow prog w.heap.size w "internal/strconv.uint64pow10" .u64 Lib.pow10Tab
def Qo.ext{w w':Ad}(h:Qo w)(hx:Bf w w'):Qo w':=fun a d=>h a (Bf.trans hx d)
def tB(n:H)(h0:-9223372036854775808<=n)(h1:n<=9223372036854775807)(w:Ad)(ht:Qo w):
 Bn prog 169 [U n] w fun v w'=>v=Bl (QB n)/\Bf w w':=by
 refine Bw func169 Z ntmps169 Be Z ?_;refine(O 10)<|Zi (fun h=>?_) fun h=>?_
 .have a:QB n=[]:=by unfold QB;rw[Ai X]
  refine(O 4∘Br) ?_;rw[a];exact⟨Z,Bf.refl _⟩
 .have a:QB n=Lib.itoa n:=by
   unfold QB Lib.itoa;rw[Ag X,Ag X]
  refine(O 4∘Zc (Hc func224 Be (Tryz.strconv_Itoa n h0 h1 w ht.here))) ?_;rintro _ w'⟨rfl,k,d,rfl⟩;refine(O 2∘Br) ?_;rw[a];exact⟨Z,tS _ _ _⟩
end
section
attribute [local irreducible] OW KW QW EX GW NV
open Fld Pax
structure Env(w:Ad):Prop where
 tab:Qo w
 mlen:∃m:H,w.cell? ⟨0,0,Aa⟩=J (U m)
def Env.ext{w w':Ad}(h:Env w)(hx:Bf w w'):Env w':=by
 refine⟨h.tab.ext hx,?_⟩;obtain⟨m,d⟩:=h.mlen;refine⟨m,?_⟩;have a:0<w.heap.size:=World.block_lt_of_cell? w _ d;have:=hx.block _ a;unfold World.cell? at d ⊢;grind
def jt(c:AH):∀s:Bh,Lib.index s [c]=Lib.indexByte s c
 |[]=>rfl
 |b::s=>by
  unfold Lib.index Lib.indexByte;rw[jt c s];grind
def sD(s:Bh)(c:AH):Lib.cut s [c]=CN s c:=by
 unfold Lib.cut CN;rw[jt];rcases OV s c with⟨d,j⟩|⟨i,d,j,a,h⟩
 .grind
 .rw[d,Ai X,Ai h,a];have e:=List.takeWhile_append_dropWhile (p:=(· !=c)) (l:=s);rw[a]at e
  have k:s.dropWhile (· !=c)=s.drop i:=by
   have g:=HJ i s;have f:s.take i++s.dropWhile (· !=c)=s.take i++s.drop i:=by rw[e,g]
   exact List.append_cancel_left f
  simp_all
def fC(s:Bh)(c:AH)(f:Ajb s<=1000000000)(w:Ad)(d:Env w):
 Bn prog 114 [Bl s,Bl [c]] w fun v w'=>v=.tuple #[Bl (CN s c).1,Bl (CN s c).2.1,.bool (CN s c).2.2]/\Bf w w':=by
 obtain⟨m,a⟩:=d.mlen;refine(Hc func114 (by rfl) ((Tryz.strings_Cut ⟨s.toArray⟩ ⟨#[c]⟩ m w (by show Ajb s<_;omega) a).mono (fun e w' q=>q))).mono ?_;rintro v w'⟨rfl,n,rfl⟩;refine⟨?_,Bf.drewN w n⟩;rw[show(⟨s.toArray⟩:ByteArray).data.toList=s from Z,show(⟨#[c]⟩:ByteArray).data.toList=[c]from Z,sD]
def fZ(f:Y)(q:Bh)(out:Ae Pr):Fe (f+1) q out=if q=[]then(out,0)else match KD q with
 |some (p,n)=>Fe f (q.drop n) (out++[p])
 |none=>([],170):=rfl
def sX(s:Bh):(dec s).1<=9007199254740992:=by
 unfold dec;grind
def yY(s:Bh)(hs:Ajb s<=140737488355328)(w:Ad)(T:Env w):
 Bn prog 91 [Bl s] w fun v w'=>∃u,v=.tuple #[u,U (((GM s).2:Y):H)]/\Bo w' w.heap.size 174 2 u (Ajb (GM s).1) (MA (GM s).1)/\Bf w w':=by
 have nil:∀w':Ad,Bo w' w.heap.size 174 2 (.slice Aa 0 0) (Ajb ([]:Ae Pr)) (MA []):=fun w'=>Bo.nil _ _ _ _;refine Bw func91 Z ntmps91 Be Z ?_;refine(O 13)<|Zi (fun t=>?_) fun t=>?_
 .have e:GM s=([],3):=by unfold GM;rw[Ai X]
  refine(O 5∘BG) ?_;rw[e];exact⟨_,Z,nil w,Bf.refl _⟩
 .have V:GM s=Fe (Ajb s+1) s []:=by unfold GM;rw[Ag X]
  refine(O 9)<|Lo (fun((q,g,v,wr):(Bh)×(Ae Pr)×Ah×Ad)=>(Ajb q<=Ajb s/\Ajb g+Ajb q<=Ajb s/\Fe (Ajb s+1) s []=Fe (Ajb q+1) q g/\Bo wr w.heap.size 174 2 v (Ajb g) (MA g)/\Bf w wr,[(0,Bl (q)),(4,v)],wr,Ajb q)) (s,([]),(.slice Aa 0 0),w) ?_ ?_
  .exact⟨Bv _,Bi,Z,nil w,Bf.refl _⟩
  .rintro⟨q,g,v,wr⟩⟨hq,af,G,i,B⟩;refine(O 5∘Zv (by exact HC (r:=[]) Z Z)∘O 1)<|Zi (fun f=>?_) fun f=>?_
   .subst f;refine(O 7∘BG) ?_;rw[V,G];exact⟨v,Z,i,B⟩
   .have ab:Ajb q<=262144:=X;have no:KD q=Aa->GM s=([],170):=fun h=>by rw[V,G,fZ,Ag f,h]
    have y:=fC q 32 X wr (T.ext B);have I:=fB q 32;have p:(dec (CN q 32).1).2=(dec (CN q 32).1).2:=rfl;have o:=sX (CN q 32).1;have a:KD q=if(CN q 32).2.2=Af/\(dec (CN q 32).1).2=0/\(dec (CN q 32).1).1<=Ajb q/\Ajb (CN q 32).1+2<=(dec (CN q 32).1).1/\q.getD ((dec (CN q 32).1).1-1) 0=10 then(if(CN ((q.drop (Ajb (CN q 32).1+1)).take ((dec (CN q 32).1).1-1-(Ajb (CN q 32).1+1))) 61).2.2=Af/\(CN ((q.drop (Ajb (CN q 32).1+1)).take ((dec (CN q 32).1).1-1-(Ajb (CN q 32).1+1))) 61).1≠[]then J (⟨(CN ((q.drop (Ajb (CN q 32).1+1)).take ((dec (CN q 32).1).1-1-(Ajb (CN q 32).1+1))) 61).1,(CN ((q.drop (Ajb (CN q 32).1+1)).take ((dec (CN q 32).1).1-1-(Ajb (CN q 32).1+1))) 61).2.1⟩,(dec (CN q 32).1).1)else Aa)else Aa:=rfl;generalize(CN q 32).2.1=rest at y;generalize(CN q 32).2.2=ok at y a;generalize(CN q 32).1=d at y I p o a;have L:=fun w'=>tj d X w';generalize(dec d).1=n at L o a;generalize(dec d).2=e at L p a;refine(O 4∘Zc y) ?_;rintro _ k⟨rfl,m⟩;refine(O 11∘Zc (L k)) ?_;rintro _ k⟨rfl,rfl⟩;refine(O 8) ?_;have P:=B.trans m
    have N:KD q=Aa->∃u:Ah,Value.tuple #[.slice Aa 0 0,U ((170:Y):H)]=.tuple #[u,U (((GM s).2:Y):H)]/\Bo k w.heap.size 174 2 u (Ajb (GM s).1) (MA (GM s).1)/\Bf w k:=fun h=>by
     rw[no h];grind
    rcases ok with _|_
    .skip
     refine(O 34∘BG) ?_;grind
    .skip
     refine(O 8)<|Zd 34 (fun a1=>?_) fun a1=>?_
     .refine(O 26∘BG) ?_;grind
     .refine(O 6)<|Zd 40 (fun a2=>?_) fun a2=>?_
      .refine(O 20∘BG) ?_;grind
      .refine(O 7)<|Zd 47 (fun a3=>?_) fun a3=>?_
       .refine(O 13∘BG) ?_;grind
       .have D:n-1<Ajb q:=X;have S:q.getD (n-1) 0=q[n-1]:=by simp[Ck,D]
        refine(O 7)<|Zi (fun a4=>?_) fun a4=>?_
        .refine(O 5∘BG) ?_;exact N (by rw[a,Ag (fun h=>a4 (by have:=h.2.2.2.2;rw[S]at this;simp_all))])
        .have K:q.getD (n-1) 0=10:=by rw[S];exact Ll.1 Bg
         rw[Ai ⟨Z,X,X,X,K⟩]at a;have ai:Ajb ((q.drop (Ajb d+1)).take (n-1-(Ajb d+1)))<=262144:=by rw[BZ,CM];omega
         have x:=fC ((q.drop (Ajb d+1)).take (n-1-(Ajb d+1))) 61 X k (T.ext P);have E:=fB ((q.drop (Ajb d+1)).take (n-1-(Ajb d+1))) 61;generalize(CN ((q.drop (Ajb d+1)).take (n-1-(Ajb d+1))) 61).2.1=val at x a;generalize(CN ((q.drop (Ajb d+1)).take (n-1-(Ajb d+1))) 61).2.2=ok2 at x a;generalize(CN ((q.drop (Ajb d+1)).take (n-1-(Ajb d+1))) 61).1=key at x a E;refine(O 9∘Zv (by exact Ol underlying9 Z Z Z X)∘Zc x) ?_;rintro _ Q⟨rfl,l⟩;refine(O 10) ?_;have x2:=P.trans l
         have W:KD q=Aa->∃u:Ah,Value.tuple #[.slice Aa 0 0,U ((170:Y):H)]=.tuple #[u,U (((GM s).2:Y):H)]/\Bo Q w.heap.size 174 2 u (Ajb (GM s).1) (MA (GM s).1)/\Bf w Q:=fun h=>by
          simp_all
         rcases ok2 with _|_
         .skip
          refine(O 14∘BG) ?_;grind
         .skip
          refine(O 5∘Zv (by exact HC (r:=[]) Z Z)∘O 2)<|Zi (fun b1=>?_) fun b1=>?_
          .refine(O 5∘BG) ?_;grind
          .rw[Ai ⟨Z,b1⟩]at a;have j:=(i.ext m).ext l;refine(O 7∘Kx x2 j) ?_;rintro _ v3 w3 C A _;refine(O 5∘Zv (by exact MW underlying9 Z Z X)∘O 3)<|Lb ((q.drop n),(g++[⟨key,val⟩]),v3,w3) ?_ (hm:=by dsimp only;rw[CM];omega);refine⟨by rw[CM];omega,Bg,?_,?_,A⟩
           .rw[G,fZ,Ag f,a];simp only;exact((XO _ (q.drop n) _ (by rw[CM];omega)).2 _ X).symm
           .rw[BA,Dd,MA,IL];assumption
def sn(s:Bh)(w:Ad):Bn prog 168 [Bl s,Bl [61]] w fun v w'=>v=.bool (decide ((61:AH)∈s))/\w=w':=by
 refine(Hc func168 (by rfl) (Tryz.strings_Contains_one ⟨s.toArray⟩ 61 w)).mono ?_;rintro v w'⟨rfl,rfl⟩;refine⟨Av Value.bool (decide_eq_decide.2 ?_),Z⟩;rw[show(⟨s.toArray⟩:ByteArray).data.toList=s from Z];rcases OV s 61 with⟨d,a⟩|⟨i,d,_,_,a⟩
 .grind
 .grind
def tA(n:Y):QB (n:H)=Lib.decDigits n:=by
 rfl
def XU(n:Y)(h1:n<=9223372036854775807)(w:Ad)(ht:Env w):Bn prog 169 [U (n:H)] w fun v w'=>v=Bl (Lib.decDigits n)/\Bf w w':=by
 have:=tB (n:H) X X w ht.tab;rwa[tA]at this
def tM(p:Pr)(l:Ae Pr)(n:Y)(out:Bh):Lu (p::l) n out=if 262144<n+Dj p then([],3)else Lu l (n+Dj p) (out++Du p):=rfl
def tC{n:Y}(h:n<=9223372036854775807):dl n<=19:=fW 19 n X Bi
def zM{p:Pr}(h:dl (Dj p)=JH (rest p)):Ajb (Du p)=Dj p:=by
 unfold Du;simp only[BA,Dd];unfold dl at h;rw[h];unfold Dj rest;omega
def yA(k:Bh):Mw k=Af↔¬(k=[]∨(61:AH)∈k):=by
 unfold Mw;simp
def OkP(l:Ae Pr):Prop:=∀p∈l,Ajb p.key<=1000000000000/\Ajb p.val<=1000000000000
def yZ(l:Ae Pr)(hl:Ajb l<=140737488355328)(a6:OkP l)(A:Aw AC)(k B:Y)(w:Ad)(hG:Env w)(hs:Sl w B A (MA l)):
 Bn prog 129 [.slice A (Ajb l) k] w fun v w'=>v=.tuple #[Bl (Nw l).1,U (((Nw l).2:Y):H)]/\Bf w w':=by
 refine Bw func129 Z ntmps129 Be Z ?_;refine(O 16)<|Lc (fun(wr:Ad)=>(l.all (fun p=>Mw p.key)=Af/\Bf w wr,[(0,.slice A (Ajb l) k),(4,U ((0:Y):H))],wr)) ?_ ?_
 .refine(O 1)<|Lo (fun((i,wr):Y×Ad)=>(i<=Ajb l/\(l.take i).all (fun p=>Mw p.key)=Af/\Bf w wr,[(0,.slice A (Ajb l) k),(4,U ((0:Y):H)),(12,.slice A (Ajb l) k),(13,U ((Ajb l:Y):H)),(14,U i)],wr,Ajb l-i)) (0,w) ?_ ?_
  .exact⟨X,Z,Bf.refl _⟩
  .rintro⟨i,wr⟩⟨hi,j,t⟩;refine(O 5)<|Zi (fun a=>?_) fun a=>?_
   .obtain⟨b,o,rfl,_,f⟩:=(hs.ext t).flat (c:=2) (fun _=>rfl) Bc a;have a0:l.take (i+1)=l.take i++[l[i]]:=(CS a).symm;refine(O 6∘Zv (Dr ((l[i]).cells) f)∘Zn) ?_;rintro T w1 W a5 G;refine(Zs a5 (hlt:=Bv _)) ?_;rintro Q I a9;refine(O 2) ?_;replace I:Bk Q T 174 (l[i]).cells:=I;have x2:Bf w Q:=Bu (t.trans G) a9 (t.trans G).size (fun k hk=>by simp at hk;have:=t.size;omega)
    have no:Mw (l[i]).key=Aj->Nw l=([],170):=fun h=>by
     unfold Nw;grind
    refine(O 3∘Zv (by exact HC (r:=[]) Z Z)∘O 1)<|Zd 21 (fun h1=>?_) fun h1=>?_
    .refine(O 11∘BG) ?_;rw[no (by unfold Mw;grind)];exact⟨Z,x2⟩
    .refine(O 2∘Zc (sn (l[i]).key Q)) ?_;rintro _ _⟨rfl,rfl⟩;refine(O 2)<|Zi (fun h2=>?_) fun h2=>?_
     .refine(O 5∘BG) ?_;rw[no (by unfold Mw;grind)];exact⟨Z,x2⟩
     .refine(O 6)<|Lb ((i+1),Q) ?_;refine⟨X,?_,x2⟩;rw[a0,List.all_append,j];have:Mw (l[i]).key=Af:=(yA _).2 Bg;grind
   .obtain rfl:i=Ajb l:=X;rw[DV]at j;refine(O 1∘Lm wr) ?_;grind
 .rintro wr⟨j,t⟩;have e0:Nw l=Lu l 0 []:=by unfold Nw;rw[Ai j]
  rw[e0];refine(O 2∘Zn) ?_;rintro bb w1 W bh G;refine(O 9) ?_;have P:=Bd.new (B:=w.heap.size) (by have:=t.size;omega) bh;have x1:=t.trans G;refine Lo (fun((i,n,g,wr):Y×Y×(Bh)×Ad)=>(i<=Ajb l/\n<=262144/\Ajb g<=n/\Lu (l.drop i) n g=Lu l 0 []/\Bd wr w.heap.size bb g/\Bf w wr,[(4,U n),(7,.pointer (J ⟨bb,0,Aa⟩)),(27,.slice A (Ajb l) k),(28,U ((Ajb l:Y):H)),(29,U i)],wr,Ajb l-i)) (0,0,([]),w1) ?_ ?_
  .grind
  .rintro⟨i,n,g,wr⟩⟨hi,hn,bs,x,P,t⟩;refine(O 5)<|Zi (fun a=>?_) fun a=>?_
   .obtain⟨b,o,rfl,_,f⟩:=(hs.ext t).flat (c:=2) (fun _=>rfl) Bc a;have bc:l.drop i=l[i]::l.drop (i+1):=DE a;have hp:=a6 l[i] (BM a);have a3:(l[i]).cells=[Bl (l[i]).key,Bl (l[i]).val]:=rfl;rw[bc,tM]at x;generalize l[i]=p at hp x f a3;refine(O 6∘Zv (Dr p.cells f)∘Zn) ?_;rintro T Q bi I E;refine(Zs I (hlt:=Bv _)) ?_;rintro w3 N a8;refine(O 4) ?_;replace N:Bk w3 T 174 p.cells:=N;have x3:Bf wr w3:=Bu E a8 E.size (fun k hk=>by grind);refine(O 17) ?_;have hr:((Ajb p.key:Y):H)+((Ajb p.val:Y):H)+3=((rest p:Y):H):=by unfold rest;omega
    have bq:rest p<=2000000000003:=by unfold rest;omega
    refine(Cs 10 (U (((rest p):Y):H)) (e:=by exact Av (Value.int .i64) (by unfold rest;omega))∘Cs 11 (U (((rest p+1):Y):H)) (e:=by exact Av (Value.int .i64) (by unfold rest;omega)))<|Lo (fun((z,wq):Y×Ad)=>(rest p+1<=z/\z<=rest p+20/\z<=dl z+rest p/\(∀d,1<=d->d+rest p<z->dl (d+rest p)≠d)/\Bf w3 wq,[(4,U n),(7,.pointer (J ⟨bb,0,Aa⟩)),(9,.pointer (J ⟨T,0,Aa⟩)),(10,U (((rest p):Y):H)),(11,U z),(27,.slice (J ⟨b,o,Aa⟩) (Ajb l) k),(28,U ((Ajb l:Y):H)),(29,U i)],wq,rest p+21-z)) ((rest p+1),w3) ?_ ?_
    .exact⟨X,X,by have:=fY (rest p+1);omega,fun d h1 h2=>by omega,Bf.refl _⟩
    .rintro⟨z,wq⟩⟨bn,bm,ao,al,C⟩;have bl:dl z<=19:=tC X;have xq:=(t.trans x3).trans C;have c1:=XU z X wq (hG.ext xq);have ba:Ajb (Lib.decDigits z)=dl z:=rfl;generalize hD:Lib.decDigits z=D at c1 ba;refine(O 4∘Zc c1) ?_;rintro _ S⟨rfl,m⟩;refine(O 6)<|Zi (fun a7=>?_) fun a7=>?_
     .have c2:=XU z X S (hG.ext (xq.trans m));rw[hD]at c2;refine(O 4∘Zc c2) ?_;rintro _ w5⟨rfl,y⟩;refine(O 6∘Cs 11 (U (((dl z+rest p):Y):H)) (e:=by exact Av (Value.int .i64) X))<|Lb ((dl z+rest p),w5) ?_;refine⟨X,X,?_,?_,(C.trans m).trans y⟩
      .have:=fX z (dl z+rest p) ao;omega
      .intro d h1 h2 h3;by_cases h4:d+rest p<z
       .grind
       .have:=fX z (d+rest p) X;omega
     .have aj:dl z+rest p=z:=X
      have hd:IsD (rest p) (dl z):=by
       refine⟨fY z,X,Bg,fun d' h1 h2=>al d' h1 X⟩
      have bf:=vK hd;have V:Dj p=z:=by unfold Dj;rw[<-bf];exact aj
      have a1:=zM (p:=p) Bg;have a2:Du p=D++[32]++p.key++[61]++p.val++[10]:=by unfold Du;rw[V,hD]
      rw[V]at a1 x;refine(O 14)<|Zi (fun ab=>?_) fun ab=>?_
      .rw[Ai X]at x;refine(O 5∘BG) ?_;rw[<-x];exact⟨Z,xq.trans m⟩
      .rw[Ag X]at x;have a4:=(N.ext C).ext m;have ai:=((P.ext x3).ext C).ext m;have x4:=xq.trans m;have c3:=XU z X S.drew (hG.ext (x4.trans (Bf.drew S)));rw[hD]at c3;refine(O 1∘Yr 12 (fun w'=>Bk w' T 174 p.cells) a4.drew) fun hS=>(Gv [0,3,4,7,8]∘Yc 1 c3) ?_;rintro _ w5⟨rfl,y⟩;refine⟨hS.ext y,fun hS=>?_⟩;refine(Yw 2 (he:=by exact fun _ _=>JZ (r:=[32]) Z Z (by first|omega|(simp only[BA,Cz,EZ,BZ,CM,Cq];omega)))∘Gv [5]∘Yw 6 (he:=by exact fun _ _=>JZ (r:=[61]) Z Z (by first|omega|(simp only[BA,Cz,EZ,BZ,CM,Cq];omega)))∘Gv [9]∘Yw 10 (he:=by exact fun _ _=>JZ (r:=[10]) Z Z (by first|omega|(simp only[BA,Cz,EZ,BZ,CM,Cq];omega)))) ?_;have af:=(ai.ext (Bf.drew S)).ext y;have x5:=(x4.trans (Bf.drew S)).trans y;refine(Yc 11 (bN w.heap.size bb g (D++[32]++p.key++[61]++p.val++[10]) w5 af Bi Bg x5.size)) ?_;rintro _ w6⟨⟨q,rfl⟩,L,bj,K⟩;refine⟨K.bk hS Bc,fun hS=>?_⟩;refine(Yd∘O 5) ?_;rw[<-a2]at L;refine(Cs 4 (U (((n+z):Y):H)) (e:=by exact Av (Value.int .i64) X))<|Lb ((i+1),(n+z),(g++Du p),w6) ?_;refine⟨X,X,Bg,x,L,Tm.below x5 K x5.size (Bv _)⟩
   .obtain rfl:i=Ajb l:=X;rw[IK]at x;have e2:Lu l 0 []=(g,0):=x.symm;rw[e2];refine(O 3∘Zc (Xo w.heap.size bb g wr P X t.size)) ?_;rintro _ Q⟨rfl,E⟩;refine(O 3∘BG) ?_;exact⟨Z,Below.trans t E⟩
end
section
attribute [local irreducible] OW KW QW EX GW NV
open Fld Ust Pax Pth Tar
def _root_.Go.Proofs.YtkmlafmjaeeanaaGreatDoor.Tar.En.cells(x:En):Bm:=[Bl x.path,Bl x.data]
abbrev CO(l:Ae En):Bm:=l.flatMap En.cells
def uh(n:Y)(h:n<=9007199254740992)(w:Ad):Bn prog 167 [U ((n:Y):H)] w fun v w'=>v=U ((Gn n:Y):H)/\w=w':=by
 refine Bw func167 Z ntmps167 (by rfl) Z ?_;refine(O 13∘Br) ?_;exact⟨Z,Z⟩
def uY{p:Bh}{k n:Y}(hp:Ajb p<=1000000)(hk:k<=255)(hn:n<=9007199254740992):(CL p k n).Ok:=
 ⟨hk,by show Ajb p<=_;omega,by show(0:Y)<=_;omega,by show(0:Y)<=_;omega,by show(0:Y)<=_;omega,by unfold Ke CL;simp only;omega,by unfold Ke CL;simp only;omega,by unfold Ke CL;simp only;omega,by unfold Ke CL;simp only;omega,by unfold Ke CL;simp only;omega⟩
def aK(p:Bh)(k:Y)(d:Bh)(g:Tar.Good p k (Ajb d))(m:Ajb p<=1000000)(hk:k<=255)(x:Ajb d<=1000000)(w:Ad):
 Bn prog 128 [Bl p,.int .u8 (k:H),Bl d] w fun v w'=>v=.tuple #[Bl (FW p k d),U ((0:Y):H)]/\Bf w w':=by
 have f:=Afc (CL p k (Ajb d)) (uY m hk X) w;rw[g.enc]at f;have i:Ajb (CY (CL p k (Ajb d)))=512:=g.len;have t:=Yq (Ajb d);have q:=SA (Ajb d);unfold FW;generalize CY (CL p k (Ajb d))=h at f i;refine Bw func128 Z ntmps128 Be Z ?_;refine(O 12∘Zc f) ?_;rintro _ l⟨rfl,e⟩;refine(O 12∘Cb 20∘O 9∘Zc (uh (Ajb d) X l)) ?_;rintro _ _⟨rfl,rfl⟩;refine(O 3∘Gk) ?_;rintro b r o j a;rw[<-Xr]at j;have n:=Vf (Gn (Ajb d)-Ajb d);refine(Zv (Eb j.sl (hl:=Vf _))∘O 4∘BG) ?_;exact⟨Z,e.trans a⟩
def gv(x:En)(t:Ajb x.path<=1000000000000)(hd:Ajb x.data<=140737488355328)(w:Ad)(hG:Env w):
 Bn prog 99 [.agg x.cells.toArray] w fun v w'=>v=.tuple #[Bl (JL x).1,U (((JL x).2:Y):H)]/\Bf w w':=by
 refine Bw func99 Z ntmps99 Be Z ?_;refine(O 2) ?_;refine Dz Z Z Z ?_;rintro P T ab i D;refine(O 7) ?_;replace i:Bk T P 64 x.cells:=i;refine(O 1∘Zc (OF x.path t T)) ?_;rintro _ w2⟨rfl,q⟩;refine(O 7) ?_;have x2:=D.trans q;have L:=i.ext q;refine Zi (fun G=>?_) fun G=>?_
 .have e:JL x=([],140):=by unfold JL;rw[Ai X]
  have a4:Cw x.path=140:=by unfold Cw at G ⊢;split at G;(· omega);(· grind)
  refine(O 6∘BG) ?_;grind
 .have h:Cw x.path=0:=X;obtain⟨a3,aj,a,hz⟩:=Qv h;refine(O 9)<|Zi (fun B=>?_) fun B=>?_
  .have e:JL x=([],3):=by unfold JL;rw[Ag X,Ai X]
   refine(O 5∘BG) ?_;grind
  .have A:Ajb x.data<=262144:=X;have e:JL x=(JM x,0):=by unfold JL;rw[Ag X,Ag X]
   refine(O 6∘Zc (lK x.path X w2)) ?_;rintro _ w3⟨r,rfl,hr,o⟩;refine(O 12) ?_;obtain rfl:=nj hr;have S:=x2.trans o;have K:=L.ext o;rcases hs:(BP x.path).2.2 with _|_
   .refine(O 5) ?_;have y:¬(BP x.path).2.2=Af:=by rw[hs];decide
    have N:JM x=FW Hk 120 (Du ⟨Em,x.path⟩)++FW (x.path.take 100) 48 x.data:=by unfold JM;rw[Ag y]
    have E:=ya y;have ai:=an (Pp a);have a0:=SC _ (Pp a);have af:Dj ⟨Em,x.path⟩<=300:=by unfold Dj;have:=Pp a;omega
    have g1:=YK (n:=Ajb (Du ⟨Em,x.path⟩)) X;have g2:=YI h A;have ao:=aJ g1;have al:=aJ g2;have a2:=SA (Ajb (Du ⟨Em,x.path⟩));have a1:=SA (Ajb x.data);refine(O 2) ?_;refine Mb 1 ([[Bl Em,Bl x.path]]) Z Z underlying170 nW Z Bc Z Z Z Bi Bc ?_;rintro V C W f d;replace f:Bk C V 174 (MA [⟨Em,x.path⟩]):=f;have Q:=S.trans d;have c1:=yZ [⟨Em,x.path⟩] Bi (by intro p t;simp only[CF]at t;subst t;exact⟨by show Ajb Em<=_;decide,t⟩) (J ⟨V,0,Aa⟩) 1 _ C (hG.ext Q) (Sl.Agl f f.lt);rw[yW a]at c1;refine(Zc c1) ?_;rintro _ w5⟨rfl,m⟩;refine(O 9) ?_;have c2:=aK Hk 120 (Du ⟨Em,x.path⟩) g1 Bc Bc X w5;refine(Zc c2) ?_;rintro _ w6⟨rfl,l⟩;refine(O 7) ?_;have I:=((K.ext d).ext m).ext l;have x6:=(Q.trans m).trans l;refine(Yr 11 (fun w'=>Bk w' P 64 x.cells) I.drew) fun hS=>(Gv [0,1]∘Yw 2 (he:=by exact fun _ _=>Kb (j:=100) underlying9 Z Z X)∘Gv [3,4]) ?_;have c3:=fun w=>aK (x.path.take 100) 48 x.data g2 Bg Bc X w;refine(Yc 5 (c3 _)) ?_;rintro _ w7⟨rfl,k⟩;refine⟨hS.ext k,fun hS=>?_⟩;refine(Gv [6,7,8,9,10]∘Yd∘O 9∘BG) ?_;rw[e,N];exact⟨Z,(x6.trans (Bf.drew w6)).trans k⟩
   .refine(O 4) ?_;have N:JM x=FW x.path 48 x.data:=by unfold JM;rw[Ai hs]
    have g:=YJ h A hs;refine(O 3∘Zc (aK x.path 48 x.data g X Bc X w3)) ?_;rintro _ C⟨rfl,d⟩;refine(O 5∘BG) ?_;rw[e,N];exact⟨Z,S.trans d⟩
end


namespace Rec
open Go.Proofs.YtkmlafmjaeeanaaGreatDoor
def be:Y->Y->Bh
 |0,_=>[]
 |w+1,n=>be w (n/256)++[BU (n%256)]
def DX:∀w n,Ajb (be w n)=w
 |0,_=>rfl
 |w+1,n=>by simp[be,DX]
def nb(s:Bh):Y:=s.foldl (fun v c=>v*256+c.toNat) 0
def ZB(s:Bh)(c:AH):nb (s++[c])=nb s*256+c.toNat:=by simp[nb]
def SJ:∀(k:Y) (s:Bh),Ajb s=k->nb s<256 ^ k
 |0,s,h=>by rw[Ih h];decide
 |k+1,s,h=>by
  have hne:s≠[]:=by intro e;subst e;simp at h
  rw[<-List.dropLast_concat_getLast hne,ZB];have a:=SJ k s.dropLast Bg;have d:=(s.getLast hne).toNat_lt;omega
def Ph:∀w n,n<256 ^ w->nb (be w n)=n
 |0,n,h=>by simp at h;subst h;rfl
 |w+1,n,h=>by
  simp only[be,ZB];rw[Ph w _ X];simp;omega
def body(kind gen index:Y)(data:Bh):Bh:=[75,73,83,84]++[BU kind]++be 8 gen++be 4 index++be 2 (Ajb data)++(data++BJ (489-Ajb data) 0)
def eC(e gen d:Y)(a:Bh)(h:Ajb a<=486):Ajb (body e gen d a)=508:=by
 simp[body,DX];omega
def text(kind gen index:Y)(data:Bh):Bh:=body kind gen index data++be 4 (Fc (body kind gen index data))
def VQ(e gen d:Y)(a:Bh)(h:Ajb a<=486):Ajb (text e gen d a)=512:=by
 unfold text;rw[BA,eC _ _ _ _ h,DX]
def bad(kind:Y)(gen index:H)(data:Bh):Prop:=kind=0∨gen<0∨4611686018427387904<gen∨index<0∨2147483647<index∨486<Ajb data
instance(kind:Y)(gen index:H)(data:Bh):Decidable (bad kind gen index data):=by unfold bad;infer_instance
def ER(kind:Y)(gen index:H)(data:Bh):Bh×Y:=if bad kind gen index data then([],200)else(text kind gen.toNat index.toNat data,0)
structure R where
 kind:Y
 gen:H
 index:H
 data:Bh
 deriving DecidableEq
def R0:R:=⟨0,0,0,[]⟩
def Hx(s:Bh):H:=if nb s<9223372036854775808 then nb s else(nb s:H)-18446744073709551616
def DI(s:Bh):R:=⟨(s.getD 4 0).toNat,Hx ((s.drop 5).take 8),Hx ((s.drop 13).take 4),(s.drop 19).take (nb ((s.drop 17).take 2))⟩
def Ct(s:Bh):R×Y:=
 if Ajb s=512/\nb ((s.drop 17).take 2)<=486/\ER (DI s).kind (DI s).gen (DI s).index (DI s).data=(s,0)then(DI s,0)else(R0,200)
end Rec

section
attribute [local irreducible] OW KW QW EX GW NV
def u8_lt(c:AH):c.toNat<256:=c.toNat_lt
def YW(s:Bh)(C:Ajb s<=9223372036854775807)(w:Ad):
 Bn prog 62 [Bl s] w fun v w'=>v=.int .u32 (Fc s:Y)/\Bf w w':=by
 refine Bw Bi Z ntmps62 (by rfl) Z ?_;refine(O 6∘Zc (nF w)) ?_;rintro _ r⟨rfl,d⟩;refine(Zv (by exact EX.alloc (l:=NX) NT Z)) ?_;have o:=Bk.new r 178 NX;have f:=d.trans (Bf.alloc _ (.cells NX.toArray 178));refine WZ Z NT Z Z Rs (TG.2 fun v y=>by obtain⟨_,_,rfl⟩:=Cr.1 y;rfl) o Cq ?_;intro q B j;refine(O 13) ?_;have t:=f.grown j (fun g j=>by cases j;exact d.size);refine Lo (fun((k,x))=>(k<=Ajb s/\x<4294967296/\x=Sj (s.take k),[(0,Bl (s)),(3,.pointer (J ⟨r.heap.size,0,Aa⟩)),(4,.int .u32 x),(8,U (Ajb s:H)),(9,U k)],q,Ajb s-k)) (0,4294967295) ?_ ?_
 .exact⟨X,X,Z⟩
 .rintro⟨k,x⟩⟨D,d,a⟩;refine(O 5)<|Zi (fun h=>?_) fun h=>?_
  .have E:=u8_lt s[k];have i:=Aeu s[k].toNat;have e:x/16777216 ^^^ Jj 8 _ 0<256:=OA (n:=8) X i;have A:=XJ (x/16777216 ^^^ Jj 8 s[k].toNat 0);refine(O 10) ?_;refine OW.val Z Z (by first|exact Ho _ _ _ _ _ _|exact IH (p:=256) (m:=4294967296) Z Z Bc Bc Z Bc)<|(O 1∘Zv (by exact II (p:=16777216) Z Z Bc Bc)∘O 5∘Zc (oy s[k].toNat 8 X X _)) ?_;rintro _ _⟨rfl,rfl⟩;refine(O 1∘Zv (by exact Jr (m:=255) Z Z Z X)∘O 1∘Zv (Bp B (hi:=aX _ e))∘Zv (by exact Jr (m:=4294967295) Z Z Z X)∘O 7)<|Lb ((k+1),(OI x _)) ?_;exact⟨X,XF _ _,by rw[bd s k h,rO,<-a]⟩
  .refine(O 4∘Zv (by exact cN (m:=4294967295) Z Z Z X)∘Zc (oy (4294967295-x) 32 X X q)) ?_;rintro _ _⟨rfl,rfl⟩;refine(O 2∘Br) ?_;rw[Dq X]at a;exact⟨by rw[a];rfl,t⟩
end
section
attribute [local irreducible] OW KW QW GW NV
open Rec
def zv(k:Y):2 ^ (8*k)=256 ^ k:=by rw[Nat.pow_mul]
def HU(n d:Y)(I:n<18446744073709551616)(E:1<=d/\d<=8)(w:Ad):
 Bn prog 141 [.int .u64 (n:H),U (d:H)] w fun v w'=>v=Bl (be d n)/\Bf w w':=by
 refine Bw func141 Z ntmps141 (by rfl) Z ?_;refine(O 7∘Gk) ?_;rintro o r C N A;refine OW.val Z Z (CI Z) ?_;refine OW.nil ?_;refine Eo (Eo (KW.region ?_));refine OW.val Z Z (EX.move Z) ?_;refine OW.val Z Z (PS underlying23 Z) ?_;refine OW.val Z Z (EX.move Z) ?_;refine OW.nil ?_;refine KW.block ?_;refine qe (fun(i:Y) (wr:Ad)=>i<=d/\Bk wr o 5 (BI (be i (n/256 ^ (d-i)))++BJ (d-i) (.int .u8 0))/\Bf w wr) (fun(i:Y) (wr:Ad)=>[(0,.int .u64 ((n:Y):H)),(1,U ((d:Y):H)),(5,.slice (J ⟨o,0,Aa⟩) d d),(10,U ((d:Y):H)),(11,U ((i:Y):H))]) (fun(i:Y) (wr:Ad)=>wr) (fun(i:Y) (wr:Ad)=>d-i) (0) (r) ⟨Z,Z,Z,Z,Z,AB⟩ Z ?_ ?_
 .exact⟨X,Ce,A⟩
 .rintro i wr⟨L,j,f⟩;refine Eo (KW.region ?_);refine OW.val Z Z (by first|exact Of Z Z|exact Og Z Z) ?_;refine OW.nil ?_;refine Eo ?_;refine TF Z (fun h=>?_) (fun h=>?_)
  .have B:n/256 ^ (d-1-i)/256=n/256 ^ (d-i):=by
    rw[show d-i=(d-1-i)+1 by omega,Kt,WR]
   have G:n/256 ^ (d-1-i)<=n:=Ox _ _;refine KW.skip (Eo (KW.block (Eo (KW.region ?_))));refine OW.val Z Z (EX.move Z) ?_;refine OW.val Z Z (CI Z) ?_;refine OW.nil ?_;refine KW.region ?_;refine OW.val Z Z (EX.move Z) ?_;refine OW.val Z Z (EX.move Z) ?_;refine OW.val Z Z (EX.move Z) ?_;refine OW.val Z Z (EX.move Z) ?_;refine OW.val Z Z (by first|exact Kc (b:=1) (m:=9223372036854775807) Z Z Z X|exact RG (m:=9223372036854775807) Z Z Z Z X) ?_;refine OW.val Z Z (EX.move Z) ?_;refine OW.val Z Z (by first|exact Kc (m:=9223372036854775807) Z Z Z X|exact RG (m:=9223372036854775807) Z Z Z Z X) ?_;refine OW.val Z Z (by first|exact Wl (a:=8) (m:=9223372036854775807) Z Z Z X|exact EX.mulZ (m:=9223372036854775807) Z Z Z Z X) ?_;refine OW.val Z Z (by first|exact LP (m:=18446744073709551615) underlying3 underlying180 Z Z X|exact MR (m:=18446744073709551616) underlying3 underlying180 Z Z Bc|exact EX.convZ underlying3 underlying180 Z) ?_;refine OW.val Z Z (II (s:=8*(d-1-i)) (p:=256 ^ (d-1-i)) Z Z (zv _) (by show _<=64;omega)) ?_;refine OW.val Z Z (by first|exact LP (m:=255) underlying211 underlying5 Z Z X|exact MR (m:=256) underlying211 underlying5 Z Z Bc|exact EX.convZ underlying211 underlying5 Z) ?_;refine OW.val Z Z (by first|exact KV underlying23 CE Z Z X|exact KX underlying23 CE Z Z X) ?_;refine Uf Z CE Z Z (by rfl) (j) (by simp[BI,DX];omega) ?_;rintro q D g;refine OW.nil ?_;refine di (KW.region ?_);refine OW.val Z Z (by first|exact JY (b:=1) (m:=9223372036854775807) Z Z Z X|exact Ka (m:=9223372036854775807) Z Z Z Z X) ?_;refine OW.val Z Z (EX.move Z) ?_;refine OW.nil ?_;refine pX (i+1) (q) ⟨Z,Z,Z,Z,Z,AB⟩ Z ?_ X;refine⟨X,?_,Bu f g f.size (fun k K=>by grind)⟩
   have e:be (i+1) (n/256 ^ (d-(i+1)))=be i (n/256 ^ (d-i))++[BU (n/256 ^ (d-1-i)%256)]:=by
    rw[show d-(i+1)=d-1-i by omega];simp only[be];rw[B]
   have Q:(BI (be i (n/256 ^ (d-i)))++BJ (d-i) (Value.int .u8 0)).set i (.int .u8 ((n/256 ^ (d-1-i)%256:Y):H))=BI (be (i+1) (n/256 ^ (d-(i+1))))++BJ (d-(i+1)) (.int .u8 0):=by
    rw[e,Nc _ _ (by simp[BI,DX])];have l:Ajb (BI (be i (n/256 ^ (d-i))))=i:=by simp[BI,DX]
    rw[l,Fa,show d-i=(d-(i+1))+1 by omega,Km,Ko];simp[BI]
   grind
  .obtain rfl:i=d:=X;rw[Fa,TS,List.append_nil,Nat.pow_zero,Nat.div_one]at j;refine(O 4∘Zv (Eb j.sl (hl:=DX _ _))∘O 2∘Br) ?_;grind
def xR(s:Bh){i:Y}(h:i<Ajb s):nb (s.take (i+1))=nb (s.take i)*256+s[i].toNat:=by
 rw[LY,BR h];exact ZB _ _
def Rg(d n:Y)(s:Bh)(T:Ay)(w:Ad)(a:Bk w d T [Bl s])(j:n<=1000000000000)(i:Ajb s<=1000000000000):
 Bn prog 105 [.pointer (J ⟨d,0,Aa⟩),U (n:H)] w fun v w'=>v=Bl (s.take n)/\Bk w' d T [Bl (s.drop n)]/\Mo w w' [d]:=by
 refine Bw func105 Z ntmps105 (by rfl) Z ?_;refine Eo (KW.region ?_);refine OW.val Z Z (CI Z) ?_;refine OW.nil ?_;refine Eo (Eo (KW.region ?_));refine OW.val Z Z (EX.move Z) ?_;refine OW.val Z Z (EX.move Z) ?_;refine OW.val Z Z (DS Z) ?_;refine OW.val Z Z (Do (off:=0) underlying192 Z Z Gz Z Z) ?_;refine OW.val Z Z (Ci underlying9 Z Z (a.cell_of Z)) ?_;refine OW.val Z Z (MT underlying9 Z) ?_;refine OW.val Z Z (by first|exact Od Z Z|exact Oe Z Z) ?_;refine OW.nil ?_;refine TF Z (fun h=>?_) (fun h=>?_)
 .have l:s.take n=s:=Dq X;have k:s.drop n=[]:=Oq X;refine KW.region ?_;refine OW.val Z Z (EX.move Z) ?_;refine OW.val Z Z (DS Z) ?_;refine OW.val Z Z (Do (off:=0) underlying192 Z Z Gz Z Z) ?_;refine OW.val Z Z (Ci underlying9 Z Z (a.cell_of Z)) ?_;refine OW.val Z Z (MT underlying9 Z) ?_;refine OW.val Z Z (CI Z) ?_;refine OW.nil ?_;refine Eo (KW.region ?_);refine OW.val Z Z (EX.move Z) ?_;refine OW.val Z Z (DS Z) ?_;refine OW.val Z Z (Do (off:=0) underlying192 Z Z Gz Z Z) ?_;refine OW.val Z Z (Ci underlying9 Z Z (a.cell_of Z)) ?_;refine OW.val Z Z (EX.move Z) ?_;refine OW.val Z Z (Kb underlying9 Z Z X) ?_;refine OW.val Z Z (CI Z) ?_;refine OW.nil ?_;refine Eo (KW.region ?_);refine OW.val Z Z (EX.move Z) ?_;refine OW.val Z Z (EX.move Z) ?_;refine OW.val Z Z (DS Z) ?_;refine OW.val Z Z (Do (off:=0) underlying192 Z Z Gz Z Z) ?_;refine OW.val Z Z (Ci underlying9 Z Z (a.cell_of Z)) ?_;refine OW.val Z Z (EX.move Z) ?_;refine OW.val Z Z (MW underlying9 Z Z X) ?_;refine OW.val Z Z (DS Z) ?_;refine OW.val Z Z (Do (off:=0) underlying192 Z Z Gz Z Z) ?_;refine Uf Z Gz Z Z (by first|rfl|assumption|exact Bo.one Ce) (a) Bi ?_;rintro g f e;refine(O 6∘Br) ?_;grind
 .refine KW.skip (Eo (KW.region ?_));refine OW.val Z Z (EX.move Z) ?_;refine OW.val Z Z (DS Z) ?_;refine OW.val Z Z (Do (off:=0) underlying192 Z Z Gz Z Z) ?_;refine OW.val Z Z (Ci underlying9 Z Z (a.cell_of Z)) ?_;refine OW.val Z Z (EX.move Z) ?_;refine OW.val Z Z (Kb underlying9 Z Z X) ?_;refine OW.val Z Z (CI Z) ?_;refine OW.nil ?_;refine Eo (KW.region ?_);refine OW.val Z Z (EX.move Z) ?_;refine OW.val Z Z (EX.move Z) ?_;refine OW.val Z Z (DS Z) ?_;refine OW.val Z Z (Do (off:=0) underlying192 Z Z Gz Z Z) ?_;refine OW.val Z Z (Ci underlying9 Z Z (a.cell_of Z)) ?_;refine OW.val Z Z (EX.move Z) ?_;refine OW.val Z Z (MW underlying9 Z Z X) ?_;refine OW.val Z Z (DS Z) ?_;refine OW.val Z Z (Do (off:=0) underlying192 Z Z Gz Z Z) ?_;refine Uf Z Gz Z Z (by first|rfl|assumption|exact Bo.one Ce) (a) Bi ?_;rintro g f e;refine(O 6∘Br) ?_;grind
def bL(n:Y)(h:n<18446744073709551616):IntKind.i64.wrap (n:H)=if n<9223372036854775808 then(n:H)else(n:H)-18446744073709551616:=by
 have e:IntKind.i64.wrap (n:H)=if(n:H)%18446744073709551616≥9223372036854775808 then(n:H)%18446744073709551616-18446744073709551616 else(n:H)%18446744073709551616:=by
  unfold IntKind.wrap;simp[IntKind.bits,IntKind.signed]
 omega
def Afu(s:Bh)(h:nb s<18446744073709551616):IntKind.i64.wrap (nb s:H)=Hx s:=by rw[bL _ h];rfl
def yv(n:Y)(h:n<18446744073709551616):(BitVec.ofInt 64 (IntKind.i64.wrap (n:H))).toNat=n:=by
 rw[bL n h,BitVec.toNat_ofInt];omega
section
variable{P:AD}{n:Y}{σ:BH}{w:Ad}{x y:AF}{t t' ty:Ay}
def pC{s p:Y}{c:H}{k k':AK}(hx:ev σ x=J (.int k c))(hy:ev σ y=J (.int k' (s:H)))(hp:2 ^ s=p)(hs:s<=k.bits):
 EX P n σ (.binOp .shl t x y t') ty w (.int k (k.wrap (c*(p:H)))) w:=
 FY hx hy (by rfl) (by
  subst hp;have hn:¬(s:H)<0:=X;simp[binOp,Op.shift,hn,Hb hs])
def pA{a b:Y}{c:H}(hx:ev σ x=J (U c))(hc:c=IntKind.i64.wrap ((a*256:Y):H))(hy:ev σ y=J (U (b:H)))(hb:b<256)(ha:a<72057594037927936)(hor:a*256|||b=a*256+b):
 EX P n σ (.binOp .or t x y t') ty w (U (IntKind.i64.wrap ((a*256+b:Y):H))) w:=
 EV hx hy (by
  have e3:(binOp .or t (U c) (U (b:H))).run P w=.ok (U (IntKind.i64.wrap ((BitVec.ofInt 64 c|||BitVec.ofInt 64 (b:H)).toNat:H))) w:=rfl;have hf:(BitVec.ofInt 64 (b:H)).toNat=b:=kV (k:=.i64) (by simp only[_root_.Go.Proofs.YtkmlafmjaeeanaaGreatDoor.maxN];omega);rw[e3,BitVec.toNat_or,hc,yv _ X,hf,hor])
attribute [local irreducible] EX
end
def yE(m b:Y)(h:b<256):m*256|||b=m*256+b:=by
 have:=Nat.two_pow_add_eq_or_of_lt (i:=8) h m;grind
def IY(f n:Y)(s:Bh)(T:Ay)(w:Ad)(L:Bk w f T [Bl s])(Q:n<=8)(E:Ajb s<=1000000000000):
 Bn prog 106 [.pointer (J ⟨f,0,Aa⟩),U (n:H)] w fun v w'=>v=U (Hx (s.take n))/\Bk w' f T [Bl (s.drop n)]/\Mo w w' [f]:=by
 have h:Ajb (s.take n)<=8:=by rw[BZ];omega
 have e:nb (s.take n)<18446744073709551616:=Ks (SJ _ _ Z) (Gb Bc h);refine Bw func106 Z ntmps106 (by rfl) Z ?_;refine(O 15∘Zc (Rg f n s T w L X E)) ?_;rintro _ C⟨rfl,r,l⟩;generalize N:s.take n=q at h e;refine OW.bytesOf Z Z underlying9 underlying23 underlying5 Z X ?_;rintro A D B m V G S g;refine(O 4)<|Lo (fun((i,z):Y×H)=>(i<=Ajb q/\z=IntKind.i64.wrap ((nb (q.take i):Y):H),[(5,U (z:H)),(13,.slice (J ⟨C.heap.size,0,Aa⟩) (Ajb q) A),(14,U ((Ajb q:Y):H)),(15,U i)],B,Ajb q-i)) (0,0) ?_ ?_
 .exact⟨X,by rfl⟩
 .rintro⟨i,z⟩⟨I,j⟩;refine(O 5)<|Zi (fun d=>?_) fun d=>?_
  .have k:nb (q.take i)<72057594037927936:=Ks (SJ i _ Bg) (Gb Bc (show i<=7 by omega));have K:=(q[i]).toNat_lt;obtain rfl:z=((nb (q.take i):Y):H):=by rw[j,bL _ X,Ai X]
   have o:(BI q++D)[i]? =J (.int .u8 ((q[i].toNat:Y):H)):=by
    rw[FN (by simpa[BI]using d)];simp[BI,d]
   refine(O 6∘Zv (Bp m (hi:=o))∘O 4∘Zv (by exact pC (s:=8) (p:=256) Z Z Z Bc)∘O 2∘Zv (by exact pA (a:=nb (q.take i)) Z Bi Z X k (yE _ _ X))∘O 7)<|Lb ((i+1),(IntKind.i64.wrap ((nb (q.take i)*256+q[i].toNat:Y):H))) ?_;exact⟨X,by rw[xR q d]⟩
  .obtain rfl:i=Ajb q:=X;rw[DV]at j;refine(O 6∘Br) ?_;refine⟨by rw[j,Afu _ e],r.ext g,l.trans (Mo.Agk g _)⟩
end
section
attribute [local irreducible] OW KW QW EX GW NV
open Rec
def QU{w:Ad}{b k:Y}{T:Ay}(h:Bk w b T [.int .u8 (k:H)])(hk:k<=255):Sl w w.heap.size (J ⟨b,0,Aa⟩) (BI [BU k]):=by
 have e:BI [BU k]=[.int .u8 (k:H)]:=by
  have:(BU k).toNat=k:=Bx;simp[BI,this]
 rw[e];exact h.sl
def zU(n:Y)(d:n<=1000)(w:Ad):Bn prog 138 [Bl [0],U (n:H)] w fun v w'=>v=Bl (BJ n 0)/\Bf w w':=by
 have a:(!(f138.name== "runtime.NumGoroutine") && f138.body.isSome)=Af:=Be;have h:=Tryz.strings_Repeat ⟨#[0]⟩ n w X (by show 1*n<=_;omega)
 have e:Go.Lib.repeatL (⟨#[0]⟩:ByteArray).data.toList n=BJ n 0:=by
  show Go.Lib.repeatL [0] n=_;clear h d
  induction n with
  |zero=>rfl
  |succ n ih=>rw[Km,<-ih];rfl
 rw[e]at h;exact Hc func138 a h
def rP(s:Bh):Fc s<4294967296:=bC _ _ _ Bi
def head(kind gen index:Y)(n:Y):Bh:=[75,73,83,84]++[BU kind]++be 8 gen++be 4 index++be 2 n
def vg(d gen a n:Y):Ajb (head d gen a n)=19:=by rfl
def UJ(d:Y)(hk:d<=255)(gen i:H)(a:Bh)(hd:Ajb a<=140737488355328)(w:Ad):
 Bn prog 107 [.int .u8 (d:H),U gen,U i,Bl a] w fun v w'=>v=.tuple #[Bl (ER d gen i a).1,U (((ER d gen i a).2:Y):H)]/\Bf w w':=by
 have B:bad d gen i a->ER d gen i a=([],200):=fun h=>by unfold ER;grind
 refine Bw func107 Z ntmps107 Be Z ?_;refine(O 11)<|Zd 13 (fun S=>?_) fun S=>?_
 .refine(O 27∘BG) ?_;rw[B (.inl S)];exact⟨Z,Bf.refl _⟩
 .refine(O 4)<|Zd 17 (fun Q=>?_) fun Q=>?_
  .refine(O 23∘BG) ?_;rw[B (.inr (.inl Q))];exact⟨Z,Bf.refl _⟩
  .refine(O 4)<|Zd 21 (fun P=>?_) fun P=>?_
   .refine(O 19∘BG) ?_;rw[B (.inr (.inr (.inl P)))];exact⟨Z,Bf.refl _⟩
   .refine(O 4)<|Zd 25 (fun N=>?_) fun N=>?_
    .refine(O 15∘BG) ?_;rw[B (.inr (.inr (.inr (.inl N))))];exact⟨Z,Bf.refl _⟩
    .refine(O 4)<|Zd 29 (fun L=>?_) fun L=>?_
     .refine(O 11∘BG) ?_;rw[B (.inr (.inr (.inr (.inr (.inl L)))))];exact⟨Z,Bf.refl _⟩
     .refine(O 5)<|Zi (fun K=>?_) fun K=>?_
      .refine(O 5∘BG) ?_;rw[B (.inr (.inr (.inr (.inr (.inr K)))))];exact⟨Z,Bf.refl _⟩
      .refine(O 2) ?_;have e:ER d gen i a=(text d gen.toNat i.toNat a,0):=by unfold ER;rw[Ag];rintro(h|h|h|h|h|h)<;>omega
       rw[e];obtain⟨g,rfl⟩:=EY (show 0<=gen by omega);obtain⟨o,rfl⟩:=EY (show 0<=i by omega);have l8:=DX 8 g;have l4:=DX 4 o;have l2:=DX 2 (Ajb a);refine Lc (fun(wr:Ad)=>(Bf w wr,[(3,Bl (a)),(10,Bl (head d g o (Ajb a)))],wr)) ?_ ?_
       .skip
        refine(Yr 18 (fun w'=>Bf w w') (Bf.drew w)) fun f=>(Gv [0,4,5,8,9,12,13,14])<|Ye 1 6 ?_ ?_
        .refine Jt 1 1 Z Z Z underlying23 CE Z Z Z Z Z Bc ?_;rintro t q r A l;refine⟨f.trans l,fun f=>?_⟩;refine Ju (fun w'=>Bf w w'/\Bk w' t 5 [.int .u8 (d:H)]) (fun _ h=>h.1) ?_;replace f:=(⟨f,A⟩:(fun w'=>Bf w w'/\Bk w' t 5 [.int .u8 (d:H)]) q);refine(Yw 2 (he:=by exact fun _ m=>Eb (QU m.2 hk))∘Yw 3 (he:=by exact fun _ _=>JZ (s:=[75,73,83,84]) Z Z (by first|omega|(simp only[BA,Cz,EZ,BZ,CM,Cq];omega)))∘Yc 6 (HU g 8 X Bc q)) ?_;rintro _ C⟨rfl,x⟩;refine⟨⟨f.1.trans x,f.2.ext x⟩,fun f=>?_⟩;refine(Gv [7]∘Yc 10 (HU o 4 X Bc C)) ?_;rintro _ p⟨rfl,k⟩;refine⟨⟨f.1.trans k,f.2.ext k⟩,fun f=>?_⟩;refine(Gv [11]∘Yc 15 (HU (Ajb a) 2 X Bc p)) ?_;rintro _ n⟨rfl,j⟩;refine⟨⟨f.1.trans j,f.2.ext j⟩,fun f=>?_⟩;refine(Gv [16,17]∘Yd∘Lm n) ?_;exact f.1
        .refine(Jc 6 (HU g 8 X Bc w.drew)) ?_;rintro _ C⟨rfl,x⟩;refine⟨f.trans x,fun f=>?_⟩;refine Ye 1 10 ?_ ?_
         .refine Jt 1 1 Z Z Z underlying23 CE Z Z Z Z Z Bc ?_;rintro t q r A l;refine⟨f.trans l,fun f=>?_⟩;refine Ju (fun w'=>Bf w w'/\Bk w' t 5 [.int .u8 (d:H)]) (fun _ h=>h.1) ?_;replace f:=(⟨f,A⟩:(fun w'=>Bf w w'/\Bk w' t 5 [.int .u8 (d:H)]) q);refine(Yw 2 (he:=by exact fun _ m=>Eb (QU m.2 hk))∘Yw 3 (he:=by exact fun _ _=>JZ (s:=[75,73,83,84]) Z Z (by first|omega|(simp only[BA,Cz,EZ,BZ,CM,Cq];omega)))∘Gv [7]∘Yc 10 (HU o 4 X Bc q)) ?_;rintro _ p⟨rfl,k⟩;refine⟨⟨f.1.trans k,f.2.ext k⟩,fun f=>?_⟩;refine(Gv [11]∘Yc 15 (HU (Ajb a) 2 X Bc p)) ?_;rintro _ n⟨rfl,j⟩;refine⟨⟨f.1.trans j,f.2.ext j⟩,fun f=>?_⟩;refine(Gv [16,17]∘Yd∘Lm n) ?_;exact f.1
         .refine(Jc 10 (HU o 4 X Bc C)) ?_;rintro _ p⟨rfl,k⟩;refine⟨f.trans k,fun f=>?_⟩;refine Ye 1 15 ?_ ?_
          .refine Jt 1 1 Z Z Z underlying23 CE Z Z Z Z Z Bc ?_;rintro t q r A l;refine⟨f.trans l,fun f=>?_⟩;refine Ju (fun w'=>Bf w w'/\Bk w' t 5 [.int .u8 (d:H)]) (fun _ h=>h.1) ?_;replace f:=(⟨f,A⟩:(fun w'=>Bf w w'/\Bk w' t 5 [.int .u8 (d:H)]) q);refine(Yw 2 (he:=by exact fun _ m=>Eb (QU m.2 hk))∘Yw 3 (he:=by exact fun _ _=>JZ (s:=[75,73,83,84]) Z Z (by first|omega|(simp only[BA,Cz,EZ,BZ,CM,Cq];omega)))∘Gv [7,11]∘Yc 15 (HU (Ajb a) 2 X Bc q)) ?_;rintro _ n⟨rfl,j⟩;refine⟨⟨f.1.trans j,f.2.ext j⟩,fun f=>?_⟩;refine(Gv [16,17]∘Yd∘Lm n) ?_;exact f.1
          .refine(Jc 15 (HU (Ajb a) 2 X Bc p)) ?_;rintro _ n⟨rfl,j⟩;refine⟨f.trans j,fun f=>?_⟩;refine PU 1 1 Z Be Z Z underlying23 CE Z Z Z Z Z Bc ?_;rintro t q r A l;refine⟨f.trans l,fun f=>?_⟩;refine Ju (fun w'=>Bf w w'/\Bk w' t 5 [.int .u8 (d:H)]) (fun _ h=>h.1) ?_;replace f:=(⟨f,A⟩:(fun w'=>Bf w w'/\Bk w' t 5 [.int .u8 (d:H)]) q);refine(Yw 2 (he:=by exact fun _ m=>Eb (QU m.2 hk))∘Yw 3 (he:=by exact fun _ _=>JZ (s:=[75,73,83,84]) Z Z (by first|omega|(simp only[BA,Cz,EZ,BZ,CM,Cq];omega)))∘Gv [7,11,16,17]∘Yd∘Lm q) ?_;exact f.1
       .rintro wr D;have hh:=vg d g o (Ajb a);refine(O 7∘Zc (zU (489-Ajb a) X wr)) ?_;rintro _ V⟨rfl,I⟩;refine(O 8) ?_;have y:head d g o (Ajb a)++(a++BJ (489-Ajb a) 0)=body d g o a:=rfl;rw[y];have ab:=eC d g o a X;have W:=rP (body d g o a);have lc:=DX 4 (Fc (body d g o a));refine(Zc (YW (body d g o a) X V)) ?_;rintro _ T⟨rfl,G⟩;refine(O 1∘Zc (HU (Fc (body d g o a)) 4 X Bc T)) ?_;rintro _ w4⟨rfl,E⟩;refine(O 4∘BG) ?_;exact⟨Z,((D.trans I).trans G).trans E⟩
def _root_.Go.Proofs.YtkmlafmjaeeanaaGreatDoor.Rec.R.cells(x:R):Bm:=[.int .u8 (x.kind:H),U x.gen,U x.index,Bl x.data]
def Vg(s:Bh)(h:Ajb s<=4):Hx s=(nb s:H):=by
 have a:nb s<256 ^ 4:=Ks (SJ _ s Z) (Gb Bi h);unfold Hx;omega
def fP{s:Bh}(h:¬(Ajb s=512/\nb ((s.drop 17).take 2)<=486/\ER (DI s).kind (DI s).gen (DI s).index (DI s).data=(s,0))):Ct s=(R0,200):=by
 unfold Ct;grind
def ta{s:Bh}(h:Ajb s=512/\nb ((s.drop 17).take 2)<=486/\ER (DI s).kind (DI s).gen (DI s).index (DI s).data=(s,0)):Ct s=(DI s,0):=by
 unfold Ct;grind
def tO{k:Y}{g i:H}{d s:Bh}(h:ER k g i d=(s,0)):s.take 4=[75,73,83,84]:=by
 unfold ER at h;split at h
 .grind
 .simp only[Prod.mk.injEq,and_true]at h;rw[<-h];rfl
def fS(s:Bh)(w:Ad):
 Bn prog 77 [Bl s] w fun v w'=>v=.tuple #[.agg (Ct s).1.cells.toArray,U (((Ct s).2:Y):H)]/\Bf w w':=by
 refine Bw func77 Z ntmps77 Be Z ?_;refine(O 2∘Zn) ?_;rintro cb w1 b0 bb aj;refine(O 9)<|Zi (fun a1=>?_) fun a1=>?_
 .have e:=fP (s:=s) (fun h=>a1 X);refine(O 3∘Zs bb) ?_;rintro w2 bq bh;refine(O 2∘DA bq) ?_;rw[e];exact⟨Z,Bu aj bh aj.size (fun k p=>by simp at p;omega)⟩
 .have hl:Ajb s=512:=X;refine(O 5∘Zv (by exact Oa (pl:=[(0,1)]) (ks:=[0]) (zs:=[Bl []]) underlying194 bv Be Z Z Z)) ?_;refine Dz Z Z Z ?_;rintro T w3 bx a7 a6;refine(O 7) ?_;have ba:=bb.ext a6;have x3:=aj.trans a6;have b3:w.heap.size<=T:=by have:=aj.size;omega
  refine(Zc (Rg T 4 s _ w3 a7 X X)) ?_;rintro _ w4⟨rfl,N,a8⟩;refine(O 3) ?_;have a:=ba.mo a8 (by simp;exact ba.ne a7 Bc);have x4:Bf w w4:=Bu x3 a8 x3.size (fun k p=>by simp at p;omega);have k4:((s.drop 4).take 1)[0]? =J (s.getD 4 0):=by simp[TM,List.getD,hl]
  have d5:(s.drop 4).drop 1=s.drop 5:=by rw[Gj]
  have a5:(s.drop 5).drop 8=s.drop 13:=by rw[Gj]
  have a0:(s.drop 13).drop 4=s.drop 17:=by rw[Gj]
  have bs:(s.drop 17).drop 2=s.drop 19:=by rw[Gj]
  have ln:∀j,Ajb (s.drop j)<=1000000000000:=fun j=>by grind
  refine Lc (fun((K,wr):Y×Ad)=>(Bf w wr/\w.heap.size<=K/\Bk wr T 194 [Bl (s.drop 17)]/\Bk wr cb 144 R0.cells/\Bk wr K 144 [.int .u8 (((s.getD 4 0).toNat:Y):H),U (Hx ((s.drop 5).take 8)),U (Hx ((s.drop 13).take 4)),Bl []]/\K≠cb,[(0,Bl (s)),(2,.pointer (J ⟨cb,0,Aa⟩)),(4,.pointer (J ⟨T,0,Aa⟩)),(5,Bl ((s.take 4))),(6,.pointer (J ⟨K,0,Aa⟩))],wr)) ?_ ?_
  .skip
   refine(Yr 12 (fun w'=>Bf w w') (x4.trans (Bf.drew w4))) fun f=>?_;have N:=N.ext (Bf.drew _);have a:=a.ext (Bf.drew _);refine(Gv [0,1,2,5,7])<|Ye 3 10 ?_ ?_
   .refine(Jc 3 (Rg T 1 (s.drop 4) _ w4.drew N X (ln 4))) ?_;rintro _ w3⟨rfl,C,af⟩;have a:=a.mo af (by simp;exact a.ne N Bc);refine⟨Bu f af f.size (fun k p=>by simp at p;omega),fun f=>?_⟩;rw[d5]at C;refine(Yw 4 (he:=by exact fun _ _=>EW (i:=0) underlying9 Z Z k4))<|Ye 6 10 ?_ ?_
    .refine(Jc 6 (IY T 8 (s.drop 5) _ w3 C X (ln 5))) ?_;rintro _ w6⟨rfl,o,A⟩;have a:=a.mo A (by simp;exact a.ne C Bc);refine⟨Bu f A f.size (fun k p=>by simp at p;omega),fun f=>?_⟩;rw[a5]at o;refine Ye 8 10 ?_ ?_
     .refine(Jc 8 (IY T 4 (s.drop 13) _ w6 o X (ln 13))) ?_;rintro _ w8⟨rfl,m,x⟩;have a:=a.mo x (by simp;exact a.ne o Bc);refine⟨Bu f x f.size (fun k p=>by simp at p;omega),fun f=>?_⟩;rw[a0]at m;refine(Gv [9]∘Yn 10) ?_;rintro K L W d g;have B:K≠cb:=fun q=>(by have:=a.lt;omega);have D:w.heap.size<=K:=(by have:=f.size;omega);refine⟨f.trans g,fun f=>?_⟩;have a:=a.ext g;have m:=m.ext g;refine(Ys 11 d) ?_;rintro S G l;refine⟨Bu f l f.size (fun k p=>by simp at p;omega),fun f=>?_⟩;have a:=a.mo l (by simp;exact Ne.symm B);have E:=m.mo l (by simp;exact m.ne d Bc);refine(Yd∘Lm (K,S)) ?_;exact⟨f,D,E,a,G,B⟩
     .refine(Jn 10) ?_;rintro K L W d g;have B:K≠cb:=fun q=>(by have:=a.lt;omega);have D:w.heap.size<=K:=(by have:=f.size;omega);refine⟨f.trans g,fun f=>?_⟩;have a:=a.ext g;have o:=o.ext g;refine(Yc 8 (IY T 4 (s.drop 13) _ L o X (ln 13))) ?_;rintro _ w8⟨rfl,m,x⟩;have a:=a.mo x (by simp;exact a.ne o Bc);have d:=d.mo x (by simp;exact d.ne o Bc);refine⟨Bu f x f.size (fun k p=>by simp at p;omega),fun f=>?_⟩;rw[a0]at m;refine(Gv [9]∘Ys 11 d) ?_;rintro S G l;refine⟨Bu f l f.size (fun k p=>by simp at p;omega),fun f=>?_⟩;have a:=a.mo l (by simp;exact Ne.symm B);have E:=m.mo l (by simp;exact m.ne d Bc);refine(Yd∘Lm (K,S)) ?_;exact⟨f,D,E,a,G,B⟩
    .refine(Jn 10) ?_;rintro K L W d g;have B:K≠cb:=fun q=>(by have:=a.lt;omega);have D:w.heap.size<=K:=(by have:=f.size;omega);refine⟨f.trans g,fun f=>?_⟩;have a:=a.ext g;have C:=C.ext g;refine(Yc 6 (IY T 8 (s.drop 5) _ L C X (ln 5))) ?_;rintro _ w6⟨rfl,o,A⟩;have a:=a.mo A (by simp;exact a.ne C Bc);have d:=d.mo A (by simp;exact d.ne C Bc);refine⟨Bu f A f.size (fun k p=>by simp at p;omega),fun f=>?_⟩;rw[a5]at o;refine(Yc 8 (IY T 4 (s.drop 13) _ w6 o X (ln 13))) ?_;rintro _ w8⟨rfl,m,x⟩;have a:=a.mo x (by simp;exact a.ne o Bc);have d:=d.mo x (by simp;exact d.ne o Bc);refine⟨Bu f x f.size (fun k p=>by simp at p;omega),fun f=>?_⟩;rw[a0]at m;refine(Gv [9]∘Ys 11 d) ?_;rintro S G l;refine⟨Bu f l f.size (fun k p=>by simp at p;omega),fun f=>?_⟩;have a:=a.mo l (by simp;exact Ne.symm B);have E:=m.mo l (by simp;exact m.ne d Bc);refine(Yd∘Lm (K,S)) ?_;exact⟨f,D,E,a,G,B⟩
   .refine(Jn 10) ?_;rintro K L W d g;have B:K≠cb:=fun q=>(by have:=a.lt;omega);have D:w.heap.size<=K:=(by have:=f.size;omega);refine⟨f.trans g,fun f=>?_⟩;have a:=a.ext g;have N:=N.ext g;refine(Yc 3 (Rg T 1 (s.drop 4) _ L N X (ln 4))) ?_;rintro _ w3⟨rfl,C,af⟩;have a:=a.mo af (by simp;exact a.ne N Bc);have d:=d.mo af (by simp;exact d.ne N Bc);refine⟨Bu f af f.size (fun k p=>by simp at p;omega),fun f=>?_⟩;rw[d5]at C;refine(Yw 4 (he:=by exact fun _ _=>EW (i:=0) underlying9 Z Z k4)∘Yc 6 (IY T 8 (s.drop 5) _ w3 C X (ln 5))) ?_;rintro _ w6⟨rfl,o,A⟩;have a:=a.mo A (by simp;exact a.ne C Bc);have d:=d.mo A (by simp;exact d.ne C Bc);refine⟨Bu f A f.size (fun k p=>by simp at p;omega),fun f=>?_⟩;rw[a5]at o;refine(Yc 8 (IY T 4 (s.drop 13) _ w6 o X (ln 13))) ?_;rintro _ w8⟨rfl,m,x⟩;have a:=a.mo x (by simp;exact a.ne o Bc);have d:=d.mo x (by simp;exact d.ne o Bc);refine⟨Bu f x f.size (fun k p=>by simp at p;omega),fun f=>?_⟩;rw[a0]at m;refine(Gv [9]∘Ys 11 d) ?_;rintro S G l;refine⟨Bu f l f.size (fun k p=>by simp at p;omega),fun f=>?_⟩;have a:=a.mo l (by simp;exact Ne.symm B);have E:=m.mo l (by simp;exact m.ne d Bc);refine(Yd∘Lm (K,S)) ?_;exact⟨f,D,E,a,G,B⟩
  .rintro⟨K,wr⟩⟨x5,D,a3,a9,bc,B⟩;have bf:Hx ((s.drop 17).take 2)=((nb ((s.drop 17).take 2):Y):H):=Vg _ (by rw[BZ];omega);have bi:=ln 19;refine(O 3∘Zc (IY T 2 (s.drop 17) _ wr a3 X (ln 17))) ?_;rintro _ w6⟨rfl,al,A⟩;refine(O 4) ?_;rw[bs]at al;rw[bf];have ao:=a9.mo A (by simp;exact a9.ne a3 Bc);have o:=bc.mo A (by simp;exact bc.ne a3 Bc);have x6:Bf w w6:=Bu x5 A x5.size (fun k p=>by simp at p;omega);generalize hn:nb ((s.drop 17).take 2)=n
   have y:¬(Ajb s=512/\n<=486/\ER (DI s).kind (DI s).gen (DI s).index (DI s).data=(s,0))->∀w7,Bk w7 cb 144 R0.cells->Bf w w7->(Value.tuple #[.agg R0.cells.toArray,U ((200:Y):H)]=Value.tuple #[.agg (Ct s).1.cells.toArray,U (((Ct s).2:Y):H)]/\Bf w w7):=fun h w7 _ hx=>by
    rw[fP Bg];grind
   have P:∀w7 w8,Bf w w7->Mo w7 w8 [cb]->Bf w w8:=fun w7 w8 h1 h2=>Bu h1 h2 h1.size (fun k p=>by simp at p;omega);refine(O 2∘Zv (by exact MV (r:=[75,73,83,84]) Z Z)∘O 1)<|Zd 36 (fun b1=>?_) fun b1=>?_
   .refine(O 8∘Zs ao) ?_;rintro w7 ab V;refine(O 2∘DA ab) ?_;exact y (fun h=>b1 (tO h.2.2)) _ ab (P _ _ x6 V)
   .refine(O 4)<|Zi (fun b2=>?_) fun b2=>?_
    .refine(O 3∘Zs ao) ?_;rintro w7 ab V;refine(O 2∘DA ab) ?_;exact y (fun h=>by omega) _ ab (P _ _ x6 V)
    .refine(O 7∘Zc (Rg T n (s.drop 19) _ w6 al X (ln 19))) ?_;rintro _ w7⟨rfl,b4,V⟩;refine(O 1) ?_;have bm:=ao.mo V (by simp;exact ao.ne al Bc);have ab:=o.mo V (by simp;exact o.ne al Bc);have x7:Bf w w7:=Bu x6 V x6.size (fun k p=>by simp at p;omega);refine(Zt ab) ?_;rintro w8 m x;refine(O 5) ?_;have bl:=bm.mo x (by simp;exact Ne.symm B);have x8:Bf w w8:=Bu x7 x x7.size (fun k p=>by simp at p;omega);have ai:DI s=⟨(s.getD 4 0).toNat,Hx ((s.drop 5).take 8),Hx ((s.drop 13).take 4),(s.drop 19).take n⟩:=by unfold DI;rw[hn]
     replace m:Bk w8 K 144 (DI s).cells:=by rw[ai];exact m
     refine(O 7) ?_;have p:(DI s).kind<=255:=by rw[ai];have:=(s.getD 4 0).toNat_lt;show(s.getD 4 0).toNat<=255;omega
     have bj:(DI s).data.length<=140737488355328:=by rw[ai];show Ajb ((s.drop 19).take n)<=_;rw[BZ];omega
     refine(Zc (UJ (DI s).kind p (DI s).gen (DI s).index (DI s).data bj w8)) ?_;rintro _ w9⟨rfl,a2⟩;refine(O 7) ?_;have a4:=bl.ext a2;have bn:=m.ext a2;have x9:=x8.trans a2;rcases he:ER (DI s).kind (DI s).gen (DI s).index (DI s).data with⟨t,e⟩;rw[he]at y;refine(O 4)<|Zd 61 (fun g1=>?_) fun g1=>?_
     .refine(O 9∘Zs a4) ?_;rintro L I Q;refine(O 2∘DA I) ?_;exact y (fun h=>by grind) _ I (P _ _ x9 Q)
     .refine(O 5)<|Zi (fun g2=>?_) fun g2=>?_
      .refine(O 3∘Zs a4) ?_;rintro L I Q;refine(O 2∘DA I) ?_;exact y (fun h=>by grind) _ I (P _ _ x9 Q)
      .refine(O 3∘Zv (BW bn)∘Zs a4 (hlt:=Bv _)) ?_;rintro L I Q;refine(O 2∘DA I) ?_;rw[ta ⟨hl,X,Bg⟩];exact⟨Z,P _ _ x9 Q⟩
end

namespace Rec
open Go.Proofs.YtkmlafmjaeeanaaGreatDoor Pth
section
variable(k g i:Y)(d:Bh)
def tl(k g i:Y)(d:Bh):Bh:=BJ (489-Ajb d) 0++be 4 (Fc (body k g i d))
def Aem:text k g i d=[75,73,83,84]++([BU k]++(be 8 g++(be 4 i++(be 2 (Ajb d)++(d++tl k g i d))))):=by
 unfold text tl;rw[show body k g i d=[75,73,83,84]++[BU k]++be 8 g++be 4 i++be 2 _++(d++BJ _ 0)from Z];simp
def nT:(text k g i d).drop 5=be 8 g++(be 4 i++(be 2 (Ajb d)++(d++tl k g i d))):=by rw[Aem];rfl
def Nv{a b:Bh}{s:Bh}{n m j:Y}(h:s.drop n=a++b)(f:Ajb a=m)(e:n+m=j):s.drop j=b:=by
 rw[<-e,<-Gj,h,RN f]
def nQ:(text k g i d).drop 13=be 4 i++(be 2 (Ajb d)++(d++tl k g i d)):=Nv (nT k g i d) (DX 8 g) Z
def nR:(text k g i d).drop 17=be 2 (Ajb d)++(d++tl k g i d):=Nv (nQ k g i d) (DX 4 i) Z
def Ael:(text k g i d).drop 19=d++tl k g i d:=Nv (nR k g i d) (DX 2 _) Z
def Aen:(text k g i d).getD 4 0=BU k:=by rfl
end
def kP{w n:Y}(h:n<256 ^ w)(a:n<9223372036854775808):Hx (be w n)=n:=by
 unfold Hx;rw[Ph w n h,Ai a]
def kK{k:Y}{g i:H}{d:Bh}(h:¬bad k g i d):k≠0/\0<=g/\g<=4611686018427387904/\0<=i/\i<=2147483647/\Ajb d<=486:=by
 unfold bad at h;omega
def sP{k:Y}{g i:H}{d:Bh}(hk:k<=255)(h:¬bad k g i d):DI (text k g.toNat i.toNat d)=⟨k,g,i,d⟩/\nb (((text k g.toNat i.toNat d).drop 17).take 2)=Ajb d:=by
 obtain⟨_,p,o,n,m,l⟩:=kK h;have j:((text k g.toNat i.toNat d).getD 4 0).toNat=k:=by rw[Aen];simp;omega
 have f:Hx (((text k g.toNat i.toNat d).drop 5).take 8)=g:=by
  rw[nT,Hr (DX _ _),kP X X];omega
 have e:Hx (((text k g.toNat i.toNat d).drop 13).take 4)=i:=by
  rw[nQ,Hr (DX _ _),kP X X];omega
 have a:nb (((text k g.toNat i.toNat d).drop 17).take 2)=Ajb d:=by
  rw[nR,Hr (DX _ _),Ph _ _ X]
 refine⟨?_,a⟩;unfold DI;rw[j,f,e,a,Ael,Hr Z]
def Ns{k:Y}{g i:H}{d t:Bh}(hk:k<=255)(h:ER k g i d=(t,0)):Ct t=(⟨k,g,i,d⟩,0):=by
 unfold ER at h;split at h
 .grind
 .rename_i a;simp at h;subst h;obtain⟨j,f⟩:=sP hk a;have e:=(kK a).2.2.2.2.2;unfold Ct;rw[j,f,Ai];refine⟨VQ _ _ _ _ e,e,?_⟩;unfold ER;grind
structure M where
 path:Bh
 start:H
 sectors:H
 size:H
 sum:Y
 deriving DecidableEq
def Ds(m:M):Prop:=Cw m.path=0/\30<=m.start/\1<=m.sectors/\m.sectors<=4096/\m.start+m.sectors<=4096/\0<=m.size/\m.size<=8192
instance(m:M):Decidable (Ds m):=by unfold Ds;infer_instance
def Mf(m:M):Y:=if Ds m then 0 else 200
def Et(m:M):Bh:=be 1 (Ajb m.path)++m.path++be 2 m.start.toNat++be 2 m.sectors.toNat++be 2 m.size.toNat++be 4 m.sum
def NB(m:M):Bh×Y:=if Ds m then(Et m,0)else([],200)
def JO{m:M}(h:Ds m):Ajb m.path<=120/\m.path≠[]:=by
 have a:=h.1;unfold Cw at a;split at a
 .rename_i e;unfold GK at e;grind
 .omega
def qZ(n:Y)(h:n<=255):be 1 n=[BU n]:=by
 simp only[be,EP];grind
end Rec
section
attribute [local irreducible] OW KW QW EX GW NV
open Rec Pth
def _root_.Go.Proofs.YtkmlafmjaeeanaaGreatDoor.Rec.M.cells(m:M):Bm:=[Bl m.path,U m.start,U m.sectors,U m.size,.int .u32 (m.sum:H)]
structure _root_.Go.Proofs.YtkmlafmjaeeanaaGreatDoor.Rec.M.Ok(m:M):Prop where
 path:Ajb m.path<=1000000000000
 sum:m.sum<=4294967295
def Mg{m:M}(h:¬Ds m):Mf m=200:=by unfold Mf;grind
def Xw{m:M}(h:Ds m):Mf m=0:=by unfold Mf;grind
def Uv(s:Bh):Cw s=0∨Cw s=140:=by unfold Cw;grind
def Xv(m:M)(hm:m.Ok)(w:Ad):Bn prog 81 [.agg m.cells.toArray] w fun v w'=>v=U ((Mf m:Y):H)/\Bf w w':=by
 refine Bw Bi Z ntmps81 (by rfl) Z ?_;refine(O 2) ?_;refine Dz Z Z Z ?_;rintro E D o n d;refine(O 4) ?_;refine(O 3∘Zc (OF _ hm.path _)) ?_;rintro _ C⟨rfl,a⟩;refine(O 2) ?_;have p:=n.ext a;refine Zd 7 (fun B=>?_) fun B=>?_
 .refine(O 38∘Br) ?_;rw[Mg (fun h=>by obtain⟨l,k,j,i,g,f,e⟩:=h;omega)];exact⟨Z,d.trans a⟩
 .refine(O 5)<|Zd 12 (fun A=>?_) fun A=>?_
  .refine(O 33∘Br) ?_;rw[Mg (fun h=>by obtain⟨l,k,j,i,g,f,e⟩:=h;omega)];exact⟨Z,d.trans a⟩
  .refine(O 5)<|Zd 17 (fun y=>?_) fun y=>?_
   .refine(O 28∘Br) ?_;rw[Mg (fun h=>by obtain⟨l,k,j,i,g,f,e⟩:=h;omega)];exact⟨Z,d.trans a⟩
   .refine(O 5)<|Zd 22 (fun x=>?_) fun x=>?_
    .refine(O 23∘Br) ?_;rw[Mg (fun h=>by obtain⟨l,k,j,i,g,f,e⟩:=h;omega)];exact⟨Z,d.trans a⟩
    .refine(O 8)<|Zd 30 (fun t=>?_) fun t=>?_
     .refine(O 15∘Br) ?_;rw[Mg (fun h=>by obtain⟨l,k,j,i,g,f,e⟩:=h;omega)];exact⟨Z,d.trans a⟩
     .refine(O 5)<|Zd 35 (fun r=>?_) fun r=>?_
      .refine(O 10∘Br) ?_;rw[Mg (fun h=>by obtain⟨l,k,j,i,g,f,e⟩:=h;omega)];exact⟨Z,d.trans a⟩
      .refine(O 5)<|Zi (fun q=>?_) fun q=>?_
       .refine(O 4∘Br) ?_;rw[Mg (fun h=>by obtain⟨l,k,j,i,g,f,e⟩:=h;omega)];exact⟨Z,d.trans a⟩
       .refine(O 5∘Br) ?_;rw[Xw ⟨X,X,X,X,X,X,X⟩];exact⟨Z,d.trans a⟩
end
section
attribute [local irreducible] OW KW QW EX GW NV
open Fld Ust Pax Pth Tar
def zS(n:Y):Go.Lib.repeatL [0] n=Cu n:=by
 unfold Cu
 induction n with
 |zero=>rfl
 |succ n ih=>simp_all[Go.Lib.repeatL,Km]
def zT(n:Y)(d:n<=140737488355328)(w:Ad):Bn prog 138 [Bl [0],U (n:H)] w fun v w'=>v=Bl (Cu n)/\Bf w w':=by
 have h:=Tryz.strings_Repeat ⟨#[0]⟩ n w X (by show 1*n<=_;omega);refine(Hc func138 (by rfl) (h.mono fun e w' q=>⟨q.1,q.2⟩)).mono ?_;rintro v w'⟨rfl,a⟩;exact⟨by rw[show(⟨#[0]⟩:ByteArray).data.toList=[0]from Z,zS],a⟩
def mR(s:Bh)(f:Ajb s<=1000000000)(w:Ad):Bn prog 101 [Bl s] w fun v w'=>v=Bl (Ir s)/\Bf w w':=by
 refine Bw func101 Z ntmps101 (by rfl) Z ?_;refine(O 17) ?_;have d:Ajb (Cu ((512-Ajb s%512)%512))=(512-Ajb s%512)%512:=Cq;refine(Zc (zT ((512-Ajb s%512)%512) X w)) ?_;rintro _ e⟨rfl,a⟩;refine(O 3∘Br) ?_;refine⟨?_,a⟩;unfold Ir;rw[show Gn (Ajb s)-Ajb s=(512-Ajb s%512)%512 by unfold Gn;omega]
def nc(x:En)(m:Ajb x.path<=1000000000000)(y:Ajb x.data<=140737488355328)(w:Ad)(A:Env w):
 Bn prog 72 [Bl x.path,Bl x.data] w fun v w'=>v=.tuple #[Bl (NA x).1,U (((NA x).2:Y):H)]/\Bf w w':=by
 obtain⟨p,d⟩:=x;simp only at m y;show Bn _ _ [Bl p,Bl d] _ _;refine Bw func72 Z ntmps72 Be Z ?_;refine(O 12)<|Zi (fun S=>?_) fun S=>?_
 .refine(O 5∘Zc (gv ⟨p,[]⟩ m Bi w A)) ?_;rintro _ i⟨rfl,a⟩;refine(O 11) ?_
  have q:(JL ⟨p,[]⟩).2=Cw p:=by
   have:=Uv p;unfold JL;split
   .grind
   .grind
  have o:NA ⟨p,d⟩=if Cw p≠0 then([],140)else([],3):=by
   unfold NA;split
   .rfl
   .rfl
  rw[q,o];have B:=Uv p;refine Zi (fun t=>?_) fun t=>?_
  .rw[Ai (show Cw p≠0 by omega)];refine(O 6∘BG) ?_;grind
  .rw[Ag (show ¬Cw p≠0 by omega)];refine(O 6∘BG) ?_;exact⟨Z,a⟩
 .have q:JL ⟨p,d⟩=if Cw p≠0 then([],140)else(JM ⟨p,d⟩,0):=by
   unfold JL;split
   .rfl
   .grind
  have o:NA ⟨p,d⟩=if Cw p≠0 then([],140)else(Cl ⟨p,d⟩,0):=by
   unfold NA;split
   .rfl
   .rfl
  have e:=gv ⟨p,d⟩ m y w A;rw[q]at e;rw[o];refine(O 6) ?_;by_cases g:Cw p≠0
  .rw[Ai g]at e;rw[Ai g];refine(Zc e) ?_;rintro _ i⟨rfl,a⟩;refine(O 12∘HO 31∘O 7∘BG) ?_;exact⟨Z,a⟩
  .rw[Ag g]at e;rw[Ag g];simp only at e;have P:Fits ⟨p,d⟩:=⟨Bg,Bg⟩;have G:=YQ P;have f:=tR ⟨p,d⟩;have E:=ZV (s:=d) X;have Q:Cl ⟨p,d⟩=Lx ⟨p,d⟩++Ir (Bz.packS d (Da d)):=rfl;have N:=UM d;have K:=UM (Bz.packS d (Da d));have n:Ajb (JM ⟨p,d⟩)=Ajb (Lx ⟨p,d⟩)+Ajb (Ir d):=by rw[f,BA]
   have V:Ajb (Lx ⟨p,d⟩)<=1536:=by split at G<;>omega
   have L:=SA (Ajb d);have I:=SA (Ajb (Bz.packS d (Da d)))
   have D:(JM ⟨p,d⟩).take (Ajb (JM ⟨p,d⟩)-Ajb (Ir d))=Lx ⟨p,d⟩:=by
    rw[n,RW,f];exact Hr Z
   refine(Zc e) ?_;rintro _ i⟨rfl,a⟩;refine(O 12∘Cb 31∘O 5∘Zc (yO d X i)) ?_;rintro _ r⟨rfl,l⟩;refine(O 12∘Cb 39∘O 3∘Yr 13 (fun w'=>Bf w w') ((a.trans l).trans (Bf.drew r))) fun h=>(Gv [0,1,2,3,8]∘Yc 4 (mR d X r.drew)) ?_;rintro _ C⟨rfl,k⟩;refine⟨h.trans k,fun h=>?_⟩;refine(Gv [5,6]∘Yw 7 (he:=by exact fun _ _=>Kb underlying9 Z Z X)∘Yc 9 (mR (Bz.packS d (Da d)) X C)) ?_;rintro _ T⟨rfl,j⟩;refine⟨h.trans j,fun h=>?_⟩;refine(Gv [10,11,12]∘Yd∘BG) ?_;grind
def nh(s:Bh)(k:Y)(hk:k<=255)(hs:Ajb s<=140737488355328)(w:Ad):Bn prog 90 [Bl s,.int .u8 (k:H)] w fun v w'=>v=.tuple #[.agg (Ly s k).1.cells.toArray,.bool (Ly s k).2]/\Bf w w':=by
 refine Bw func90 Z ntmps90 Be Z ?_;refine(O 2∘Zn) ?_;rintro W N D m a;refine(O 9)<|Zi (fun A=>?_) fun A=>?_
 .have e:Ly s k=(IU,Aj):=Ai A;rw[e];refine(O 3∘Zs m (hlt:=Bv _)) ?_;rintro L t x;refine(O 2∘DA t) ?_;exact⟨Z,Bu a x a.size Bx⟩
 .have e:Ly s k=((Hi (s.take 512)).1,decide ((Hi (s.take 512)).2=0) && decide ((Hi (s.take 512)).1.kind=k)):=Ag A;rw[e];refine(O 4∘Zv (by exact Kb (j:=512) underlying9 Z Z X)∘Zc (Afb (s.take 512) Bg N)) ?_;rintro _ L⟨rfl,i⟩;refine(O 3) ?_;generalize(Hi (s.take 512)).1=h;generalize(Hi (s.take 512)).2=e;refine(Zn) ?_;rintro G V C y g;refine(Zs y (hlt:=Bv _)) ?_;rintro q o n;refine(O 3) ?_;replace o:Bk q G 167 h.cells:=o;have T:=a.size;have S:=i.size;have Q:=g.size;have P:=n.size;have lt:=m.lt;have I:Bf w q:=Bu ((a.trans i).trans g) n ((a.trans i).trans g).size Bx;have f:Bf w q.drew:=I.trans (Bf.drew q);have p:=(((m.ext i).ext g).mo n Bx).drew;refine(Yr 11 (fun w'=>Bk w' G 167 h.cells) o.drew) fun r=>(Yw 0 (he:=by exact fun _ B=>BW B)∘Gv [1,2,3]) ?_;refine Kd 21 Z (fun E=>?_) (fun E=>?_)
  .refine(Gv [4,5,6,7,8]∘Ys 9 p (hlt:=Bv _)) ?_;rintro K l d;refine⟨r.mo d Bx,fun r=>?_⟩;refine(Gv [10]∘Yd∘DA l) ?_;refine⟨?_,Bu f d f.size Bx⟩;rw[AL (show e=0 by omega),Ig];rfl
  .refine(Gv [4,5,6,7,8]∘Ys 9 p (hlt:=Bv _)) ?_;rintro K l d;refine⟨r.mo d Bx,fun r=>?_⟩;refine(Gv [10]∘Yd∘DA l) ?_;refine⟨?_,Bu f d f.size Bx⟩;rw[AN (show ¬e=0 by omega),Bool.false_and];rfl
end
namespace Pth
open Go.Lib
def aQ:∀(k:Y) (s:Bh),count s [47]=k->splitK [47] 0 k s=BO s
 |0,s,hk=>by
  have hn:∀c∈s,c≠47:=by
   intro c p e;subst e;have o:=index_one s 47;rcases Int.lt_or_le (index s [47]) 0 with h|h
   .have:=index_ge s [47];have n:indexByte s 47=-1:=X;obtain⟨j,f⟩:=List.getElem?_of_mem p;exact indexByte_none n j f
   .obtain⟨i,g⟩:=EY h;have:=count_hit Bi g;omega
  rw[splitK,ZZ s hn]
 |k+1,s,hk=>by
  have t:¬index s _=-1:=fun h=>by rw[count_miss h]at hk;omega
  have v:=index_ge s [47];obtain⟨i,o⟩:=EY (show 0<=index s [47] by omega);have p:=count_hit Bi o;have w:indexByte s 47=i:=by rwa[<-index_one]
  obtain⟨n,x⟩:=indexByte_some w;have a:i<Ajb s:=Bg
  have r:s=s.take i++47::s.drop (i+1):=by
   have e:=HJ i s;rw[DE a]at e
   have y:s[i]=47:=by
    have:=BR a;rw[this]at n;grind
   rw[y]at e;exact e.symm
  have hn:∀c∈s.take i,c≠47:=by
   intro c l e;subst e;obtain⟨j,f⟩:=List.getElem?_of_mem l
   have d:j<i:=by
    have:=(Ki.1 f).1;rw[BZ]at this;omega
   rw[List.getElem?_take_of_lt d]at f;exact x j d f
  have m:¬(index s [47]==-1)=Af:=Bg;rw[splitK,Ag m,show(index s _).toNat=i by omega,Jv];have q:=aQ k (s.drop (i+1)) Bg;rw[show i+Ajb [(47:AH)]=i+1 from Z,q]
  conv=>rhs;rw[r]
  rw[ZY _ _ hn]
def DH:Cn->Cn->H
 |[],[]=>0
 |[],_::_=>-1
 |_::_,[]=>1
 |x::xs,y::ys=>if x=y then DH xs ys else compareBytes x y
def Gc(a b:Bh):H:=DH (BO a) (BO b)
def Xs:∀x y:Bh,compareBytes x y=0↔x=y
 |[],[]=>by simp[compareBytes]
 |[],_::_=>by simp[compareBytes]
 |_::_,[]=>by simp[compareBytes]
 |a::x,b::y=>by
  have ih:=Xs x y;unfold compareBytes;grind
def eJ:∀x y:Bh,compareBytes x y=-1∨compareBytes x y=0∨compareBytes x y=1
 |[],[]=>by simp[compareBytes]
 |[],_::_=>by simp[compareBytes]
 |_::_,[]=>by simp[compareBytes]
 |a::x,b::y=>by
  unfold compareBytes;split
  .simp
  .split
   .simp
   .exact eJ x y
def Xu:∀x y:Bh,compareBytes y x=-compareBytes x y
 |[],[]=>by simp[compareBytes]
 |[],_::_=>by simp[compareBytes]
 |_::_,[]=>by simp[compareBytes]
 |a::x,b::y=>by
  have ih:=Xu x y;unfold compareBytes;grind
def eI:∀x y z:Bh,compareBytes x y<=0->compareBytes y z<=0->compareBytes x z<=0
 |[],y,[],_,_=>by simp[compareBytes]
 |[],y,_::_,_,_=>by simp[compareBytes]
 |a::x,[],z,h,_=>by simp[compareBytes]at h
 |a::x,b::y,[],_,h=>by simp[compareBytes]at h
 |a::x,b::y,c::z,h1,h2=>by
  have ih:=eI x y z;unfold compareBytes at h1 h2 ⊢;grind
def fh:∀x y:Cn,DH x y=-1∨DH x y=0∨DH x y=1
 |[],[]=>by simp[DH]
 |[],_::_=>by simp[DH]
 |_::_,[]=>by simp[DH]
 |a::x,b::y=>by
  unfold DH;split
  .exact fh x y
  .exact eJ a b
def fe:∀x y:Cn,DH x y=0↔x=y
 |[],[]=>by simp[DH]
 |[],_::_=>by simp[DH]
 |_::_,[]=>by simp[DH]
 |a::x,b::y=>by
  unfold DH;split
  .rename_i h;rw[fe];simp[h]
  .rename_i h;rw[Xs];simp[h]
def ff:∀x y:Cn,DH y x=-DH x y
 |[],[]=>by simp[DH]
 |[],_::_=>by simp[DH]
 |_::_,[]=>by simp[DH]
 |a::x,b::y=>by
  unfold DH;by_cases h:a=b
  .rw[Ai h.symm,Ai h];exact ff x y
  .rw[Ag Bg,Ag h];exact Xu a b
def fg:∀x y z:Cn,DH x y<=0->DH y z<=0->DH x z<=0
 |[],y,[],_,_=>by simp[DH]
 |[],y,_::_,_,_=>by simp[DH]
 |a::x,[],z,h,_=>by simp[DH]at h
 |a::x,b::y,[],_,h=>by simp[DH]at h
 |a::x,b::y,c::z,h1,h2=>by
  have ih:=fg x y z;unfold DH at h1 h2 ⊢;by_cases e1:a=b
  .grind
  .rw[Ag e1]at h1;by_cases e2:b=c
   .grind
   .rw[Ag e2]at h2;have h3:=eI a b c h1 h2;by_cases e3:a=c
    .subst e3;have h4:=Xu a b;have h5:compareBytes a b=0:=X;exact AI ((Xs a b).1 h5) e1
    .grind
def SE:Cn->Bh
 |[]=>[]
 |[x]=>x
 |x::y::l=>x++47::SE (y::l)
def YG:∀s,SE (BO s)=s
 |[]=>rfl
 |c::s=>by
  have ih:=YG s;rw[ZW];split
  .rename_i h;subst h;rcases hp:BO s with _|⟨p,r⟩
   .exact AI hp (Vm s)
   .rw[hp]at ih;simp[SE,ih]
  .rcases hp:BO s with _|⟨p,r⟩
   .exact AI hp (Vm s)
   .rw[hp]at ih;cases r with
    |nil=>simp[SE]at ih ⊢;exact ih
    |cons q r=>simp[SE]at ih ⊢;exact ih
def sd(a b:Bh):Gc a b=0↔a=b:=by
 unfold Gc;rw[fe];constructor
 .intro h;rw[<-YG a,<-YG b,h]
 .grind
end Pth
namespace Srt
open Pth
abbrev By:=Bh
section
variable{α:Type}(key:α->By)
def Cg(a b:α):H:=Gc (key a) (key b)
def OH(a b:α):Cg key a b=-1∨Cg key a b=0∨Cg key a b=1:=fh _ _
def Mi(a b:α):Cg key b a=-Cg key a b:=ff _ _
def JF(a b:α):Cg key a b=0↔key a=key b:=sd _ _
def XD{a b c:α}(h1:Cg key a b<=0)(h2:Cg key b c<=0):Cg key a c<=0:=fg _ _ _ h1 h2
def Sn{a b c:α}(h1:Cg key a b=-1)(d:Cg key b c<=0):Cg key a c=-1:=by
 have i:=XD key (show Cg key a b<=0 by omega) d;rcases OH key a c with h|h|h
 .omega
 .exfalso;have e:=(JF _ a c).1 h
  have g:Cg key b a<=0:=by
   have:Cg key b a=Cg key b c:=by unfold Cg;rw[e]
   omega
  have f:=Mi key a b;omega
 .omega
def eX{a b c:α}(h1:Cg key a b<=0)(i:Cg key b c=-1):Cg key a c=-1:=by
 have g:=XD key h1 (show Cg key b c<=0 by omega);rcases OH key a c with h|h|h
 .omega
 .exfalso;have e:=(JF _ a c).1 h
  have f:Cg key c b<=0:=by
   have:Cg key c b=Cg key a b:=by unfold Cg;rw[e]
   omega
  have d:=Mi key b c;omega
 .omega
def Dg(l:Ae α):Prop:=l.Pairwise (fun a b=>Cg key a b=-1)
def ax:∀{a b:Ae α},Dg key a->Dg key b->(∀x,x∈a↔x∈b)->a=b
 |[],[],_,_,_=>rfl
 |[],y::b,_,_,h=>absurd ((h y).2 Bi) Bi
 |x::a,[],_,_,h=>absurd ((h x).1 Bi) Bi
 |x::a,y::b,ha,hb,h=>by
  have ha':=Ij.1 ha;have hb':=Ij.1 hb
  have irr:∀z,Cg key z z≠-1:=fun z q=>by
   have:=(JF key z z).2 Z;omega
  have d:x=y:=by
   rcases List.mem_cons.1 ((h x).1 Bi)with q|q
   .exact q
   .have g:=hb'.1 x q;rcases List.mem_cons.1 ((h y).2 Bi)with q2|q2
    .grind
    .have f:=ha'.1 y q2;have:=Mi key x y;omega
  subst d;have e:∀z,z∈a↔z∈b:=Bg;rw[ax ha'.2 hb'.2 e]
structure IsMap(m:By->Aw α)(out:Ae α):Prop where
 rises:Dg key out
 mem:∀x,x∈out↔m (key x)=J x
def IsMap.one{key:α->By}{m:By->Aw α}{a b:Ae α}(h1:IsMap key m a)(h2:IsMap key m b):a=b:=ax key h1.rises h2.rises fun x=>(h1.mem x).trans (h2.mem x).symm
def Vd:By->Aw α:=fun _=>Aa
def FM(m:By->Aw α)(p:By)(v:Aw α):By->Aw α:=fun q=>if q=p then v else m q
def Cd(x:α):Ae α->Ae α
 |[]=>[x]
 |y::ys=>if Cg key x y=-1 then x::y::ys else if Cg key x y=0 then x::ys else y::Cd x ys
def Ms(x:α):∀{ys:Ae α},Dg key ys->∀z,z∈Cd key x ys↔z=x∨(z∈ys/\key z≠key x)
 |[],_,z=>by simp[Cd]
 |y::ys,h,z=>by
  have h':=Ij.1 h;have ih:=Ms x h'.2 z;unfold Cd;by_cases c1:Cg key x y=-1
  .have hne:∀u∈y::ys,key u≠key x:=fun u a e=>by
    have g:Cg key x u=-1:=by
     rcases List.mem_cons.1 a with rfl|a
     .omega
     .exact Sn _ c1 Bg
    have f:=(JF _ x u).2 e.symm;omega
   grind
  .rw[Ag c1];by_cases d:Cg key x y=0
   .have j:=(JF _ x y).1 d
    have hne:∀u∈ys,key u≠key x:=fun u a e=>by
     have g:=h'.1 u a;have f:=(JF key y u).2 Bg;omega
    grind
   .rw[Ag d];simp only[List.mem_cons,ih];constructor
    .rintro(q|q|⟨q,i⟩)
     .subst q;exact .inr ⟨Bi,fun e=>d ((JF _ x z).2 e.symm)⟩
     .exact .inl q
     .grind
    .grind
def MF(x:α):∀{ys:Ae α},Dg key ys->Dg key (Cd key x ys)
 |[],_=>by simp[Cd,Dg]
 |y::ys,h=>by
  have h':=Ij.1 h;have ih:=MF x h'.2;unfold Cd;by_cases c1:Cg key x y=-1
  .rw[Ai c1];refine Ij.2 ⟨fun u hu=>?_,h⟩;rcases List.mem_cons.1 hu with rfl|hu
   .omega
   .exact Sn _ c1 Bg
  .rw[Ag c1];by_cases c2:Cg key x y=0
   .rw[Ai c2];refine Ij.2 ⟨fun u hu=>?_,h'.2⟩;exact eX _ X (h'.1 u hu)
   .rw[Ag c2];refine Ij.2 ⟨fun u hu=>?_,ih⟩;rcases(Ms key x h'.2 u).1 hu with q|⟨q,_⟩
    .subst q;have h1:=Mi key u y;have h2:=OH key u y;omega
    .grind
def IsMap.put{m:By->Aw α}{a:Ae α}(h:IsMap key m a)(x:α):IsMap key (FM m (key x) (J x)) (Cd key x a):=by
 refine⟨MF _ x h.rises,fun z=>?_⟩;rw[Ms _ x h.rises z];unfold FM;by_cases e:key z=key x
 .grind
 .rw[Ag e,<-h.mem];grind
def IsMap.del{m:By->Aw α}{a:Ae α}(h:IsMap key m a)(p:By):IsMap key (FM m p Aa) (a.filter fun y=>decide (key y≠p)):=by
 refine⟨HE.filter _ h.rises,fun z=>?_⟩;rw[Kk,h.mem,decide_eq_true_eq];unfold FM;grind
def Jh(x:α)(s:Ae α×Ar)(y:α):Ae α×Ar:=
 let n:=if Cg key x y<=0/\s.2=Aj then s.1++[x]else s.1
 (if Cg key x y≠0 then n++[y]else n,s.2||decide (Cg key x y<=0))
def SB(x:α)(r:Ae α×Ar):Ae α:=if r.2=Af then r.1 else r.1++[x]
def insF(x:α)(l:Ae α):Ae α:=SB x (l.foldl (Jh key x) ([],Aj))
def YC(x:α):∀(ys out:Ae α),(∀y∈ys,Cg key x y≠0)->ys.foldl (Jh key x) (out,Af)=(out++ys,Af)
 |[],out,_=>by simp
 |y::ys,out,h=>by
  have h1:=h y Bi;rw[Kh];have e:Jh key x (out,Af) y=(out++[y],Af):=by simp[Jh,h1]
  rw[e,YC x _ _ Bg];simp
def gT(x:α):∀(ys out:Ae α),Dg key ys->SB x (ys.foldl (Jh key x) (out,Aj))=out++Cd key x ys
 |[],out,_=>by rfl
 |y::ys,out,h=>by
  have h':=Ij.1 h;rw[Kh];unfold Cd;by_cases c1:Cg key x y=-1
  .have e:Jh key x (out,Aj) y=(out++[x]++[y],Af):=by simp[Jh,c1]
   rw[Ai c1,e,YC key x ys _ (fun z d=>by have:=Sn key c1 (show Cg key y z<=0 by grind);omega)];simp[SB]
  .rw[Ag c1];by_cases a:Cg key x y=0
   .have e:Jh key x (out,Aj) y=(out++[x],Af):=by simp[Jh,a]
    rw[Ai a,e,YC key x ys _ (fun z d=>by have:=eX key (show Cg key x y<=0 by omega) (h'.1 z d);omega)];simp[SB]
   .have g:=OH key x y
    have e:Jh key x (out,Aj) y=(out++[y],Aj):=by
     have f:¬Cg key x y<=0:=X;simp[Jh,f,a]
    rw[Ag a,e];rw[gT x _ _ h'.2];simp
def vy{x:α}{a:Ae α}(h:Dg key a):insF key x a=Cd key x a:=by
 have:=gT _ x _ [] h;assumption
def LB(l:Ae α):By->Aw α:=l.foldl (fun m x=>FM m (key x) (J x)) Vd
def vU(l:Ae α)(x:α):LB key (l++[x])=FM (LB key l) (key x) (J x):=by simp[LB]
def jI{l:Ae α}{p:By}{z:α}(h:LB key l p=J z):key z=p:=by
 have a:∀(l:Ae _) (m:By->Aw _),(∀p z,m p=J z->key z=p)->∀p z,(l.foldl (fun m x=>FM m (key x) (J x)) m) p=J z->key z=p:=by
  intro l
  induction l with
  |nil=>simp
  |cons x l ih=>
   intro m h;refine ih _ fun q y d=>?_;simp only[FM]at d;grind
 exact a l _ (fun p z q=>by cases q) p z h
def Zb{l:Ae α}{p:By}{z:α}(h:LB key l p=J z):z∈l:=by
 have a:∀(l:Ae _) (m:By->Aw _),∀p z,(l.foldl (fun m x=>FM m (key x) (J x)) m) p=J z->z∈l∨m p=J z:=by
  intro l
  induction l with
  |nil=>simp
  |cons x l ih=>
   intro m p z h;rcases ih _ p z h with q|q
   .grind
   .simp[FM]at q;grind
 rcases a l _ p z h with q|q
 .omega
 .cases q
def vT{l:Ae α}{p:By}:LB key l p=Aa↔∀x∈l,key x≠p:=by
 have a:∀(l:Ae _) (m:By->Aw _),∀p,(l.foldl (fun m x=>FM m (key x) (J x)) m) p=Aa↔(∀x∈l,key x≠p)/\m p=Aa:=by
  intro l
  induction l with
  |nil=>simp
  |cons x l ih=>
   intro m p;rw[Kh,ih];unfold FM;grind
 exact(a l Vd p).trans ⟨fun h=>h.1,fun h=>⟨h,Z⟩⟩
def jB{l:Ae α}(h:Dg key l):IsMap key (LB key l) l:=by
 refine⟨h,fun x=>?_⟩
 have r:∀a∈l,∀b∈l,key a=key b->a=b:=by
  intro a n b m e;obtain⟨i,k,rfl⟩:=Hq.1 n;obtain⟨j,g,rfl⟩:=Hq.1 m;have f:=Ik.1 h;have t:=(JF _ _ _).2 e;rcases Uc i j with q|q|q
  .grind
  .grind
  .have p:=f j i g k q;have o:=Mi key l[i] l[j];omega
 constructor
 .intro d;cases hz:LB _ l _ with
  |none=>exact AI Z ((vT _).1 hz x d)
  |some z=>
   have p:=jI _ hz;have o:=Zb _ hz;grind
 .exact fun d=>Zb _ d
def Aah{l:Ae α}(d:∀i j (hi:i<Ajb l) (hj:j<Ajb l),i<j->¬Cg key l[j] l[i]<0)(f:(l.map key).Nodup):Dg key l:=by
 unfold Dg;rw[Ik];intro i j hi hj a;have o:=d i j hi hj a;have n:=Mi key l[i] l[j];have m:=OH key l[i] l[j]
 have k:Cg _ _ _≠0:=fun e=>by
  have h:=(JF _ _ _).1 e;have g:(l.map key)[i]'Bg=(l.map key)[j]'Bg:=by simpa using h
  have:=(MZ f).1 g;omega
 omega
def swo:Go.Sort.SWO (fun a b:α=>decide (Cg key a b<0)) where
 irrefl x:=by
  have:=(JF key x x).2 Z;grind
 trans x y z h1 h2:=by
  simp at*;have:=Sn key (show Cg key x y=-1 by have:=OH key x y;omega) (show Cg key y z<=0 by omega);omega
 ntrans x y z h1 h2:=by
  simp only[decide_eq_false_iff_not]at*;have f:=Mi key x y;have e:=Mi key y z;have d:=Mi key x z;have:=XD key (show Cg key z y<=0 by omega) (show Cg key y x<=0 by omega);omega
end
end Srt
section
attribute [local irreducible] OW KW QW EX GW NV
open Rec Pth
def kq{m:M}(h:¬Ds m):NB m=([],200):=by unfold NB;grind
def kr{m:M}(h:Ds m):NB m=(Et m,0):=by unfold NB;grind
def ky(m:M)(hm:m.Ok)(w:Ad):Bn prog 110 [.agg m.cells.toArray] w fun v w'=>v=.tuple #[Bl (NB m).1,U (((NB m).2:Y):H)]/\Bf w w':=by
 refine Bw Bi Z ntmps110 Be Z ?_;refine(O 2) ?_;refine Dz Z Z Z ?_;rintro Q W L d D;refine(O 6) ?_;replace d:=d;refine(Zv (BW d)∘Zc (Xv m hm _)) ?_;rintro _ I⟨rfl,p⟩;refine(O 7) ?_;have q:=d.ext p;have N:=D.trans p;by_cases h:Ds m
 .rw[Xw h];refine Zi (fun G=>?_) fun G=>?_
  .omega
  .obtain⟨S,_⟩:=JO h;have T:=h;obtain⟨_,h2,h3,h4,h5,h6,h7⟩:=h;obtain⟨l,t⟩:=EY (show 0<=m.start by omega);obtain⟨n,x⟩:=EY (show 0<=m.sectors by omega);obtain⟨k,r⟩:=EY (show 0<=m.size by omega);have K:=hm.sum;have e:m.cells=[Bl m.path,U (l:H),U (n:H),U (k:H),.int .u32 (m.sum:H)]:=by unfold M.cells;rw[t,x,r]
   have E:Et m=be 1 (Ajb m.path)++m.path++be 2 l++be 2 n++be 2 k++be 4 m.sum:=by unfold Et;rw[t,x,r];rfl
   rw[e]at q;have l1:=DX 1 (Ajb m.path);have l2:=DX 2 l;have l3:=DX 2 n;have l4:=DX 2 k;have l5:=DX 4 m.sum;rw[kr T,E];refine(O 2)<|Lc (fun(wr:Ad)=>(Bf w wr,[(2,Bl (be 1 (Ajb m.path)++m.path++be 2 l++be 2 n++be 2 k++be 4 m.sum)),(3,U ((0:Y):H))],wr)) ?_ ?_
   .skip
    refine(Yr 30 (fun w'=>Bf w w'/\Bk w' Q 60 [Bl m.path,U (l:H),U (n:H),U (k:H),.int .u32 (m.sum:H)]) ⟨N.trans (Bf.drew I),q.drew⟩) fun a=>(Gv [0,1,2,3,5,6,8,9,10,13,14,15,18,19,20,23,24,25]∘Yc 4 (HU (Ajb m.path) 1 X Bc I.drew)) ?_;rintro _ P⟨rfl,o⟩;refine⟨⟨a.1.trans o,a.2.ext o⟩,fun a=>?_⟩;refine(Gv [7]∘Yc 11 (HU l 2 X Bc P)) ?_;rintro _ C⟨rfl,j⟩;refine⟨⟨a.1.trans j,a.2.ext j⟩,fun a=>?_⟩;refine(Gv [12]∘Yc 16 (HU n 2 X Bc C)) ?_;rintro _ B⟨rfl,i⟩;refine⟨⟨a.1.trans i,a.2.ext i⟩,fun a=>?_⟩;refine(Gv [17]∘Yc 21 (HU k 2 X Bc B)) ?_;rintro _ A⟨rfl,g⟩;refine⟨⟨a.1.trans g,a.2.ext g⟩,fun a=>?_⟩;refine(Gv [22]∘Yc 26 (HU m.sum 4 X Bc A)) ?_;rintro _ y⟨rfl,f⟩;refine⟨⟨a.1.trans f,a.2.ext f⟩,fun a=>?_⟩;refine(Gv [27,28,29]∘Yd∘Lm y) ?_;grind
   .rintro wr V;refine(BG) ?_;grind
 .rw[Mg h,kq h];refine Zi (fun G=>?_) fun G=>?_
  .refine(O 6∘BG) ?_;grind
  .omega
end
section
attribute [local irreducible] OW KW QW EX GW NV
open Rec
def first(s:Bh):Y:=(s.getD 0 0).toNat
def IW(s:Bh):M:=
 ⟨(s.drop 1).take (first s),nb ((s.drop (1+first s)).take 2),nb ((s.drop (3+first s)).take 2),nb ((s.drop (5+first s)).take 2),nb ((s.drop (7+first s)).take 4)⟩
def ED:Y->Bh->Ae M->Ae M×Y
 |0,_,out=>(out,0)
 |f+1,s,out=>if s=[]then(out,0)else if Ajb s<first s+11 then([],200)else if Ds (IW s)then ED f (s.drop (11+first s)) (out++[IW s])else([],200)
def DK(l:Ae M):Bm:=l.flatMap M.cells
def kC(l:Ae M)(m:M):DK (l++[m])=DK l++m.cells:=by simp[DK]
def Vc(s:Bh)(k:Y)(h:k<=4):nb (s.take k)<=4294967295:=by
 have a:nb (s.take k)<256 ^ 4:=Ks (SJ _ _ Z) (Gb Bi Bg);omega
def xu(s:Bh)(h:Ajb s<=1000000000):(IW s).Ok:=⟨by show Ajb ((s.drop 1).take (first s))<=_;grind,Vc _ 4 X⟩
def ur{s:Bh}(h:s≠[]):Hx (s.take 1)=((first s:Y):H):=by
 rw[Vg _ Bg]
 match s,h with
 |c::s,_=>simp[nb,first]
def uq(s:Bh):first s<256:=(s.getD 0 0).toNat_lt
def kz(s:Bh)(hs:Ajb s<=1000000000)(w:Ad):
 Bn prog 104 [Bl s] w fun v w'=>∃vs,v=.tuple #[vs,U (((ED (Ajb s+1) s []).2:Y):H)]/\Bo w' w.heap.size 60 5 vs (Ajb (ED (Ajb s+1) s []).1) (DK (ED (Ajb s+1) s []).1)/\Bf w w':=by
 generalize ab:ED (Ajb s+1) s []=res;refine Bw func104 Z ntmps104 Be Z ?_;refine(O 13∘Zv (by exact Oa (pl:=[(0,1)]) (ks:=[0]) (zs:=[Bl []]) underlying194 bv Be Z Z Z)) ?_;refine Dz Z Z Z ?_;rintro l w1 a6 a9 a7;refine(O 4) ?_;have cb:w.heap.size<=l:=a6;refine Lo (fun((f,q,i,v,wr):Y×(Bh)×(Ae M)×Ah×Ad)=>(Ajb q<f/\Ajb q<=1000000000/\Ajb i+f<=Ajb s+1/\ED f q i=res/\Bk wr l 194 [Bl q]/\Bo wr w.heap.size 60 5 v (Ajb i) (DK i)/\Bf w wr,[(4,v),(5,.pointer (J ⟨l,0,Aa⟩))],wr,Ajb q)) ((Ajb s+1),s,([]),(.slice Aa 0 0),w1) ?_ ?_
 .exact⟨X,hs,Bi,ab,a9,Bo.nil _ _ _ _,a7⟩
 .rintro⟨f,q,i,v,wr⟩⟨cd,ba,ce,B,hr,I,hx⟩;refine(O 8∘Zv (by exact MV (r:=[]) Z Z)∘O 1)<|Zi (fun T=>?_) fun T=>?_
  .obtain⟨f,rfl⟩:∃g,f=g+1:=⟨f-1,X⟩;have x:q≠[]:=by simpa using T
   have b8:0<Ajb q:=Na.2 x;have bx:=uq q;rw[ED,Ag x]at B;generalize hn:first q=n at B bx;have d1:(q.drop 1).drop n=q.drop (1+n):=Gj ..;have d3:(q.drop (1+n)).drop 2=q.drop (3+n):=by rw[Gj];congr 1;omega
   have d5:(q.drop (3+n)).drop 2=q.drop (5+n):=by rw[Gj];congr 1;omega
   have d7:(q.drop (5+n)).drop 2=q.drop (7+n):=by rw[Gj];congr 1;omega
   have b7:(q.drop (7+n)).drop 4=q.drop (11+n):=by rw[Gj];congr 1;omega
   have ld:∀j,Ajb (q.drop j)<=1000000000000:=fun j=>by rw[CM];omega
   have cg:Ajb (q.drop 1)=Ajb q-1:=CM;have b2:=fun t:Bh=>Vc t 2 X;have b4:=fun t:Bh=>Vc t 4 X;have i2:=fun t:Bh=>Vg (t.take 2) (by rw[BZ];omega);have i4:=fun t:Bh=>Vg (t.take 4) (by rw[BZ];omega);refine(O 5∘Zc (IY l 1 q _ wr hr X X)) ?_;rintro _ w2⟨rfl,a0,a4⟩;refine(O 9) ?_;rw[ur x,hn];have x2:Bf w w2:=Bu hx a4 hx.size (fun k a=>by simp at a;omega);have p:=I.mo a4 (fun k a=>by simp;exact fun z=>I.ne hr Bc k a z.symm);refine(O 6)<|Zi (fun E=>?_) fun E=>?_
   .rw[Ai X]at B;subst B;refine(O 5∘BG) ?_;exact⟨_,Z,Bo.nil _ _ _ _,x2⟩
   .rw[Ag X]at B;refine(O 7∘Zc (Rg l n (q.drop 1) _ w2 a0 X (ld 1))) ?_;rintro _ w3⟨rfl,P,a3⟩;refine(O 1) ?_;rw[d1]at P;have x3:Bf w w3:=Bu x2 a3 x2.size (fun k a=>by simp at a;omega);have d:=p.mo a3 (fun k a=>by simp;exact fun z=>p.ne a0 Bc k a z.symm);refine(Zn) ?_;rintro W w4 ca L D;refine(Zs L (hlt:=Bv _)) ?_;rintro w5 K V;refine(O 4) ?_;have x4:=x3.trans D;have x5:Bf w w5:=Bu x4 V x4.size (fun k a=>by simp at a;have:=x3.size;omega);have b9:w.heap.size<=W:=by have:=x3.size;omega
    have N:=(P.ext D).mo V (by simp;exact(P.ext D).ne L Bc)
    have o:=(d.ext D).mo V (fun k a=>by
     have a5:=(d.lt k a).2;grind)
    have cf:∀k,v.ownBlock=J k->k≠W:=fun k a=>by have a5:=(d.lt k a).2;omega
    have cc:W≠l:=fun z=>(N.ne K Bc) z.symm;refine(Zc (IY l 2 (q.drop (1+n)) _ w5 N X (ld _))) ?_;rintro _ w6⟨rfl,ao,bn⟩;refine(O 1) ?_;rw[d3]at ao;refine(Zc (IY l 2 (q.drop (3+n)) _ w6 ao X (ld _))) ?_;rintro _ w7⟨rfl,al,bm⟩;refine(O 1) ?_;rw[d5]at al;refine(Zc (IY l 2 (q.drop (5+n)) _ w7 al X (ld _))) ?_;rintro _ w8⟨rfl,aj,bl⟩;refine(O 1) ?_;rw[d7]at aj;have ch:=b4 (q.drop (7+n));have c9:=IY l 4 (q.drop (7+n)) _ w8 aj X (ld _);rw[i4]at c9;refine(Zc c9) ?_;rintro _ w9⟨rfl,ai,bj⟩;refine(O 2) ?_;rw[b7]at ai;rw[i2,i2,i2];have A:Mo w5 w9 [l]:=((bn.trans bm).trans bl).trans bj;have a1:=K.mo A Bg;have S:=o.mo A (fun k a=>by simp;exact fun z=>o.ne N Bc k a z.symm);have x9:Bf w w9:=Bu x5 A x5.size (fun k a=>by simp at a;omega);have hM:IW q=⟨(q.drop 1).take n,nb ((q.drop (1+n)).take 2),nb ((q.drop (3+n)).take 2),nb ((q.drop (5+n)).take 2),nb ((q.drop (7+n)).take 4)⟩:=by unfold IW;rw[hn]
    refine(Zt a1) ?_;rintro wa b6 bi;refine(O 1∘Zt b6) ?_;rintro wb b5 a2;refine(O 1∘Zt b5) ?_;rintro wc b3 bh;refine(O 1∘Zt b3) ?_;rintro wd G bf;refine(O 4) ?_;have y:Mo w9 wd [W]:=((bi.trans a2).trans bh).trans bf;replace G:Bk wd W 60 (IW q).cells:=by rw[hM];exact G
    have xd:Bf w wd:=Bu x9 y x9.size (fun k a=>by simp at a;omega);have a8:=ai.mo y Bg;have Q:=S.mo y (fun k a=>by grind);refine(Zv (BW G)∘Zc (Xv (IW q) (xu q ba) wd)) ?_;rintro _ we⟨rfl,C⟩;refine(O 7) ?_;have b1:=G.ext C;have af:=a8.ext C;have m:=Q.ext C;have xe:=xd.trans C;by_cases h:Ds (IW q)
    .rw[Xw h];rw[Ai h]at B;refine Zi (fun hz=>?_) fun hz=>?_
     .omega
     .refine(O 3∘Zv (BW b1)∘Kx xe m) ?_;rintro _ v2 wf bc xf bs;refine(O 3) ?_;have b0:Ajb (q.drop (11+n))=Ajb q-(11+n):=CM ..;refine Lb (f,(q.drop (11+n)),(i++[IW q]),v2,wf) ?_;have bq:Mo we wf v.ownBlock.toList:=Mo.grown bs (fun k e=>by grind);refine⟨by rw[CM];omega,by rw[CM];omega,Bg,B,af.mo bq (fun z=>m.ne af Bc l Bg Z),?_,xf⟩;rw[BA,kC];omega
    .rw[Mg h];rw[Ag h]at B;subst B;refine Zi (fun hz=>?_) fun hz=>?_
     .refine(O 6∘BG) ?_;exact⟨_,Z,Bo.nil _ _ _ _,xe⟩
     .omega
  .have bb:q=[]:=by simpa using T
   obtain⟨f,rfl⟩:∃g,f=g+1:=⟨f-1,X⟩;rw[ED,Ai bb]at B;subst B;refine(O 7∘BG) ?_;grind
end
section
open Rec
def Cf(l:Ae M):Bh:=l.flatMap Et
def qN(l:Ae M)(m:M):Cf (l++[m])=Cf l++Et m:=by simp[Cf]
def UY(m:M):Ajb (Et m)=Ajb m.path+11:=by
 unfold Et;simp only[BA,DX];omega
def xE{m:M}(h:Ds m)(p:m.sum<=4294967295)(r:Bh):IW (Et m++r)=m/\first (Et m++r)=Ajb m.path/\(Et m++r).drop (11+Ajb m.path)=r:=by
 obtain⟨D,_⟩:=JO h;obtain⟨_,y,x,w,v,t,q⟩:=h
 have e:Et m++r=[BU (Ajb m.path)]++(m.path++(be 2 m.start.toNat++(be 2 m.sectors.toNat++(be 2 m.size.toNat++(be 4 m.sum++r))))):=by
  unfold Et;rw[qZ _ X];simp
 have a:first (Et m++r)=Ajb m.path:=by
  show(BU _).toNat=_;simp;omega
 have k:(Et m++r).drop 1=m.path++(be 2 m.start.toNat++(be 2 m.sectors.toNat++(be 2 m.size.toNat++(be 4 m.sum++r)))):=e▸Z;have i:=Nv k Z Z;have g:=Nv i (DX 2 _) (j:=3+Ajb m.path) X;have f:=Nv g (DX 2 _) (j:=5+Ajb m.path) X;have d:=Nv f (DX 2 _) (j:=7+Ajb m.path) X;have A:=Nv d (DX 4 _) (j:=11+Ajb m.path) X;refine⟨?_,a,A⟩;obtain⟨C,B,o,l,n⟩:=m;simp only at y x w v t q p k i g f d a;unfold IW
 rw[a,k,i,g,f,d,Hr Z,Hr (DX _ _),Hr (DX _ _),Hr (DX _ _),Hr (DX _ _),
  Ph 2 _ X,Ph 2 _ X,Ph 2 _ X,Ph 4 _ X]
 simp;omega
def Zm:∀(l:Ae M) (f:Y) (out:Ae M),(∀m∈l,Ds m/\m.sum<=4294967295)->Ajb (Cf l)<f->ED f (Cf l) out=(out++l,0)
 |[],f,out,_,hf=>by
  obtain⟨g,rfl⟩:∃g,f=g+1:=⟨f-1,X⟩;rw[ED,Ai (show Cf _=[]from Z),List.append_nil]
 |m::l,f,out,hl,hf=>by
  obtain⟨g,rfl⟩:∃g,f=g+1:=⟨f-1,X⟩;obtain⟨h1,h2⟩:=hl m Bi;have e:Cf (m::l)=Et m++Cf l:=by simp[Cf]
  obtain⟨i,h,d⟩:=xE h1 h2 (Cf l);rw[e]at hf ⊢;have a:Ajb (Et m++Cf l)=Ajb m.path+11+Ajb (Cf l):=by rw[BA,UY]
  rw[ED,Ag Bg,h,Ag X,i,Ai h1,d,Zm l g _ Bg X];simp
def Xh:∀l:Ae M,(∀m∈l,Ds m)->Ajb (Cf l)<=Ajb l*131
 |[],_=>by simp[Cf]
 |m::l,h=>by
  have ih:=Xh l Bg;have h1:=(JO (h m Bi)).1;have e:Cf (m::l)=Et m++Cf l:=by simp[Cf]
  rw[e,BA,UY,Cz];omega
end
namespace Cat
open Pth Rec Srt
abbrev Xt:=H×H
def HS(cap:H)(x:Xt):Prop:=30<=x.1/\1<=x.2/\x.1<=cap/\x.2<=cap-x.1
instance(cap:H)(x:Xt):Decidable (HS cap x):=by unfold HS;infer_instance
def apart(x y:Xt):Prop:=x.1+x.2<=y.1∨y.1+y.2<=x.1
instance(x y:Xt):Decidable (apart x y):=by unfold apart;infer_instance
def Xl{x y:Xt}(h:apart x y):apart y x:=h.symm
structure OkX(l:Ae Xt)(cap:H):Prop where
 room:1<=cap/\cap<=4096
 fit:∀x∈l,HS cap x
 far:l.Pairwise apart
instance(l:Ae Xt)(cap:H):Decidable (OkX l cap):=
 decidable_of_iff ((1<=cap/\cap<=4096)/\(∀x∈l,HS cap x)/\l.Pairwise apart) ⟨fun h=>⟨h.1,h.2.1,h.2.2⟩,fun h=>⟨h.room,h.fit,h.far⟩⟩
def Jg(l:Ae Xt)(cap:H):Y:=if OkX l cap then 0 else 220
def SP{l l':Ae Xt}{cap:H}(h:l'.Perm l):OkX l' cap↔OkX l cap:=
 ⟨fun q=>⟨q.room,fun x hx=>q.fit x Bg,(h.pairwise_iff Xl).1 q.far⟩,fun q=>⟨q.room,fun x hx=>q.fit x Bg,(h.pairwise_iff Xl).2 q.far⟩⟩
def HQ(a b:Xt):H:=if a=b then 0 else if a.1<b.1∨(a.1=b.1/\a.2<b.2)then -1 else 1
def Sh(a b:Xt):HQ a b<0↔(a.1<b.1∨(a.1=b.1/\a.2<b.2)):=by
 unfold HQ;grind
def swoX:Go.Sort.SWO (fun a b:Xt=>decide (HQ a b<0)) where
 irrefl x:=by
  rw[decide_eq_false_iff_not,Sh];omega
 trans x y z h1 h2:=by
  rw[decide_eq_true_eq,Sh]at*;omega
 ntrans x y z h1 h2:=by
  rw[decide_eq_false_iff_not,Sh]at*;omega
structure Upto(l:Ae Xt)(cap at_:H):Prop where
 fit:∀x∈l,HS cap x
 chain:l.Pairwise (fun x y=>x.1+x.2<=y.1)
 below:∀x∈l,x.1+x.2<=at_
 last:at_=30∨∃x∈l,at_=x.1+x.2
 low:30<=at_/\at_<=30+4096
def Upto.nil(cap:H):Upto [] cap 30:=⟨Bi,Bi,Bi,X,X⟩
def Upto.snoc{l:Ae Xt}{cap at_:H}(i:1<=cap/\cap<=4096)(h:Upto l cap at_){x:Xt}(h1:¬x.1<at_)(m:¬x.2<1)(k:¬x.1>cap)(j:¬x.2>cap-x.1):Upto (l++[x]) cap (x.1+x.2):=by
 have g:=h.low;refine⟨fun y d=>?_,?_,fun y d=>?_,Bi,X⟩
 .rcases Dx.1 d with d|d
  .exact h.fit y d
  .simp at d;subst d;exact⟨X,X,X,X⟩
 .rw[Nb];refine⟨h.chain,Bi,fun a f b e=>?_⟩;simp at e;subst e;have:=h.below a f;omega
 .rcases Dx.1 d with d|d
  .have:=h.below y d;omega
  .grind
def Upto.done{l:Ae Xt}{cap at_:H}(hc:1<=cap/\cap<=4096)(h:Upto l cap at_):OkX l cap:=⟨hc,h.fit,h.chain.imp fun q=>.inl q⟩
def Upto.fail{l:Ae Xt}{cap at_:H}{x:Xt}{r:Ae Xt}(h:Upto l cap at_)(g:∀y∈l,¬HQ x y<0)(d:x.1<at_∨x.2<1∨x.1>cap∨x.2>cap-x.1):¬OkX (l++x::r) cap:=fun q=>by
 have i:=q.fit x Bi;unfold HS at i;rcases d with d|d
 .rcases h.last with e|⟨y,a,e⟩
  .omega
  .have f:=(Nb.1 q.far).2.2 y a x Bi;have j:=g y a;rw[Sh]at j;have k:=h.fit y a;rcases f with f|f
   .omega
   .omega
 .omega
def BY(l:Ae M):Ae Xt:=l.map fun m=>(m.start,m.sectors)
abbrev Mt(m:M):Bh:=m.path
structure OkC(l:Ae M)(cap:H):Prop where
 len:Ajb l<=16
 may:∀m∈l,Ds m
 rises:Dg Mt l
 ext:OkX (BY l) cap
def eO(m:M):Mf m=0↔Ds m:=by
 unfold Mf;simp
noncomputable def Kz(l:Ae M)(cap:H):Y:=open Classical in if OkC l cap then 0 else 230
def Si{l:Ae M}{cap:H}(h:OkC l cap):Kz l cap=0:=by unfold Kz;grind
def OG{l:Ae M}{cap:H}(h:¬OkC l cap):Kz l cap=230:=by unfold Kz;grind
def Aai{l:Ae M}{m:M}(h:Dg Mt l)(hl:∀p,l.getLast? =J p->Gc p.path m.path=-1):Dg Mt (l++[m]):=by
 unfold Dg at*;rw[Nb];refine⟨h,Bi,fun a d b f=>?_⟩;simp at f;subst f;rcases TK l with e|⟨q,p,e⟩
 .grind
 .rw[List.concat_eq_append]at e;subst e;have i:Cg Mt p b=-1:=hl p Bi;rcases Dx.1 d with d|d
  .have g:=(Nb.1 h).2.2 a d p Bi;exact Sn _ g X
  .grind
end Cat
section
attribute [local irreducible] OW KW QW EX GW NV
open Pth Rec Srt Cat
def _root_.Go.Proofs.YtkmlafmjaeeanaaGreatDoor.Cat.xcells(x:Xt):Bm:=[U x.1,U x.2]
abbrev Eg(l:Ae Xt):Bm:=l.flatMap xcells
def PJ(l:Ae Xt)(x:Xt):Eg (l++[x])=Eg l++xcells x:=Bi
def We(l:Ae Xt):∀u∈Eg l,u.oneCell'=Af:=by
 intro u a;obtain⟨p,_,h⟩:=Ov.1 a;simp only[xcells,List.mem_cons,List.not_mem_nil,or_false]at h;rcases h with rfl|rfl<;>rfl
def rV(l:Ae Xt)(hl:Ajb l<=1000000)(A:Aw AC)(c B:Y)(w:Ad)(m:Sl w B A (Eg l)):
 Bn prog 122 [.slice A (Ajb l) c] w fun v w'=>Bo w' w.heap.size 121 2 v (Ajb l) (Eg l)/\Bf w w':=by
 have i:=KE (cells:=xcells) (k:=2) (fun _=>rfl) l;refine Bw func122 Z ntmps122 (by rfl) Z ?_;rcases A with _|⟨b,o,D⟩
 .have g:l=[]:=by
   rcases m with h|⟨_,_,h,_⟩
   .cases l with
    |nil=>rfl
    |cons x l=>
     grind
   .cases h
  subst g;refine(O 15∘Br) ?_;exact⟨Bo.nil _ _ _ _,Bf.refl _⟩
 .refine(O 14) ?_;refine Mb 0 ([]) Z Z underlying118 LJ Z Bc Z Z Z Bi Bc ?_;rintro t n e j d;refine(O 1) ?_;have a:Bo n w.heap.size 121 2 (.slice (J ⟨t,0,Aa⟩) 0 0) 0 []:=Bo.Agl (cap:=0) j e Z Bc;refine HL Z Z underlying118 LJ Z Bc Z Z (d) (a) (Src.Agn underlying118 (m.ext d) i (We l) Bc) CA X ?_;rintro C y f p r q;refine(O 2∘Br) ?_;grind
def xt_eq(a b:Xt):([decide (a.1=b.1),decide (a.2=b.2)].all id)=decide (a=b):=by
 grind
def sh(x y:Xt)(W:Ad):Bn prog 124 [.agg (xcells x).toArray,.agg (xcells y).toArray] W fun r W'=>r=U (HQ x y)/\Gr W W':=by
 refine Bw func124 Z ntmps124 Be Z ?_;refine(O 2∘Zv (by exact EX.box (l:=xcells x) Z Z)) ?_;have g:=Bk.new W 121 (xcells x);have k:=Gr.alloc W (.cells (xcells x).toArray 121);generalize n:W.alloc (.cells (xcells x).toArray 121)=w1 at g k;refine(Zv (by exact EX.box (l:=xcells y) Z Z)∘O 5) ?_;have f:=Bk.new w1 121 (xcells y);have i:=Gr.alloc w1 (.cells (xcells y).toArray 121);have a:=g.ext i.1;generalize m:w1.alloc (.cells (xcells y).toArray 121)=w2 at f i a;have j:=k.trans i;refine(Zv (BW a)∘Zv (BW f)∘Zv (by exact Tx underlying121 Be Be Z Z (.cons Bc underlying3 Z Z Z (Lw underlying3) (.cons Bc underlying3 Z Z Z (Lw underlying3) .nil)) Z)∘O 1∘Cs 7 (.bool (decide (x=y))) (e:=by exact Av Value.bool (xt_eq x y)))<|Zi (fun h=>?_) fun h=>?_
 .have e:HQ x y=0:=by unfold HQ;rw[Ai h]
  refine(O 4∘Br) ?_;grind
 .refine(O 3)<|Lc (fun(p:Unit)=>(True,[(26,.bool (decide (x.1<y.1∨(x.1=y.1/\x.2<y.2))))],w2)) ?_ ?_
  .refine(O 7)<|Zd 13 (fun d=>?_) fun d=>?_
   .refine(O 14∘Cs 26 (.bool (decide (x.1<y.1∨(x.1=y.1/\x.2<y.2)))) (e:=by exact Av Value.bool (AL (.inl d)).symm)∘Lm ()) ?_;trivial
   .refine(O 6)<|Zd 19 (fun o=>?_) fun o=>?_
    .refine(O 8∘Cs 26 (.bool (decide (x.1<y.1∨(x.1=y.1/\x.2<y.2)))) (e:=by exact Av Value.bool (decide_eq_decide.2 X))∘Lm ()) ?_;trivial
    .refine(O 8∘Cs 26 (.bool (decide (x.1<y.1∨(x.1=y.1/\x.2<y.2)))) (e:=by exact Av Value.bool (AN X).symm)∘Lm ()) ?_;trivial
  .rintro _ _;refine Zi (fun d=>?_) fun d=>?_
   .have e:HQ x y=-1:=by unfold HQ;rw[Ag h,Ai d]
    refine(O 4∘Br) ?_;rw[e];exact⟨Z,j⟩
   .have e:HQ x y=1:=by unfold HQ;rw[Ag h,Ag d]
    refine(O 5∘Br) ?_;rw[e];exact⟨Z,j⟩
def ng(l:Ae Xt)(hl:Ajb l<=1000000)(A:Aw AC)(c B:Y)(w:Ad)(r:Sl w B A (Eg l)):
 Bn prog 96 [.slice A (Ajb l) c] w fun v w'=>(∃l':Ae Xt,l'.Perm l/\(∀i j (hi:i<Ajb l') (hj:j<Ajb l'),i<j->¬HQ l'[j] l'[i]<0)/\Bo w' w.heap.size 121 2 v (Ajb l) (Eg l'))/\Bf w w':=by
 refine Bw func96 Z ntmps96 Be Z ?_;refine(O 7∘Zc (rV l hl A c B w r)) ?_;rintro _ p⟨a,m⟩;refine(O 5) ?_;rename_i q;have C:=VG Tryz.Air (f:=123) Z func123 Be (e:=121) Z underlying121 Z LJ Bi (cells:=xcells) (fun _=>rfl) (fun x v o=>by simp[xcells]at o;rcases o with rfl|rfl<;>rfl) HQ swoX func124 Be w.heap.size l X q p a (fun W x y _=>sh x y W);refine(Zc C) ?_;rintro _ D⟨rfl,l',g,d,h,n⟩;refine(O 6∘Br) ?_;exact⟨⟨l',g,d,h⟩,Bu m n m.size (fun k t=>(a.lt k (FC.1 t)).1)⟩
def Th(l:Ae Xt)(hl:Ajb l<=1000000)(cap:H)(A:Aw AC)(c B:Y)(w:Ad)(hs:Sl w B A (Eg l)):
 Bn prog 65 [.slice A (Ajb l) c,U cap] w fun v w'=>v=U ((Jg l cap:Y):H)/\Bf w w':=by
 have L:¬OkX l cap->Jg l cap=220:=fun h=>by unfold Jg;grind
 refine Bw func65 Z ntmps65 (by rfl) Z ?_;refine(O 10)<|Zd 10 (fun h1=>?_) fun h1=>?_
 .refine(O 9∘Br) ?_;rw[L (fun h=>by have:=h.room;omega)];exact⟨Z,Bf.refl _⟩
 .refine(O 4)<|Zi (fun h2=>?_) fun h2=>?_
  .refine(O 4∘Br) ?_;rw[L (fun h=>by have:=h.room;omega)];exact⟨Z,Bf.refl _⟩
  .have hc:1<=cap/\cap<=4096:=X;refine(O 9∘Zc (ng l hl A c B w hs)) ?_;rintro v1 w1⟨⟨a,d,Q,E⟩,C⟩;obtain⟨A1,c1,rfl,_,S⟩:=E.slice;refine(O 4) ?_;rw[<-SP d]at L;have af:=d.length_eq;have P:OkX a cap->Jg l cap=0:=fun h=>by unfold Jg;rw[Ai ((SP d).1 h)]
   refine Lo (fun((i,at_,wr):Y×H×Ad)=>(i<=Ajb a/\Upto (a.take i) cap at_/\Bf w1 wr,[(1,U cap),(5,U (at_:H)),(15,.slice A1 (Ajb l) c1),(16,U ((Ajb l:Y):H)),(17,U i)],wr,Ajb a-i)) (0,30,w1) ?_ ?_
   .exact⟨BE _,Upto.nil cap,Bf.refl _⟩
   .rintro⟨i,at_,wr⟩⟨hi,g,N⟩;have ab:=g.low;refine(O 5)<|Zi (fun G=>?_) fun G=>?_
    .have m:i<Ajb a:=X;obtain⟨b,o,rfl,_,p⟩:=(S.ext N).flat (l:=a) (i:=i) (c:=2) (fun _=>rfl) Bc m;have D:a.take (i+1)=a.take i++[a[i]]:=(CS m).symm;have r:a=a.take i++a[i]::a.drop (i+1):=by rw[<-DE m,HJ]
     have n:∀y∈a.take i,¬HQ a[i] y<0:=fun y hy=>by
      obtain⟨j,hj,rfl⟩:=Hq.1 hy;grind
     generalize a[i]=x at p D r n;refine(O 6∘Zv (Dr (xcells x) p)∘Zn) ?_;rintro W w2 ai V t;refine(Zs V (hlt:=Bv _)) ?_;rintro K I T;refine(O 3) ?_;replace I:Bk K W 121 (xcells x):=I;have x3:Bf wr K:=Bu t T t.size (fun k hk=>by grind);refine Lc (fun(_u:Unit)=>(True,[(1,U cap),(5,U (at_:H)),(7,.pointer (J ⟨W,0,Aa⟩)),(15,.slice (J ⟨b,o,Aa⟩) (Ajb l) c1),(16,U ((Ajb l:Y):H)),(17,U i),(44,.bool (decide ((x.1<at_∨x.2<1∨x.1>cap∨x.2>cap-x.1))))],K)) ?_ ?_
     .refine(O 6)<|Zd 25 (fun q1=>?_) fun q1=>?_
      .refine(O 20∘Cs 44 (.bool (decide ((x.1<at_∨x.2<1∨x.1>cap∨x.2>cap-x.1)))) (e:=by exact Av Value.bool (AL (.inl q1)).symm)∘Lm ()) ?_;trivial
      .refine(O 5)<|Zd 30 (fun q2=>?_) fun q2=>?_
       .refine(O 15∘Cs 44 (.bool (decide ((x.1<at_∨x.2<1∨x.1>cap∨x.2>cap-x.1)))) (e:=by exact Av Value.bool (AL (.inr (.inl q2))).symm)∘Lm ()) ?_;trivial
       .refine(O 6)<|Zd 36 (fun q3=>?_) fun q3=>?_
        .refine(O 9∘Cs 44 (.bool (decide ((x.1<at_∨x.2<1∨x.1>cap∨x.2>cap-x.1)))) (e:=by exact Av Value.bool (AL (.inr (.inr (.inl q3)))).symm)∘Lm ()) ?_;trivial
        .refine(O 9∘Cs 44 (.bool (decide ((x.1<at_∨x.2<1∨x.1>cap∨x.2>cap-x.1)))) (e:=by exact Av Value.bool (decide_eq_decide.2 X))∘Lm ()) ?_;trivial
     .rintro _ _;refine Zi (fun q=>?_) fun q=>?_
      .refine(O 4∘Br) ?_;rw[L (by rw[r];exact g.fail n q)];exact⟨Z,(C.trans N).trans x3⟩
      .have f:=g.snoc hc (x:=x) X X X X;have aj:=f.low;rw[<-D]at f;refine(O 14)<|Lb ((i+1),(x.1+x.2),K) ?_;exact⟨X,f,N.trans x3⟩
    .obtain rfl:i=Ajb a:=X;rw[DV]at g;refine(O 5∘Br) ?_;rw[P (g.done hc)];exact⟨Z,C.trans N⟩
end

section
attribute [local irreducible] OW KW QW EX GW NV
open Pth
def Dy(w:Ad):Prop:=∃m:H,w.cell? ⟨0,0,Aa⟩=J (U m)
def Dy.ext{w w':Ad}(h:Dy w)(hx:Bf w w'):Dy w':=by
 obtain⟨m,d⟩:=h;refine⟨m,?_⟩;have a:0<w.heap.size:=World.block_lt_of_cell? w _ d;have:=hx.block _ a;unfold World.cell? at d ⊢;grind
def Acw(s:Bh)(l:Ajb s<=2000000)(w:Ad)(k:Dy w):
 Bn prog 139 [Bl s,Bl [47]] w fun v w'=>∃b,v=.slice (J ⟨b,0,Aa⟩) (Ajb (BO s)) (Ajb (BO s))/\w.heap.size<=b/\Bk w' b 9 (De (BO s))/\Bf w w':=by
 have g:(!(f139.name== "runtime.NumGoroutine") && f139.body.isSome)=Af:=Be;obtain⟨m,i⟩:=k;have h:=Tryz.strings_Split ⟨s.toArray⟩ ⟨#[47]⟩ m w (by show Ajb s<_;omega) i (by show 1<=1;omega);have j:=Go.Lib.splitB_data ⟨#[47]⟩ 0 (Go.Lib.countB ⟨s.toArray⟩ ⟨#[47]⟩) ⟨s.toArray⟩;have d:(Go.Lib.splitB ⟨#[47]⟩ 0 (Go.Lib.countB ⟨s.toArray⟩ ⟨#[47]⟩) ⟨s.toArray⟩).map (·.data.toList)=BO s:=j.trans (aQ _ s Z);have a:=Av DZ d;rw[DF,Go.Lib.splitB_all ⟨#[47]⟩ (by show 1<=1;omega) 0 _ ⟨s.toArray⟩ Z]at a
 have f:(Go.Lib.splitB ⟨#[47]⟩ 0 (Go.Lib.countB ⟨s.toArray⟩ ⟨#[47]⟩) ⟨s.toArray⟩).map Value.string=De (BO s):=by
  rw[<-d,De,EO];rfl
 rw[f,a]at h;refine(Hc func139 g (h.mono (fun e w' q=>q))).mono ?_;rintro v w'⟨rfl,rfl⟩;exact⟨w.heap.size,Z,Bv _,Bk.new w _ _,Bf.alloc w _⟩
def ly(s:Bh)(a:Ajb s<=2000000)(w:Ad)(d:Dy w):
 Bn prog 102 [Bl s] w fun v w'=>∃b,v=.slice (J ⟨b,0,Aa⟩) (Ajb (BO s)) (Ajb (BO s))/\w.heap.size<=b/\Bk w' b 9 (De (BO s))/\Bf w w':=by
 refine Bw func102 Z ntmps102 (by rfl) Z ?_;refine(O 7∘Zc (Acw s a w d)) ?_;rintro _ e⟨b,rfl,f⟩;refine(O 2∘Br) ?_;grind
def Vk(s:Bh):Ajb (BO s)<=Ajb s+1:=by
 have a:=Wd (BO s);rwa[Tu]at a
def fw(x y:Bh)(w:Ad):Bn prog 103 [Bl x,Bl y] w fun v w'=>v=U (Go.Lib.compareBytes x y)/\w=w':=by
 have a:(!(f103.name== "runtime.NumGoroutine") && f103.body.isSome)=Af:=Be;refine(Hc func103 a ((Tryz.strings_Compare ⟨x.toArray⟩ ⟨y.toArray⟩ w).mono (fun e w' q=>q))).mono ?_;simp
def dE{P:AD}{f:FuncId}{args:Bm}{w:Ad}{v:Ah}(h:Bn P f args w fun v' w'=>v'=v/\w=w'):Xb P f args w v:=
 h.mono fun _ _⟨h1,h2⟩=>⟨h1,0,by subst h2;rfl⟩
def XE:∀(i:Y) (x y:Cn),(∀j,j<i->x[j]? =y[j]?)->i<=Ajb x->i<=Ajb y->DH x y=DH (x.drop i) (y.drop i)
 |0,x,y,_,_,_=>rfl
 |i+1,[],y,_,h,_=>by simp at h
 |i+1,x,[],_,_,h=>by simp at h
 |i+1,a::x,b::y,h,h1,h2=>by
  have h0:=h 0 X;simp only[List.getElem?_cons_zero,RZ.injEq]at h0;subst h0;rw[DH,Ai Z];simp only[TJ];exact XE i x y (fun j hj=>by grind) Bg Bg
def eY{x y:Cn}{i:Y}(d:∀j,j<i->x[j]? =y[j]?)(h1:i<Ajb x)(e:i<Ajb y)(a:x[i]≠y[i]):DH x y=Go.Lib.compareBytes x[i] y[i]:=by
 rw[XE i x y d X X,DE h1,DE e,DH,Ag a]
def eZ{x y:Cn}{i:Y}(g:∀j,j<i->x[j]? =y[j]?)(hi:i=min (Ajb x) (Ajb y)):DH x y=if Ajb x<Ajb y then -1 else if Ajb y<Ajb x then 1 else 0:=by
 rw[XE i x y g X X];rcases hx:x.drop i with _|⟨a,h⟩
 .rcases hy:y.drop i with _|⟨b,f⟩
  .have e:=Av DZ hx;have d:=Av DZ hy;simp only[CM,EZ]at e d;rw[Ag X,Ag X];rfl
  .have e:=Av DZ hx;have d:=Av DZ hy;simp only[CM,EZ,Cz]at e d;rw[Ai X];rfl
 .rcases hy:y.drop i with _|⟨b,f⟩
  .have e:=Av DZ hx;have d:=Av DZ hy;simp only[CM,EZ,Cz]at e d;rw[Ag X,Ai X];rfl
  .grind
def Abt{x y:Cn}{i:Y}(a:∀j,j<i->x[j]? =y[j]?)(h1:i<Ajb x)(e:i<Ajb y)(h:x[i]=y[i]):∀j,j<i+1->x[j]? =y[j]?:=fun j d=>by
 grind
def fk(a b:Bh)(ha:Ajb a<=2000000)(hb:Ajb b<=2000000)(w:Ad)(I:Dy w):
 Bn prog 73 [Bl a,Bl b] w fun v w'=>v=U (Gc a b)/\Bf w w':=by
 have S:=Vk a;have Q:=Vk b;refine Bw func73 Z ntmps73 Be Z ?_;refine(O 7∘Zc (ly a ha w I)) ?_;rintro _ P⟨ba,rfl,W,C,k⟩;refine(O 1∘Zc (ly b hb P (I.ext k))) ?_;rintro _ G⟨bb,rfl,V,o,h⟩;refine(O 14) ?_;have N:=k.trans h;have f:=C.ext h;unfold Gc;generalize hX:BO a=j0 at f S;generalize hY:BO b=k7 at o Q;refine Lo (fun((i,wr):Y×Ad)=>(i<=min (Ajb j0) (Ajb k7)/\(∀j,j<i->j0[j]? =k7[j]?)/\Bf G wr,[(5,.slice (J ⟨ba,0,Aa⟩) (Ajb j0) (Ajb j0)),(6,.slice (J ⟨bb,0,Aa⟩) (Ajb k7) (Ajb k7)),(16,U (((min (Ajb j0) (Ajb k7)):Y):H)),(17,U i)],wr,min (Ajb j0) (Ajb k7)-i)) (0,G) ?_ ?_
 .exact⟨X,fun j hj=>by omega,Bf.refl _⟩
 .rintro⟨i,wr⟩⟨p,t,e⟩;have q:=N.trans e;have n:=f.ext e;have m:=o.ext e;refine(O 5)<|Zi (fun x=>?_) fun x=>?_
  .have E:i<Ajb j0:=X;have D:i<Ajb k7:=X;have L:=Ts E;have K:=Ts D;refine(O 13∘Zq (by exact fun _=>Bp (n.drewN _) (hi:=L))∘O 3∘Zq (by exact fun _=>Bp (m.drewN _) (hi:=K))∘O 1∘QW.nil) fun g=>Zi (fun l=>?_) fun l=>?_
   .have y:=eY t E D l;have B:=n.drewN g;have A:=m.drewN g;refine(O 5∘Zq (by exact fun _=>Bp (B.drewN _) (hi:=L))∘O 3∘Zq (by exact fun _=>Bp (A.drewN _) (hi:=K))) ?_;refine QW.call Z Z Z (fun _=>dE (fw j0[i] k7[i] _))<|(O 1∘QW.nil) fun g=>(Br) ?_;rw[y];exact⟨Z,(q.trans (Bf.drewN _ _)).trans (Bf.drewN _ _)⟩
   .refine(O 6)<|Lb ((i+1),(wr.drewN g)) ?_;exact⟨X,Abt t E D Bg,e.trans (Bf.drewN wr g)⟩
  .have d:=eZ t X;refine(O 12)<|Zi (fun r=>?_) fun r=>?_
   .rw[Ai r]at d;refine(O 4∘Br) ?_;grind
   .rw[Ag r]at d;refine(O 9)<|Zi (fun T=>?_) fun T=>?_
    .rw[Ai X]at d;refine(O 4∘Br) ?_;rw[d];exact⟨Z,q⟩
    .rw[Ag X]at d;refine(O 6∘Br) ?_;rw[d];exact⟨Z,q⟩
def Acv(s:Bh)(k:Ajb s<=2000000)(w:Ad)(j:Dy w):
 Bn prog 139 [Bl s,Bl [47]] w fun v w'=>∃b,v=.slice (J ⟨b,0,Aa⟩) (Ajb (BO s)) (Ajb (BO s))/\w.heap.size<=b/\Bk w' b 9 (De (BO s))/\Gr w w':=by
 have f:(!(f139.name== "runtime.NumGoroutine") && f139.body.isSome)=Af:=Be;obtain⟨m,g⟩:=j;have h:=Tryz.strings_Split ⟨s.toArray⟩ ⟨#[47]⟩ m w (by show Ajb s<_;omega) g (by show 1<=1;omega);have i:=Go.Lib.splitB_data ⟨#[47]⟩ 0 (Go.Lib.countB ⟨s.toArray⟩ ⟨#[47]⟩) ⟨s.toArray⟩;have d:=i.trans (aQ _ s Z);have a:=Av DZ d;rw[DF,Go.Lib.splitB_all _ (by show 1<=1;omega) 0 _ _ Z]at a
 have e:(Go.Lib.splitB ⟨#[47]⟩ 0 (Go.Lib.countB ⟨s.toArray⟩ ⟨#[47]⟩) ⟨s.toArray⟩).map Value.string=De (BO s):=by
  rw[<-d,De,EO];rfl
 rw[e,a]at h;refine(Hc Bi f X).mono ?_;rintro v w'⟨rfl,rfl⟩;exact⟨_,Z,X,Bk.new w _ _,Gr.alloc w _⟩
def lx(s:Bh)(a:Ajb s<=2000000)(w:Ad)(d:Dy w):
 Bn prog 102 [Bl s] w fun v w'=>∃b,v=.slice (J ⟨b,0,Aa⟩) (Ajb (BO s)) (Ajb (BO s))/\w.heap.size<=b/\Bk w' b 9 (De (BO s))/\Gr w w':=by
 refine Bw Bi Z ntmps102 (by rfl) Z ?_;refine(O 7∘Zc (Acv s a w d)) ?_;rintro _ e⟨b,rfl,f⟩;refine(O 2∘Br) ?_;grind
def rY(a b:Bh)(V:Ajb a<=2000000)(T:Ajb b<=2000000)(w:Ad)(B:Dy w):
 Bn prog 73 [Bl a,Bl b] w fun v w'=>v=U (Gc a b)/\Gr w w':=by
 have K:=Vk a;have I:=Vk b;refine Bw Bi Z ntmps73 Be Z ?_;refine(O 7∘Zc (lx a V w B)) ?_;rintro _ w1⟨ba,rfl,P,t,k⟩;refine(O 1) ?_;have p:=k.1;refine(Zc (lx b T _ (B.ext p))) ?_;rintro _ x⟨bb,rfl,N,l,h⟩;refine(O 14) ?_;have o:=h.1;have E:=k.trans h;have f:=t.ext o;unfold Gc;generalize hX:BO a=j0 at f K;generalize hY:BO b=k7 at l I;refine Lo (fun((i,wr))=>(i<=min (Ajb j0) (Ajb k7)/\(∀j,j<i->j0[j]? =k7[j]?)/\Gr x wr,[(5,.slice (J ⟨ba,0,Aa⟩) (Ajb j0) (Ajb j0)),(6,.slice (J ⟨bb,0,Aa⟩) (Ajb k7) (Ajb k7)),(16,U (((min (Ajb j0) (Ajb k7)):Y))),(17,U i)],wr,min (Ajb j0) (Ajb k7)-i)) (0,x) ?_ ?_
 .exact⟨X,X,Gr.refl _⟩
 .rintro⟨i,wr⟩⟨m,A,e⟩;have n:=E.trans e;have S:=f.ext e.1;have Q:=l.ext e.1;refine(O 5)<|Zi (fun q=>?_) fun q=>?_
  .have h1:i<Ajb j0:=X;have W:i<Ajb k7:=X;have D:=Ts h1;have C:=Ts W;refine(O 13∘Zq (by exact fun _=>Bp Ce (hi:=D))∘O 3∘Zq (by exact fun _=>Bp Ce (hi:=C))∘O 1∘QW.nil) fun G=>Zi (fun g=>?_) fun g=>?_
   .have r:=eY A _ _ g;refine(O 5∘Zq (by exact fun _=>Bp Ce (hi:=D))∘O 3∘Zq (by exact fun _=>Bp Ce (hi:=C))) ?_;refine QW.call Z Z Z (fun _=>dE (fw _ _ _))<|(O 1∘QW.nil) fun G=>(Br) ?_;rw[r];exact⟨Z,(n.trans (Gr.drewN _ _)).trans (Gr.drewN _ _)⟩
   .refine(O 6)<|Lb ((i+1),(wr.drewN _)) ?_;exact⟨X,Bg,e.trans (Gr.drewN _ _)⟩
  .have d:=eZ A X;refine(O 12)<|Zi (fun y=>?_) fun y=>?_
   .refine(O 4∘Br) ?_;grind
   .rw[Ag y]at d;refine(O 9)<|Zi (fun L=>?_) fun L=>?_
    .rw[Ai X]at d;refine(O 4∘Br) ?_;rw[d];exact⟨Z,n⟩
    .rw[Ag X]at d;refine(O 6∘Br) ?_;rw[d];exact⟨Z,n⟩
end
section
attribute [local irreducible] OW KW QW EX GW NV
open Pth Rec Srt Cat
def JG(l:Ae M)(i:Y)(m:M):H:=match (l.take i).getLast? with|some p=>Gc p.path m.path|none=>-1
structure PreC(l:Ae M):Prop where
 may:∀m∈l,Ds m
 rises:Dg Mt l
def PreC.nil:PreC []:=⟨Bi,HE.nil⟩
def fj{l:Ae M}{i:Y}{m:M}(h0:0<i)(hi:i<=Ajb l):JG l i m=Gc (l[i-1]'X).path m.path:=by
 unfold JG;grind
def PreC.snoc{l:Ae M}{i:Y}(h:PreC (l.take i)){m:M}(hm:Ds m)(d:¬0<=JG l i m):PreC (l.take i++[m]):=by
 refine⟨fun x a=>?_,Aai h.rises fun p e=>?_⟩
 .rcases Dx.1 a with a|a
  .exact h.may x a
  .grind
 .unfold JG at d;rw[e]at d;simp only at d;have:=OH Mt p m;simp only[Cg,Mt]at this;omega
def xZ{l:Ae M}{cap:H}{i:Y}(hi:i<Ajb l)(h:¬Ds l[i]∨0<=JG l i l[i]):¬OkC l cap:=fun q=>by
 rcases h with h|h
 .exact h (q.may _ (BM hi))
 .rcases Jy i with a|a
  .subst a;simp[JG]at h
  .rw[fj a X]at h;have d:Cg Mt (l[i-1]'X) l[i]=-1:=Ik.1 q.rises (i-1) i X hi X;simp only[Cg,Mt]at d;omega
def eK{w w':Ad}(h:Bf w w'){a:AC}{u:Ah}(e:w.cell? a=J u):w'.cell? a=J u:=by
 have d:=World.block_lt_of_cell? w _ e;have:=h.block _ d;unfold World.cell? at e ⊢;grind
def Mm(l:Ae M):Ajb (BY l)=Ajb l:=by simp[BY]
def Uw(l:Ae M)(ao:∀m∈l,m.Ok)(hl:Ajb l<=140737488355328)(cap:H)(A:Aw AC)(c B:Y)(w:Ad)(hG:Dy w)(hs:Sl w B A (DK l)):
 Bn prog 43 [.slice A (Ajb l) c,U cap] w fun v w'=>v=U ((Kz l cap:Y):H)/\Bf w w':=by
 refine Bw func43 Z ntmps43 Be Z ?_;refine(O 11)<|Zi (fun ai=>?_) fun ai=>?_
 .refine(O 4∘Br) ?_;rw[OG (fun h=>by have:=h.len;omega)];exact⟨Z,Bf.refl _⟩
 .refine(O 13)<|Lo (fun((i,v,wr):Y×Ah×Ad)=>(i<=Ajb l/\PreC (l.take i)/\Bo wr w.heap.size 121 2 v i (Eg (BY (l.take i)))/\Bf w wr,[(0,.slice A (Ajb l) c),(1,U cap),(5,v),(11,.slice A (Ajb l) c),(12,U ((Ajb l:Y):H)),(13,U i)],wr,Ajb l-i)) (0,(.slice Aa 0 0),w) ?_ ?_
  .exact⟨BE _,PreC.nil,Bo.nil _ _ _ _,Bf.refl _⟩
  .rintro⟨i,v,wr⟩⟨hi,f,D,hx⟩;refine(O 5)<|Zi (fun t=>?_) fun t=>?_
   .obtain⟨b,o,rfl,_,E⟩:=(hs.ext hx).flat (i:=i) (c:=5) (fun _=>rfl) Bc t;have N:l.take (i+1)=l.take i++[l[i]]:=(CS t).symm;have I:=xZ (cap:=cap) t;have af:=ao l[i] (BM t);have y:∀h:0<i,JG l i l[i]=Gc (l[i-1]'X).path (l[i]).path:=fun h=>fj h hi;have x:i=0->JG l i l[i]=-1:=fun h=>by subst h;rfl
    have al:∀h:0<i,Ds (l[i-1]'X):=fun h=>f.may _ (List.mem_take_iff_getElem.2 ⟨i-1,X,Z⟩)
    have a1:∀h:0<i,∀j u,(l[i-1]'X).cells[j]? =J u->wr.cell? ⟨b,o+(i-1)*5+j,Aa⟩=J u:=fun h=>by
     obtain⟨b2,o2,e2,_,h2⟩:=(hs.ext hx).flat (i:=i-1) (c:=5) (fun _=>rfl) Bc X;grind
    generalize a5:l[i]=m at E N I af y x;refine(O 7∘Zv (Dr m.cells E)∘Zn) ?_;rintro mb w2 a3 a2 W;refine(O 1∘Zs a2 (hlt:=Bv _)) ?_;rintro G g a0;refine(O 3) ?_;replace g:Bk G mb 60 m.cells:=g;have x3:Bf wr G:=Bu W a0 W.size (fun k hk=>by grind);have S:=hx.trans x3;have ck:=fun w=>Xv m af w;refine Lc (fun(K:Ad)=>(Bf G K,[(0,.slice (J ⟨b,o,Aa⟩) (Ajb l) c),(1,U cap),(5,v),(7,.pointer (J ⟨mb,0,Aa⟩)),(11,.slice (J ⟨b,o,Aa⟩) (Ajb l) c),(12,U ((Ajb l:Y):H)),(13,U i),(36,.bool (decide ((¬Ds m∨0<=JG l i m))))],K)) ?_ ?_
    .skip
     rcases Decidable.em (Ds m)with hm|hm
     .have e0:Mf m=0:=(eO m).2 hm;have a4:=(JO hm).1;rw[e0]at ck;rcases Jy i with h0|h0
      .refine(Yr 19 (fun w'=>Bf G w') (Bf.drew G)) fun r=>(Yw 0 (he:=by exact fun _ d=>BW (g.ext d))∘Yc 1 (ck _)) ?_;rintro _ K⟨rfl,a⟩;refine⟨r.trans a,fun r=>?_⟩;refine(Gv [2,3]∘Nl 21∘Gv [4,5,6]∘Nl 24∘Gv [7,8,9,10,11,12,13,14,15,16,17,18]∘Yd∘Cs 36 (.bool (decide ((¬Ds m∨0<=JG l i m)))) (e:=by exact Av Value.bool (AN (fun q=>q.elim (fun z=>z hm) (fun z=>by have:=x h0;omega))).symm)∘Lm K) ?_;exact r
      .have e1:=y h0;have e2:(l[i-1]'X).path.length<=120:=(JO (al h0)).1;have e3:=a1 h0;generalize(l[i-1]'X)=p at e1 e2 e3;have cc:=fun w hG=>fk p.path m.path X X w hG;rw[<-e1]at cc;refine(Yr 19 (fun w'=>Bf G w') (Bf.drew G)) fun r=>(Yw 0 (he:=by exact fun _ d=>BW (g.ext d))∘Yc 1 (ck _)) ?_;rintro _ K⟨rfl,a⟩;refine⟨r.trans a,fun r=>?_⟩;refine(Gv [2,3]∘Nl 21∘Gv [4,5,6]∘Zga 24∘Gv [7,8,9,10,11]∘Yw 12 (he:=by exact fun _ d=>Ca (eK (x3.trans d) (e3 0 _ Z)))∘Gv [13]∘Yw 14 (he:=by exact fun _ d=>Bp (g.ext d))∘Yc 15 (cc _ ((hG.ext S).ext r))) ?_;rintro _ wp⟨rfl,aj⟩;refine⟨r.trans aj,fun r=>?_⟩;refine(Gv [16,17,18]∘Yd∘Cs 36 (.bool (decide ((¬Ds m∨0<=JG l i m)))) (e:=by exact Av Value.bool (decide_eq_decide.2 ⟨fun h=>.inr h,fun h=>h.elim (fun q=>absurd hm q) id⟩))∘Lm wp) ?_;exact r
     .have e0:Mf m≠0:=fun q=>hm ((eO m).1 q);refine(Yr 19 (fun w'=>Bf G w') (Bf.drew G)) fun r=>(Yw 0 (he:=by exact fun _ d=>BW (g.ext d))∘Yc 1 (ck _)) ?_;rintro _ K⟨rfl,a⟩;refine⟨r.trans a,fun r=>?_⟩;refine(Gv [2,3]∘Zga 21 (e:=by exact fun h=>e0 h)∘Gv [4,5,6,7,8,9,10,11,12,13,14,15,16,17,18]∘Yd∘Cs 36 (.bool (decide ((¬Ds m∨0<=JG l i m)))) (e:=by exact Av Value.bool (AL (.inl hm)).symm)∘Lm K) ?_;exact r
    .rintro K a;have xq:=S.trans a;have a7:=g.ext a;have P:=(D.ext x3).ext a;refine Zi (fun n=>?_) fun n=>?_
     .refine(O 4∘Br) ?_;rw[OG (I n)];grind
     .have C:=f.snoc (m:=m) (Decidable.of_not_not fun q=>n (.inl q)) (fun q=>n (.inr q));rw[<-N]at C;refine(O 8∘Kx xq P) ?_;rintro _ v4 w4 Q x4 a6;refine(O 7)<|Lb ((i+1),v4,w4) ?_;refine⟨X,C,?_,x4⟩;rw[N,show BY (l.take i++[m])=BY (l.take i)++[(m.start,m.sectors)] by simp[BY],PJ];exact Q
   .obtain rfl:i=Ajb l:=X;rw[DV]at f D;obtain⟨A4,c4,rfl,_,ab⟩:=D.slice;have cs:=Th (BY l) (by rw[Mm];omega) cap A4 c4 _ wr ab;rw[Mm]at cs;refine(O 6∘Zc cs) ?_;rintro _ w5⟨rfl,V⟩;refine(O 2)<|Zi (fun L=>?_) fun L=>?_
    .have I:¬OkX (BY l) cap:=fun q=>L (by unfold Jg;grind);refine(O 4∘Br) ?_;rw[OG (fun h=>I h.ext)];exact⟨Z,hx.trans V⟩
    .have T:OkX (BY l) cap:=Decidable.byContradiction fun q=>L (by unfold Jg;grind);refine(O 5∘Br) ?_;rw[Si ⟨X,f.may,f.rises,T⟩];exact⟨Z,hx.trans V⟩
end
section
attribute [local irreducible] OW KW QW EX GW NV
open Fld Ust Pax Pth Tar
def zA(s p:Bh)(w:Ad):Bn prog 93 [Bl s,Bl p] w fun v w'=>v=.bool (p.isPrefixOf s)/\w'=w:=
 Hc func93 (by rfl) (Tryz.strings_HasPrefix ⟨⟨s⟩⟩ ⟨⟨p⟩⟩ w)
def tT{x:En}(hx:Fits x):(Cl x=CY (CL x.path 48 (Ajb x.data))++Ir (Bz.packS x.data (Da x.data))/\Tar.Good x.path 48 (Ajb x.data))∨
 (Cl x=FW Hk 120 (Du ⟨Em,x.path⟩)++(CY (CL (x.path.take 100) 48 (Ajb x.data))++Ir (Bz.packS x.data (Da x.data)))/\Tar.Good (x.path.take 100) 48 (Ajb x.data)):=by
 have a:Ajb x.data<=262144:=by have:=hx.data;omega
 unfold Cl Lx;split
 .rename_i q;exact .inl ⟨Z,YJ hx.path a q⟩
 .exact .inr ⟨Bi,YI hx.path a⟩
def Acy(x:En)(hx:Fits x)(suf:Bh)(hs:Ajb (Cl x++suf)<=1000000000)(w:Ad)(hG:Env w):
 Bn prog 61 [Bl (Cl x++suf)] w fun v w'=>v=.tuple #[.agg x.cells.toArray,U ((Ajb (Cl x):Y):H),U ((0:Y):H)]/\Bf w w':=by
 obtain⟨_,bs,d,hz⟩:=Qv hx.path;have bx:=hx.data;have Q:=jW hx;have a8:=JN hx;have K:=tT hx
 have j:(Cl x).isPrefixOf (Cl x++suf)=Af:=by
  rw[List.isPrefixOf_iff_prefix];exact List.prefix_append _ _
 have L:Ajb (Cl x++suf)=Ajb (Cl x)+Ajb suf:=BA;obtain⟨s,hse⟩:∃s,s=Cl x++suf:=⟨_,Z⟩;obtain⟨E,hE⟩:∃E,E=Cl x:=⟨_,Z⟩;rw[<-hse]at hs j L;rw[<-hse];rw[<-hE]at Q a8 K j L hse;rw[<-hE];obtain⟨q,hq⟩:∃q,q=Ir (Bz.packS x.data (Da x.data))++suf:=⟨_,Z⟩;have a1:=lY d;have P:=lz d;have cH:=fun k hk w=>nh s k hk X w;refine Bw func61 Z ntmps61 Be Z ?_;refine(O 2∘Zn) ?_;rintro tb w1 bm I f;refine(O 12∘Zc (cH 120 Bc w1)) ?_;rintro _ w2⟨rfl,t⟩;refine(O 3∘Zn) ?_;rintro xb w3 bl bc p;refine(Zs bc (hlt:=Bv _)) ?_;rintro m l S;refine(O 6) ?_;replace l:Bk m xb 167 (Ly s 120).1.cells:=l;have z1:=f.size;have z2:=t.size;have z3:=p.size;have z4:=S.size;have bn:=I.lt;have A:Bf w1 m:=Bu (t.trans p) S (t.trans p).size Bx
 have a3:s=CY (CL x.path 48 (Ajb x.data))++q/\Tar.Good x.path 48 (Ajb x.data)∨s=FW Hk 120 (Du ⟨Em,x.path⟩)++(CY (CL (x.path.take 100) 48 (Ajb x.data))++q)/\Tar.Good (x.path.take 100) 48 (Ajb x.data):=by
  rcases K with⟨e,g⟩|⟨e,g⟩
  .grind
  .grind
 refine Lc (fun((at_,a,wr):Y×(Bh)×Ad)=>((at_=0/\a=[]/\s=CY (CL x.path 48 (Ajb x.data))++q/\Tar.Good x.path 48 (Ajb x.data)∨at_=1024/\a=x.path/\s=FW Hk 120 (Du ⟨Em,x.path⟩)++(CY (CL (x.path.take 100) 48 (Ajb x.data))++q)/\Tar.Good (x.path.take 100) 48 (Ajb x.data))/\Bf w1 wr,[(0,Bl (s)),(2,.pointer (J ⟨tb,0,Aa⟩)),(5,U at_),(6,Bl (a))],wr)) ?_ ?_
 .have a2:=a3;rcases a2 with⟨e,g⟩|⟨e,g⟩
  .have T:Ly s 120=(CL x.path 48 (Ajb x.data),Aj):=by
    rw[e,YR g];rfl
   rw[T];refine(O 2∘Lm (0,([]),m)) ?_;grind
  .obtain⟨R,hR⟩:∃R,R=Du ⟨Em,x.path⟩:=⟨_,Z⟩;rw[<-hR]at a1 P;have e0:=e;rw[<-hR]at e;have gp:Tar.Good Hk 120 (Ajb R):=YK X
   have T:Ly s 120=(CL Hk 120 (Ajb R),Af):=by
    have:FW Hk 120 R=CY (CL Hk 120 (Ajb R))++(R++Cu (Gn (Ajb R)-Ajb R)):=by unfold FW;rw[Cx]
    rw[e,this,Cx,YR gp];rfl
   have bh:(s.drop 512).take (Ajb R)=R:=by
    have:FW Hk 120 R=CY (CL Hk 120 (Ajb R))++(R++Cu (Gn (Ajb R)-Ajb R)):=by unfold FW;rw[Cx]
    rw[e,this,Cx,RN gp.len,Cx,Hr Z]
   have bq:1024+512<=Ajb s:=by
    rw[e,BA,BA,P,g.len];omega
   have V:GM R=([⟨Em,x.path⟩],0):=by rw[hR];exact yV d
   rw[T]at l ⊢;replace l:Bk m xb 167 (CL Hk 120 (Ajb R)).cells:=l;refine(O 8∘IQ 26∘O 5∘IQ 31∘O 8∘Cb 38∘O 8∘Zv (by exact Ol (i:=512) underlying9 Z Z Z X)) ?_;have bf:(s.drop 512).take (512+Ajb R-512)=R:=by rw[Kr];exact bh
   have cp:Bn prog 91 [Bl ((s.drop 512).take (512+Ajb R-512))] m fun v w'=>∃u,v=.tuple #[u,U ((0:Y):H)]/\Bo w' m.heap.size 174 2 u 1 (MA [⟨Em,x.path⟩])/\Bf m w':=by
    have h:=yY R X m (hG.ext (f.trans A));rw[V]at h;rw[bf];exact h
   refine(Zc cp) ?_;rintro _ w5⟨u,rfl,B,al⟩;refine(O 8) ?_;obtain⟨A5,c5,rfl,_,ai⟩:=B.slice;obtain⟨b5,o5,rfl,_,ba⟩:=ai.at_ (Nat.succ_pos _);refine(O 4∘IQ 51∘O 5∘Cb 55∘O 6∘Zq (by exact fun _=>Ca (eK (Bf.drewN w5 _) (ba 1 _ Z)))∘O 2∘QW.nil) fun nq=>(Lm (1024,x.path,(w5.drewN nq))) ?_;exact⟨.inr ⟨Z,Z,e0,g⟩,(A.trans al).trans (Bf.drewN w5 nq)⟩
 .rintro⟨at_,a,wr⟩⟨y,xr⟩
  obtain⟨g0,hg0⟩:∃p' pre,Ajb pre=at_/\s=pre++(CY (CL p' 48 (Ajb x.data))++q)/\Tar.Good p' 48 (Ajb x.data)/\(a=[]/\p'=x.path∨a=x.path)/\at_<=1024:=by
   rcases y with⟨rfl,h,e,g⟩|⟨rfl,h,e,g⟩
   .simp_all
   .grind
  obtain⟨pre,N,e,g,a4,b0⟩:=hg0;have a7:=g.len;have bi:at_+512<=Ajb s:=by rw[e,BA,BA];omega
  have a9:s.drop at_=CY (CL g0 48 (Ajb x.data))++q:=by rw[e,<-N];exact RN Z
  have T:Ly (s.drop at_) 48=(CL g0 48 (Ajb x.data),Af):=by rw[a9,YR g];rfl
  have c2:=nh (s.drop at_) 48 Bc Bg wr;rw[T]at c2;refine(O 4∘Zv (by exact MW underlying9 Z Z X)∘Zc c2) ?_;rintro _ w6⟨rfl,o⟩;refine(O 3∘Zn) ?_;rintro hb w7 bj bb C;refine(Zs bb (hlt:=Bv _)) ?_;rintro w8 W a6;refine(O 8) ?_;replace W:Bk w8 hb 167 (CL g0 48 (Ajb x.data)).cells:=W;refine(O 6∘Zv (by exact HC (r:=[]) Z Z)∘O 1)<|Lc (fun(p2:(Bh))=>(p2=x.path,[(0,Bl (s)),(2,.pointer (J ⟨tb,0,Aa⟩)),(5,U at_),(6,Bl (p2))],w8)) ?_ ?_
  .refine Zi (fun hp=>?_) fun hp=>?_
   .refine(O 5∘Lm g0) ?_;grind
   .refine(O 1∘Lm a) ?_;grind
  .rintro _ rfl
   have ao:Bz.takeS s (at_+512)=J (x.data,at_+512+Ajb (Bz.packS x.data (Da x.data))):=by
    have h:=Aeg (pre:=pre++CY (CL g0 48 (Ajb x.data))) (suf:=Cu (Gn (Ajb (Bz.packS x.data (Da x.data)))-Ajb (Bz.packS x.data (Da x.data)))++suf) (s:=x.data) hx.data
    have e2:pre++CY (CL g0 48 (Ajb x.data))++Bz.packS x.data (Da x.data)++(Cu (Gn (Ajb (Bz.packS x.data (Da x.data)))-Ajb (Bz.packS x.data (Da x.data)))++suf)=s:=by
     rw[e,hq];unfold Ir;simp only[Cx]
    have e3:Ajb (pre++CY (CL g0 48 (Ajb x.data)))=at_+512:=by rw[BA,a7,N]
    rw[e2,e3]at h;exact h
   refine(O 5∘Zc (Aeb s (at_+512) hs _ ao w8)) ?_;rintro _ w9⟨rfl,aj⟩;refine(O 14∘Cb 84∘O 6) ?_;have x8:Bf w1 w8:=xr.trans (Bu (o.trans C) a6 (o.trans C).size (by simp;have:=o.size;omega));have x9:=x8.trans aj;have cm:=nc x X X w9 (hG.ext (f.trans x9));rw[Q]at cm;simp only at cm;refine(Zc cm) ?_;rintro _ af⟨rfl,D⟩;refine(O 12∘IQ 94∘O 2) ?_;have ab:=zA s E af;rw[j]at ab;refine(Zc ab) ?_;rintro _ _⟨rfl,rfl⟩;refine(O 12) ?_;have n:=x9.trans D;have G:=I.ext n;refine(Zs G (hlt:=Bv _)) ?_;rintro wa a0 a5;refine(O 3) ?_;refine Gh<|NI Z underlying64 Z Hn Z Z Z (a0) Z ?_;exact⟨Z,Bu (f.trans n) a5 (f.trans n).size Bx⟩
end
section
open Cat
def Lv:H->Ae Xt->H
 |a,[]=>a
 |_,x::r=>Lv (x.1+x.2) r
def FJ:H->Ae Xt->Ae Xt
 |_,[]=>[]
 |a,x::r=>(if a<x.1 then[(a,x.1-a)]else[])++FJ (x.1+x.2) r
def Yb(x:Xt):∀(l:Ae Xt) (a:H),Lv a (l++[x])=x.1+x.2
 |[],_=>rfl
 |_::l,_=>Yb x l _
def ja(x:Xt):∀(l:Ae Xt) (a:H),FJ a (l++[x])=FJ a l++(if Lv a l<x.1 then[(Lv a l,x.1-Lv a l)]else[])
 |[],a=>List.append_nil _
 |y::l,a=>by
  show _++FJ _ (l++[x])=(_++FJ _ l)++_;rw[ja,Cx];rfl
def UO:∀(l:Ae Xt) (a:H),Ajb (FJ a l)<=Ajb l
 |[],_=>Bv _
 |x::l,a=>by
  have:=UO l (x.1+x.2);unfold FJ;grind
structure RowX(a C:H)(l:Ae Xt):Prop where
 low:∀x∈l,a<=x.1
 high:∀x∈l,x.1+x.2<=C
 one:∀x∈l,1<=x.2
 chain:l.Pairwise fun x y=>x.1+x.2<=y.1
def RowX.tail{a C:H}{x:Xt}{l:Ae Xt}(h:RowX a C (x::l)):RowX (x.1+x.2) C l:=
 ⟨fun y hy=>(Ij.1 h.chain).1 y hy,fun y hy=>h.high y Bg,fun y hy=>h.one y Bg,(Ij.1 h.chain).2⟩
def Js(a C n:H)(l:Ae Xt)(s:H):Prop:=a<=s/\s+n<=C/\∀x∈l,apart x (s,n)
def gG{C n:H}(i:1<=n):∀(l:Ae Xt) (a:H),a<=C->RowX a C l->(∀g,(FJ a (l++[(C,0)])).find? (fun g=>decide (n<=g.2))=J g->Js a C n l g.1/\∀s,Js a C n l s->g.1<=s)/\
 ((FJ a (l++[(C,0)])).find? (fun g=>decide (n<=g.2))=Aa->∀s,¬Js a C n l s)
 |[],a,ha,h=>by
  have e:FJ a ([]++[(C,0)])=if a<C then[(a,C-a)]else[]:=List.append_nil _;rw[e];split
  .rename_i q;rw[List.find?_cons];split
   .rename_i q2;rw[decide_eq_true_eq]at q2
    exact⟨fun g hg=>by
     injection hg with hg;subst hg;exact⟨⟨X,X,Bi⟩,fun s hs=>hs.1⟩,Bi⟩
   .rename_i q2;have q2:¬n<=C-a:=Bg;exact⟨Bi,fun _ s hs=>by have:=hs.1;have:=hs.2.1;omega⟩
  .rename_i q;exact⟨Bi,fun _ s hs=>by have:=hs.1;have:=hs.2.1;omega⟩
 |x::l,a,ha,h=>by
  have h1:=h.low x Bi;have h2:=h.high x Bi;have h3:=h.one x Bi;have ht:=h.tail;obtain⟨i1,i2⟩:=gG i l (x.1+x.2) h2 ht
  have up:∀s,Js (x.1+x.2) C n l s->Js a C n (x::l) s:=fun s hs=>⟨by have:=hs.1;omega,hs.2.1,fun y d=>by
   rcases List.mem_cons.1 d with rfl|d
   .exact .inl hs.1
   .exact hs.2.2 y d⟩
  have f:∀s,Js a C n (x::l) s->(¬n<=x.1-a)->Js _ C n l s:=fun s hs j=>⟨by
   rcases hs.2.2 x Bi with q|q
   .omega
   .have:=hs.1;omega,hs.2.1,fun y d=>hs.2.2 y Bg⟩
  have e:FJ a (x::l++[(C,0)])=(if a<x.1 then[(a,x.1-a)]else[])++FJ _ (l++[(C,0)]):=rfl;rw[e];split
  .rename_i q;rw[RU,List.find?_cons];split
   .rename_i q2;have q2:n<=x.1-a:=Bg
    exact⟨fun g hg=>by
     injection hg with hg;subst hg;refine⟨⟨X,X,fun y d=>.inr ?_⟩,fun s hs=>hs.1⟩;rcases List.mem_cons.1 d with rfl|d
     .omega
     .have:=(Ij.1 h.chain).1 y d;omega,Bi⟩
   .grind
  .grind
def IJ(l:Ae Xt)(cap n s:H):Prop:=Js 30 (max cap 30) n l s/\∀s',Js 30 (max cap 30) n l s'->s<=s'
def IJ.ok{l:Ae Xt}{cap n s:H}(e:1<=n)(h:IJ l cap n s)(a:OkX l cap):OkX (l++[(s,n)]) cap:=by
 obtain⟨⟨f,j,i⟩,_⟩:=h;refine⟨a.room,fun x d=>?_,Nb.2 ⟨a.far,Bi,fun x d y g=>?_⟩⟩
 .rcases Dx.1 d with q|q
  .exact a.fit x q
  .rw[CF.1 q];exact⟨f,e,X,X⟩
 .grind
def Js.perm{a C n s:H}{l l':Ae Xt}(hp:l'.Perm l):Js a C n l' s↔Js a C n l s:=
 ⟨fun h=>⟨h.1,h.2.1,fun x hx=>h.2.2 x Bg⟩,fun h=>⟨h.1,h.2.1,fun x hx=>h.2.2 x Bg⟩⟩
def Aba{l:Ae Xt}{cap:H}(d:OkX l cap)(f:∀i j (hi:i<Ajb l) (hj:j<Ajb l),i<j->¬HQ l[j] l[i]<0):RowX 30 (max cap 30) l:=by
 refine⟨fun x a=>(d.fit x a).1,fun x a=>by have:=d.fit x a;unfold HS at this;omega,fun x a=>(d.fit x a).2.1,Ik.2 fun i j hi hj e=>?_⟩;have g:=f i j hi hj e;rw[Sh]at g;have h:=(d.fit l[j] Bi).2.1;rcases Ik.1 d.far i j _ _ e with q|q
 .omega
 .omega
def JK(l:Ae Xt):H:=l.foldl (fun a x=>max a (x.1+x.2)) 30
def tP(l:Ae Xt)(x:Xt):JK (l++[x])=max (JK l) (x.1+x.2):=by unfold JK;simp
def Yf(l:Ae Xt):30<=JK l/\∀x∈l,x.1+x.2<=JK l:=by
 have h:∀(l:Ae Xt) (a:H),a<=l.foldl (fun a x=>max a (x.1+x.2)) a/\∀x∈l,x.1+x.2<=l.foldl (fun a x=>max a (x.1+x.2)) a:=fun l=>by
  induction l with
  |nil=>simp
  |cons y l ih=>
   intro a;obtain⟨e,d⟩:=ih (max a (y.1+y.2));grind
 exact h l 30
def gu{l:Ae Xt}{C:H}(d:30<=C)(h:∀x∈l,x.1+x.2<=C):JK l<=C:=by
 have h:∀(l:Ae Xt) (a:H),a<=C->(∀x∈l,x.1+x.2<=C)->l.foldl (fun a x=>max a (x.1+x.2)) a<=C:=fun l=>by
  induction l with
  |nil=>simp
  |cons y l ih=>
   grind
 exact h l 30 d ‹_›
end
end Go.Proofs.YtkmlafmjaeeanaaGreatDoor
