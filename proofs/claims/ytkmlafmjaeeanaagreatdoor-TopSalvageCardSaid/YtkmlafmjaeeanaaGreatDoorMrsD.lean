/- TopSalvage, part D: functions of groups, blocks and streams, records and headers; the catalog. -/
import Derived.Test.YtkmlafmjaeeanaaGreatDoorMrsC
set_option linter.all false
set_option maxHeartbeats 2000000
set_option maxRecDepth 20000
open Go Go.RowKit Go.Proofs.Tryz
open _root_ renaming rfl→Z,Nat→Y,Int→H,List→Ae,if_neg→Ag,if_pos→Aj,Array→Ap,Bool→Ar,Option→Av,trivial→Ay,congrArg→AF,absurd→AH,UInt8→AI,String→AJ,decide_eq_true→AM,decide_eq_false→AN,of_decide_eq_true→AO,dif_pos→AQ,of_decide_eq_false→AR
open _root_.And renaming intro→Il
open _root_.Array renaming replicate→Jv
open _root_.Bool renaming true→Af,false→Ai
open _root_.Go renaming World→Ad,Value→Ah,TypeId→Aw,Addr→AB,Program→AC,Operand→AD,Act→AE,Oper→AG,IntKind→AK,Code→AL,Exit→AP
open _root_.List renaming range→BE,replicate→BH,length→DQ,Pairwise→HK,toArray→LZ,length→Alz
open _root_.Nat renaming blt→BK,beq→JE,reducePow→Xe
open _root_.Option renaming some→Qf,some→J,none→Aa
open _root_.UInt8 renaming ofNat→BV
open Go.Proofs.Tryz renaming prog→eD
open _root_.Go.Value renaming ownBlock→Pi
namespace Go.Proofs.YtkmlafmjaeeanaaGreatDoor
attribute [local irreducible] OW KW QW GW NV
section
attribute [local irreducible] EX
open Bz
def Jw.two{w:Ad}{e n m:Y}{d:Bl}{p:Pl}(h:Jw w e n m d p):∃a b,d=[a,b]/\a.oneCell'=Af/\b.oneCell'=Af:=by
 obtain⟨i,g,A1,k,A2,j,f,rfl,_⟩:=h.now;exact⟨_,_,Z,Z,Z⟩
def nQ{p:Pl}{n:Y}(e:p.q n){l:Bj}(g:Alz l<=1638350)(a:grpN (Alz l)<=Alz p.C)(d:∀x∈l,x<n):Dk p l<=100000000:=by
 have h:=Vw p e;have f:=QU p e l a d (Alz l) (Bq _);rw[DY]at f;unfold Dk;omega
def nR(n:Y)(l:Bj)(d:Alz l<=1638350)(a:∀x∈l,x<n)(e:Bl)(A:Av AB)(c f:Y)(w:Ad)(p:Pl)(h:Jw w f n (grpN (Alz l)) e p)(g:Sl w w.heap.size A (BD .i64 l)):
 Bm eD 232 [.agg e.toArray,.slice A (Alz l) c] w fun v w'=>v=.tuple #[Bb ((Dk p l:Y):H),Bb ((0:Y):H)]/\Be w w':=by
 obtain⟨k,j,i⟩:=h.now;exact Agf p n k l d (Oq j.symm) a _ e A c w i g (Bq _)
def Pm(l:Bj)(n:Y):Pl:=if Dk (OL l n) l<Dk (Kz l n) l then OL l n else Kz l n
def sB(l:Bj)(n:Y)(hn:3<=n/\n<=258)(h1:1<=Alz l)(h2:Alz l<=1638350)(e:∀x∈l,x<n)(A:Av AB)(c C:Y)(G:Alz l<=c)(w:Ad)(L:C<=w.heap.size)(P:Sl w C A (BD .i64 l)):
 Bm eD 177 [.slice A (Alz l) c,Bb (n:H)] w fun v w'=>(∃cs,v=.tuple #[.agg (LZ cs),Bb ((0:Y):H)]/\Jw w' w.heap.size n (grpN (Alz l)) cs (Pm l n))/\Be w w':=by
 refine Bw func177 Z ntmps177 (by rfl) Z ?_;refine(O 2∘Zn) ?_;rintro ob w1 a5 q f;refine(O 6) ?_;have W:=f.size;refine(Zc (tj l n hn h1 h2 e A c C G w1 X (P.a f))) ?_;rintro _ w2⟨⟨cs,rfl,i⟩,ai⟩;refine(O 3) ?_;obtain⟨ca,cb,rfl,oa,a7⟩:=i.two;refine(Zn) ?_;rintro ab w3 a4 a2 D;refine(Zs a2) ?_;rintro T y al;refine(O 8) ?_;replace y:Bk T ab 260 [ca,cb]:=y;have o:Be w2 T:=Bp D al D.size Bv;have k:=ai.trans o;refine(Ci 21∘O 6∘Zc (xy l n hn h1 h2 e A c C T (P.a (f.trans k)))) ?_;rintro _ w5⟨⟨ba,rfl,h⟩,af⟩;refine(O 3) ?_;obtain⟨da,db,rfl,od,a6⟩:=h.two;refine(Zn) ?_;rintro bb w6 a3 a0 B;refine(Zs a0) ?_;rintro S t aj;refine(O 4) ?_;replace t:Bk S bb 260 [da,db]:=t;have m:Be w5 S:=Bp B aj B.size Bv;have j:=af.trans m;have x17:=k.trans j;have x7:=f.trans x17;have K:=y.a j;refine(Zv (BX K)∘O 1∘Zc (nR n l h2 e _ A c _ S _ (i.a (o.trans j)) ((P.a x7).l (BA L x7.size)))) ?_;rintro _ w8⟨rfl,a⟩;refine(O 8) ?_;have k2:=nQ i.1 h2 (Oq i.2.1.symm) e;have k1:=nQ h.1 h2 (Oq h.2.1.symm) e;have Q:=x7.trans a;have I:=t.a a;refine(Zv (BX I)∘O 1∘Zc (nR n l h2 e _ A c _ w8 _ (h.a (m.trans a)) ((P.a Q).l (BA L Q.size)))) ?_;rintro _ w9⟨rfl,d⟩;refine(O 13) ?_;unfold Pm;generalize a9:Dk (Kz l n) l=za at k2;generalize a8:Dk (OL l n) l=zb at k1;have N:=Q.trans d;have E:=q.a ((x17.trans a).trans d);refine Zi (fun r=>?_) fun r=>?_
 .have ao:=I.a d;refine(O 2∘Zv (BX ao)∘Zs E) ?_;rintro wa p g;refine(O 2∘Dx p) ?_;have V:=(f.trans k).size;rw[Aj r];exact⟨⟨_,Z,((h.a ((m.trans a).trans d)).j g (by have:=q.lt;have:=k.size;omega)).G V⟩,Bp N g N.size Bv⟩
 .have a1:=(K.a a).a d;refine(O 3∘Zv (BX a1)∘Zs E) ?_;rintro wa p g;refine(O 2∘Dx p) ?_;rw[Ag r];exact⟨⟨_,Z,((i.a (((o.trans j).trans a).trans d)).j g q.lt).G W⟩,Bp N g N.size Bv⟩
def bV:∀(gl row:Bj),Alz (Kc row gl)=Alz row
 |[],row=>rfl
 |y::gl,row=>by
  show Alz (Kc (row.set y _) gl)=_;rw[bV gl,Hg]
def py:∀(gl row:Bj) (c:Y),Up c row->Up (c+Alz gl) (Kc row gl)
 |[],row,c,h=>h
 |y::gl,row,c,h=>by
  have e:c+Alz (y::gl)=(c+1)+Alz gl:=by rw[CF];omega
  rw[e];refine py gl (row.set y (row.getD y 0+1)) (c+1) (Up.set (fun x a=>Uf (h x a)) ?_);rw[Cd];rcases q:row[y]? with _|z
  .simp
  .exact Nat.succ_le_succ (h z (List.mem_of_getElem? q))
def pz(a:Ae (Bj))(l:Bj)(n d t:Y):∀k,Alz (wK a l n d k t)=n/\Up (50*k) (wK a l n d k t)
 |0=>⟨Cn,fun x hx=>by rw[dH hx];simp⟩
 |k+1=>by
  obtain⟨h1,h2⟩:=pz a l n d t k;have hg:Alz (Ez l k)<=50:=by unfold Ez;rw[BW];omega
  rw[wK];split
  .exact⟨by rw[bV];omega,fun x hx=>BA (py _ _ _ h2 x hx) X⟩
  .exact⟨h1,fun x hx=>BA (h2 x hx) X⟩
def eL(tabs:Ae (Bj))(gl:Bj):∀t,JJ tabs gl (t+1)<t+1
 |0=>by rw[eM];simp
 |t+1=>by
  rw[eO];split
  .simp
  .exact Nat.lt_succ_of_lt (eL tabs gl t)
def ti{l:Bj}{n:Y}(h:3<=n/\n<=258)(h1:1<=Alz l)(h2:grpN (Alz l)<=32767):(Kz l n).q n/\(Kz l n).C.length=grpN (Alz l):=by
 obtain⟨q,p⟩:=kD (Alz l);have r:=UY h1;have g:(Kz l n).C.length=grpN (Alz l):=by unfold Kz QR;rw[Dl,Hf]
 have f:(Kz l n).v.length=Gs (Alz l):=oF _ _ _ _ _
 have mem:∀t∈(Kz l n).v,Alz t=n/\LOk t:=fun t a=>by
  obtain⟨i,_,rfl⟩:=Cr.1 a;obtain⟨o,d⟩:=pz (Eg l n (Gs (Alz l)) (grpN (Alz l)) 3) l n (Gs (Alz l)) i (grpN (Alz l));have:=km (w:=wK (Eg l n (Gs (Alz l)) (grpN (Alz l)) 3) l n (Gs (Alz l)) (grpN (Alz l)) i) X X fun x a=>BA (d x a) X;grind
 refine⟨⟨X,X,fun t a=>(mem t a).1,h,fun t a=>(mem t a).2,fun k j=>?_⟩,g⟩;rw[f];obtain⟨i,_,rfl⟩:=Cr.1 (show k∈QR l n (Gs (Alz l)) (grpN (Alz l)) 3 from j);obtain⟨m,e⟩:∃m,Gs (Alz l)=m+1:=⟨Gs (Alz l)-1,X⟩;rw[e];exact eL _ _ m
def vQ{l:Bj}{n:Y}(d:3<=n/\n<=258)(h1:1<=Alz l)(h2:grpN (Alz l)<=32767):(OL l n).q n/\(OL l n).C.length=grpN (Alz l):=by
 have f:Alz (KA l n)=n:=by unfold KA;rw[bV,Cn]
 have g:=UY h1;refine⟨⟨⟨by show 2<=2;omega,by show 2<=6;omega⟩,by show 1<=Alz (BH _ 0)/\Alz (BH _ 0)<=_;grind,fun t a=>?_,d,fun t a=>?_,fun k e=>?_⟩,Cn⟩
 .have:t=Gp (KA l n):=by simpa using(show t∈[Gp (KA l n),Gp (KA l n)]from a)
  rw[this,YM];omega
 .have:t=Gp (KA l n):=by simpa using(show t∈[Gp (KA l n),Gp (KA l n)]from a)
  rw[this];exact jg X X
 .have:k=0:=(List.mem_replicate.1 e).2;subst this;show 0<2;simp
def Abi{l:Bj}{n:Y}(a:3<=n/\n<=258)(h1:1<=Alz l)(h2:grpN (Alz l)<=32767):(Pm l n).q n/\(Pm l n).C.length=grpN (Alz l):=by
 unfold Pm;split
 .exact vQ a h1 h2
 .exact ti a h1 h2
end
section
attribute [local irreducible] EX
def pj(v n:Y)(hv:v<4294967296)(f:n<=64)(w:Ad):
 Bm eD 95 [.int .u32 v,Bb n] w fun r w'=>r=.int .u32 (Jt n v 0:Y)/\w=w':=by
 refine Bw func95 Z ntmps95 (by rfl) Z ?_;refine(O 15)<|Lo (fun((k,x,o):Y×Y×Y)=>(k<=n/\x<4294967296/\o<4294967296/\Jt (n-k) x o=Jt n v 0,[(0,.int .u32 x),(5,.int .u32 o),(6,Bb n),(7,Bb k)],w,n-k)) (0,v,0) ?_ ?_
 .grind
 .rintro⟨k,x,o⟩⟨g,d,e,a⟩;refine(O 5)<|Zi (fun h=>?_) fun h=>?_
  .refine(O 6) ?_;refine OW.val Z Z (by first|exact Hv (s:=1) (p:=2) (m:=4294967295) Z Z Bc Bc Z X|exact IN (s:=1) (p:=2) (m:=4294967296) Z Z Bc Bc Z Bc)<|(O 1∘Zv (by exact MU (b:=1) (j:=1) (p:=2) (m:=4294967295) Z Z Bc Bc Z X)∘Zv (by exact NY (m:=4294967295) Z Z Z X)∘O 4∘Zv (by exact IP (s:=1) (p:=2) Z Z Bc Bc)∘O 7)<|Lb ((k+1),(x/2),(o*2%4294967296|||x%2)) ?_
   exact⟨X,X,Ma (n:=32) X X,by
    rw[show n-k=(n-(k+1))+1 by omega]at a;exact a⟩
  .refine(O 6∘Bu) ?_;obtain rfl:k=n:=X;rw[EY]at a;exact⟨by rw[<-a];rfl,Z⟩
def NT:Bl:=BH 256 (.int .u32 0)
def NO:TI eD 178 (.agg NT.toArray) 256 1024:=by unfold TI NT;kernel_rfl
def VW:Bl:=(BE 256).map fun i=>Value.int .u32 (Sq i:Y)
def bD(i:Y)(h:i<256):VW[i]? =J (.int .u32 (Sq i:Y)):=by simp[VW,h]
def Rr:Alz VW=256:=by simp[VW]
def oE(w:Ad):Bm eD 94 [] w fun r w'=>r=.agg VW.toArray/\Be w w':=by
 refine Bw func94 Z ntmps94 (by rfl) Z ?_;refine(O 2∘Zv (by exact EX.alloc (l:=NT) NO Z)∘O 3∘Zv (by exact EX.alloc (l:=NT) NO Z)∘O 7∘Ct 1 (.pointer (J ⟨w.heap.size+1,0,Aa⟩)) (e:=by simp))<|Lo (fun((k,l,wr):Y×(Bl)×Ad)=>(k<=256/\Alz l=256/\(∀j,j<k->l[j]? =J (.int .u32 (Sq j:Y)))/\Bk wr (w.heap.size+1) 178 l/\Bk wr w.heap.size 178 NT/\Be w wr,[(0,.pointer (J ⟨w.heap.size,0,Aa⟩)),(1,.pointer (J ⟨w.heap.size+1,0,Aa⟩)),(4,Bb k)],wr,256-k)) (0,NT,_) ?_ ?_
 .refine⟨X,Cn,fun j h=>absurd h X,?_,(Bk.new w _ _).alloc _,(Be.alloc _ _).trans (Be.alloc _ _)⟩;have:=Bk.new (w.alloc (.cells NT.toArray 178)) 178 NT;simp_all
 .rintro⟨k,l,wr⟩⟨K,I,C,d,f,x⟩;refine(O 5)<|Zi (fun h=>?_) fun h=>?_
  .refine(O 12) ?_;refine OW.val Z Z (by first|exact Hv (s:=24) (p:=16777216) (m:=4294967295) Z Z Bc Bc Z X|exact IN (s:=24) (p:=16777216) (m:=4294967296) Z Z Bc Bc Z Bc)<|(O 8)<|Lo (fun((m,r):Y×Y)=>(m<=8/\r<4294967296/\r=Sk m (k*16777216),[(0,.pointer (J ⟨w.heap.size,0,Aa⟩)),(1,.pointer (J ⟨w.heap.size+1,0,Aa⟩)),(2,Bb k),(3,.int .u32 r),(4,Bb k),(10,Bb m)],wr,8-m)) (0,(k*16777216)) ?_ ?_
   .exact⟨X,X,Z⟩
   .rintro⟨m,r⟩⟨G,E,a⟩;refine(O 5)<|Zi (fun D=>?_) fun D=>?_
    .refine(O 6∘Zv (by exact Wq (b:=2147483648) (m:=4294967295) Z Z Z X)∘O 2)<|Zi (fun t=>?_) fun t=>?_
     .refine(O 2) ?_;refine OW.val Z Z (by first|exact Hv (s:=1) (p:=2) (m:=4294967295) Z Z Bc Bc Z X|exact IN (s:=1) (p:=2) (m:=4294967296) Z Z Bc Bc Z Bc)<|(Zv (by exact Jy (b:=79764919) (m:=4294967295) Z Z Z X)∘O 7)<|Lb ((m+1),((r*2%4294967296) ^^^ 79764919)) ?_;refine⟨X,Ou (n:=32) X X,?_⟩;rw[fw,<-a,Qs,Aj t]
     .refine(O 2) ?_;refine OW.val Z Z (by first|exact Hv (s:=1) (p:=2) (m:=4294967295) Z Z Bc Bc Z X|exact IN (s:=1) (p:=2) (m:=4294967296) Z Z Bc Bc Z Bc)<|(O 7)<|Lb ((m+1),(r*2%4294967296)) ?_;refine⟨X,X,?_⟩;rw[fw,<-a,Qs,Ag t]
    .refine(O 5) ?_;refine RZ Z (RC NN Z Z Z (d) X)<|(O 6) ?_;obtain rfl:m=8:=X;refine Lb ((k+1),(l.set k (.int .u32 r)),_) ?_;refine⟨X,Bf,fun j B=>?_,d.set k _,f.far Bh _,Below.setCell x Bh _⟩;rcases CM j k with i|i
     .grind
     .obtain rfl:j=k:=X;rw[List.getElem?_set_self X,a];rfl
  .refine(O 3) ?_;obtain rfl:k=256:=X
   have o:l=VW:=by
    apply He;intro j;rcases CM j 256 with i|i
    .rw[C j i,bD j i]
    .rw[IV X,IV (by rw[Rr];omega)]
   subst o;refine(Zv (by exact Ke qx Z NO Z d Rr)) ?_;refine Xk Z NO Z Z Rr (TL.2 fun v A=>by obtain⟨_,_,rfl⟩:=Cr.1 A;rfl) f Cn ?_;intro w' q y;refine(O 1) ?_;refine DC<|retA Z Z qx Z NO q Rr ?_;exact⟨Z,x.grown y (fun g y=>by grind)⟩
end
section
def yi{k:AK}{l:Bj}{i:Y}(h:i<Alz l):(BD k l)[i]? =J (.int k (l[i]:Y)):=by simp[BD,h]
end
section
attribute [local irreducible] EX
def zf(r:Y)(q:r<4294967296)(s:Bg)(G:Alz s<=1000000000)(w:Ad):
 Bm eD 181 [.int .u32 r,str s] w fun v w'=>v=.int .u32 (Nk r s:Y)/\Be w w':=by
 refine Bw Bh Z ntmps181 (by rfl) Z ?_;refine(O 6∘Zc (oE w)) ?_;rintro _ D⟨rfl,a⟩;refine(Zn) ?_;rintro n C t j f;refine Xk Z NO Z Z Rr (TL.2 fun v o=>by obtain⟨_,_,rfl⟩:=Cr.1 o;rfl) j Bf ?_;intro l B i;refine(O 9) ?_;have E:=(a.trans f).grown i (fun g i=>by cases i;have:=a.size;omega);refine Lo (fun((k,x))=>(k<=Alz s/\x<4294967296/\x=Nk r (s.take k),[(0,.int .u32 x),(1,str (s)),(5,.pointer (J ⟨n,0,Aa⟩)),(9,Bb (Alz s:H)),(10,Bb k)],l,Alz s-k)) (0,r) ?_ ?_
 .exact⟨X,q,Z⟩
 .rintro⟨k,x⟩⟨I,a,e⟩;refine(O 5)<|Zi (fun h=>?_) fun h=>?_
  .have A:=s[k].toNat_lt;have d:x/16777216 ^^^ s[k].toNat<256:=Ou X A;have y:=XU (x/16777216 ^^^ s[k].toNat);refine(O 10) ?_;refine OW.val Z Z (by first|exact Hv (s:=8) (p:=256) (m:=4294967295) Z Z Bc Bc Z X|exact IN (s:=8) (p:=256) (m:=4294967296) Z Z Bc Bc Z Bc)<|(O 1∘Zv (by exact IP (s:=24) (p:=16777216) Z Z Bc Bc)∘O 4∘Zv (by exact Jy (m:=255) Z Z Z X)∘O 1∘Zv (Bo B (hi:=bD _ d))∘Zv (by exact Jy (m:=4294967295) Z Z Z X)∘O 7)<|Lb ((k+1),(OD x s[k].toNat)) ?_;exact⟨X,XQ _ _,by rw[bG,tG,<-e]⟩
  .refine(O 6∘Bu) ?_;grind
def UD(s:Bg)(d:Alz s<=1000000000)(w:Ad):
 Bm eD 132 [str s] w fun v w'=>v=.int .u32 (Fe s:Y)/\Be w w':=by
 have e:=tE 4294967295 s X;refine Bw Bh Z ntmps132 (by rfl) Z ?_;refine(O 7∘Zc (zf 4294967295 X s d w)) ?_;rintro _ f⟨rfl,a⟩;refine(Zv (by exact cY (m:=4294967295) Z Z Z X)∘O 2∘Bu) ?_;exact⟨Z,a⟩
def ou(l:Bj)(A:Av AB)(c:Y)(hl:∀x∈l,x<4294967296)(k:Alz l<=9223372036854775807)(w:Ad)(B:Y)(f:Sl w B A (BD .u32 l)):
 Bm eD 120 [.slice A (Alz l) c] w fun r w'=>r=.int .u32 (GL l:Y)/\w=w':=by
 refine Bw Bh Z ntmps120 (by rfl) Z ?_;refine(O 16)<|Lo (fun((i,x))=>(i<=Alz l/\x<4294967296/\x=GL (l.take i),[(3,.int .u32 x),(6,.slice A (Alz l) c),(7,Bb (Alz l:H)),(8,Bb i)],w,Alz l-i)) (0,0) ?_ ?_
 .exact⟨X,X,Z⟩
 .rintro⟨i,x⟩⟨q,e,a⟩;refine(O 5)<|Zi (fun h=>?_) fun h=>?_
  .obtain⟨b,o,rfl,_,j⟩:=f.at_ (by rw[DO];omega);have d:=hl l[i] Bh;have g:(x*2%4294967296)|||x/2147483648<4294967296:=Ma (n:=32) X X
   refine(O 6∘Zv (BR (j i _ (yi h)))∘O 5) ?_;refine OW.val Z Z (by first|exact Hv _ _ _ _ _ _|exact IN (p:=2) (m:=4294967296) Z Z Bc Bc Z Bc)<|(O 1∘Zv (by exact IP (p:=2147483648) Z Z Bc Bc)∘Zv (by exact NY (m:=4294967295) Z Z Z X)∘O 5∘Zv (by exact Jy (m:=4294967295) Z Z Z X)∘O 7)<|Lb ((i+1),(OE x _)) ?_;exact⟨X,UG _ _ d e,by rw[bG,tY,<-a]⟩
  .refine(O 6∘Bu) ?_;grind
end
section
attribute [local irreducible] EX
open Bz
noncomputable def CY(s:Bg):Pl:=Pm (listOf (enc s)) (Alz (used (enc s))+2)
def pu(t:Bg):Alz (used t)<=256:=Aje t
def bA(u:Bg):Alz (Kb u)<=272:=by
 have h:∀l:Bj,Alz (l.flatMap fun i=>if DL u i then CU u i else[])<=16*Alz l:=fun l=>by
  induction l with
  |nil=>simp
  |cons i l ih=>
   rw[Gk,Bx,CF];split
   .rw[JY];omega
   .grind
 have:=h (BE 16);unfold Kb;grind
def aA(s:Bg)(j:Alz s<=100000):Qg s (CY s):=fun h=>by
 have a:=enc_ne h;have g:=enc_len (Alz s) s (Bq _);obtain⟨d,i,_,_⟩:=listOf_len (enc s) a;have e:=Wg a;have f:=pu (enc s);exact Abi ⟨X,X⟩ d (by unfold grpN;omega)
def sK(s:Bg)(h0:s≠[])(i:Alz s<=100000):Alz (blkB s (CY s))<=90000000:=by
 have a:=enc_ne h0;have h:=enc_len (Alz s) s (Bq _);obtain⟨k,j,f,_⟩:=listOf_len (enc s) a;obtain⟨d,e⟩:=aA s i h0;have m:=Vw _ d;have g:=QU _ d (listOf (enc s)) (Oq e.symm) f (Alz (listOf (enc s))) (Bq _);rw[DY]at g;have l:=bA (used (enc s));unfold blkB;simp only[Bx,nb_length,CF];omega
def eY(s:Bg)(a:Alz s<=100000):Alz (blocksB s (CY s))<=90000000:=by
 unfold blocksB;split
 .simp
 .rename_i h;exact sK s h a
def vT{α:Type}{l:Ae α}{L:Ae (Ae α)}(h:l∈L):Alz l<=Alz L.flatten:=by
 induction L with
 |nil=>grind
 |cons x L ih=>
  grind
def blk_s(s:Bg)(h0:s≠[])(hs:Alz s<=100000)(w:Ad):
 Bm eD 131 [str s] w fun v w'=>(Qg s (CY s)/\v=.tuple #[.agg (Ee (blkB s (CY s))).toArray,Bb ((0:Y):H)])/\Be w w':=by
 have d:=enc_ne h0;have b3:=enc_len (Alz s) s (Bq _);have cl:=Qp s;refine Bw func131 Z ntmps131 Bi Z ?_;refine(O 2∘Zn) ?_;rintro ob w1 cw b7 bn;refine(O 6∘Zv (by exact HJ (r:=[]) Z Z)∘O 1∘Ci 21 (e:=h0)∘O 5∘Zc (Adf s X w1)) ?_;rintro _ w2⟨rfl,bm⟩;refine(O 9) ?_;have al:∀m:Pl,m.q (Alz (used (enc s))+2)->Alz m.C=grpN (Alz (listOf (enc s)))->Qg s m:=fun m a b _=>⟨a,b⟩;have a1:∀m,blkB s m=nb 48 54156738319193++(nb 32 (Fe s)++(Ai::(nb 24 (JZ (GR (enc s)))++(Kb (used (enc s))++(planBits m++Es m (listOf (enc s))))))):=fun m=>rfl;have A:CY s=Pm (listOf (enc s)) (Alz (used (enc s))+2):=rfl;generalize CY s=pS at A;generalize enc s=t at d b3 al a1 A;have hp:=av t d;obtain⟨l1,l2,l3,l4⟩:=listOf_len t d;obtain⟨r1,r2,r3⟩:=eK (ak t) d;have b1:=Wg d;have x:=pu t;refine(Ci 27∘O 5∘Zc (vY t d X w2)) ?_;rintro _ w3⟨rfl,bl⟩;refine(O 14∘Ci 36∘O 5∘Zc (of_s t X w3)) ?_;rintro _ w4⟨rfl,bj⟩;refine(O 6) ?_;have c1:Alz (Ge t (GR t))=Alz t:=r2;refine(Zc (xl _ _ _ X x (used_may d) hp.front w4)) ?_;rintro _ w5⟨⟨x5,rfl,o5⟩,bi⟩;refine(O 12) ?_;obtain⟨A5,c5,rfl,_,a6⟩:=o5.sl;refine(Ci 48∘O 7) ?_;have c0:=hp.len;refine(Zc (Akc (Alz (used t)) ⟨b1,x⟩ _ X hp.lt A5 c5 _ w5 a6)) ?_;rintro _ w6⟨⟨x6,rfl,o6⟩,bh⟩;refine(O 12) ?_;have a7:CT w6 w5.heap.size x6 (listOf t):=o6;obtain⟨A6,c6,rfl,cm,S⟩:=a7.sl;refine(Ci 59∘O 8∘Zc (sB (listOf t) (Alz (used t)+2) ⟨X,X⟩ l1 X l3 A6 c6 _ cm w6 (Bq _) S)) ?_;rintro _ w7⟨⟨cs,rfl,a0⟩,ai⟩;refine(O 3) ?_;obtain⟨ca,cb,rfl,oa,cz⟩:=a0.two;refine(Zn) ?_;rintro pb w8 cv b4 af;refine(Zs b4) ?_;rintro g n cg;refine(O 8) ?_;replace n:Bk g pb 260 [ca,cb]:=n;have p:Be w7 g:=Bp af cg af.size Bv;refine(Ci 71∘O 4∘Zc (Pd g)) ?_;rintro _ wa⟨E,rfl,b0,f⟩;refine(O 5∘Zc (GU g.heap.size E [] 54156738319193 48 Bc Bc Bc Bc wa b0)) ?_;rintro _ wc⟨rfl,bx,Q⟩;refine(O 5∘Zc (UD s X wc)) ?_;rintro _ wd⟨rfl,i⟩;refine(O 1∘Zc (GU g.heap.size E _ (Fe s) 32 X Bc cl (by rw[EW,nb_length];decide) wd (bx.a i))) ?_;rintro _ we⟨rfl,bs,te⟩;refine(O 4∘Zc (GU g.heap.size E _ 0 1 Bc Bc Bc (by simp only[Bx,nb_length,ET];decide) we bs)) ?_;rintro _ wf⟨rfl,bq,tf⟩;refine(O 6) ?_;have aj:JZ (GR t)<16777216:=X;refine(Zc (GU g.heap.size E _ (JZ (GR t)) 24 X Bc aj (by simp only[Bx,nb_length,ET];decide) wf bq)) ?_;rintro _ wg⟨rfl,q,tg⟩;refine(O 4) ?_;have P:Be w1 g:=(((((bm.trans bl).trans bj).trans bi).trans bh).trans ai).trans p;have cx:=P.size;have a4:Be g wg:=tg.below (tf.below (te.below ((Q.below f f.size (Bq _)).trans (i.mono (BA f.size Q.size))) (BA f.size (BA Q.size i.size)) (Bq _)) (BA f.size (BA Q.size (BA i.size te.size))) (Bq _)) (BA f.size (BA Q.size (BA i.size (BA te.size tf.size)))) (Bq _);obtain⟨G,q2,q3⟩:=(a0.a p).now;rw[<-A]at G q2 q3;generalize a2:[]++nb 48 54156738319193++nb 32 (Fe s)++nb 1 0++nb 24 (JZ (GR t))=HW at q;have c2:Alz HW=105:=by rw[<-a2];simp only[Bx,nb_length,ET]
 refine(Zc (NS g.heap.size E _ wg q)) ?_;rintro _ _⟨rfl,rfl⟩;refine(O 1∘Zc (MS g.heap.size E _ wg q)) ?_;rintro _ _⟨rfl,rfl⟩;refine(O 1∘Zn) ?_;rintro hb wh cu ck ab;refine(Zs ck) ?_;rintro wi D cf;refine(O 4) ?_;replace D:Bk wi hb 226 (Ee HW):=D;have a3:Be wg wi:=Bp ab cf ab.size Bv;refine(Zc (Agu (used t) x (used_may d) wi)) ?_;rintro _ wj⟨rfl,bf⟩;refine(O 3∘Zn) ?_;rintro a8 wk ct b8 W;refine(Zs b8) ?_;rintro wl B ce;refine(O 4) ?_;replace B:Bk wl a8 226 (Ee (Kb (used t))):=B;have K:Be wi wl:=bf.trans (Bp W ce W.size Bv);have k:=(a4.trans a3).trans K;refine(Zv (BX (n.a k))∘Zc (jF pS _ G _ _ wl (q3.a k) k.size)) ?_;rintro _ wm⟨rfl,bd⟩;refine(O 3∘Zn) ?_;rintro a5 wn cr b2 V;refine(Zs b2) ?_;rintro wo y cd;refine(O 4) ?_;replace y:Bk wo a5 226 (Ee (planBits pS)):=y;have o:Be wl wo:=bd.trans (Bp V cd V.size Bv);have h:=k.trans o;refine(Zv (BX (n.a h))∘O 1) ?_;have L:Be w6 g:=ai.trans p;refine(Zc (jA pS _ G (listOf t) X (Oq q2.symm) l3 _ _ A6 c6 wo (q3.a h) (((S.a L).l L.size).a h) h.size)) ?_;rintro _ wp⟨rfl,bc⟩;refine(O 3∘Zn) ?_;rintro a9 wq cq ch T;refine(Zs ch) ?_;rintro wr C cc;refine(O 4) ?_;replace C:Bk wr a9 226 (Ee (Es pS (listOf t))):=C;have j:Be wo wr:=bc.trans (Bp T cc T.size Bv);refine(Zv (BX (((D.a K).a o).a j))∘Zv (BX ((B.a o).a j))∘Zv (BX (y.a j))∘Zv (BX C)) ?_;refine Mc 4 ([Ee HW,Ee (Kb (used t)),Ee (planBits pS),Ee (Es pS (listOf t))]) Z Z iq Ih Z Bc Z Z Z Bh Bc ?_;rintro eb ws cp cn bb;have k1:=Vw pS G;have k2:=QU pS G (listOf t) (Oq q2.symm) l3 (Alz (listOf t)) (Bq _);rw[DY]at k2;have k3:=bA (used t)
 have ao:[HW,Kb (used t),planBits pS,Es pS (listOf t)].flatten=blkB s pS:=by
  rw[a1,<-a2,show nb 1 0=[Ai]from Z];simp only[PS,List.flatten_nil,List.append_nil,EW,Cq,RT,Gi]
 have co:Alz (blkB s pS)<=100000000:=by
  rw[<-ao];simp only[PS,List.flatten_nil,Bx,ET];omega
 have cj:=Nu [HW,Kb (used t),planBits pS,Es pS (listOf t)] (fun l hl=>by
  simp only[List.mem_cons,List.not_mem_nil,or_false]at hl;rcases hl with rfl|rfl|rfl|rfl<;>omega) Bh Bf (J ⟨eb,0,Aa⟩) 4 _ ws cn.sl
 rw[ao]at cj;refine(Zc cj) ?_;rintro _ wt⟨rfl,ba⟩;refine(O 2) ?_;have N:Be w1 wt:=(((P.trans (h.trans j))).trans bb).trans ba;have b6:=b7.a N;refine(Zs b6) ?_;rintro wu b5 b9;refine(O 2) ?_;have I:=bn.trans N;refine(Dx b5) ?_;exact⟨⟨al pS G q2,Z⟩,Bp I b9 I.size Bv⟩
end
section
open Fld Ust Pax Pth Tar
def Iy(s:Bg):Bg:=s++Cx (GP (Alz s)-Alz s)
def UV(s:Bg):Alz (Iy s)=GP (Alz s):=by
 have:=YI (Alz s);unfold Iy;rw[Bx,Cx,Cn];omega
def Lx(x:En):Bg:=if(BO x.g).2.2=Af then Dr (Dg x.g 48 (Alz x.data))else GV IF 120 (DA ⟨ED,x.g⟩)++Dr (Dg (x.g.take 100) 48 (Alz x.data))
def vr(x:En):JR x=Lx x++Iy x.data:=by
 unfold JR Lx Iy;split
 .unfold GV;simp
 .unfold GV;simp
noncomputable def BU(x:En):Bg:=Lx x++Iy (Bz.packS x.data (CY x.data))
noncomputable def Hn(x:En):Bg×Y:=if Cw x.g≠0 then([],140)else if 8192<Alz x.data then([],3)else(BU x,0)
structure Fits(x:En):Prop where
 g:Cw x.g=0
 data:Alz x.data<=8192
def mH{s:Bg}(h:Alz s<=120):1<=Alz (DA ⟨ED,s⟩)/\Alz (DA ⟨ED,s⟩)<=512:=by
 have a:=Ph h;have f:=aH a;have e:=SC _ a;have d:Dk _=JM _+rest ⟨ED,s⟩:=rfl;omega
def lT{s:Bg}(h:Alz s<=120):Alz (GV IF 120 (DA ⟨ED,s⟩))=1024:=by
 have a:=mH h;rw[aY (YX X)];unfold GP;omega
def Zf{x:En}(h:Fits x):Alz (Lx x)=if(BO x.g).2.2=Af then 512 else 1536:=by
 have a:Alz x.data<=262144:=by have:=h.data;omega
 unfold Lx;split
 .rename_i q;exact(YW h.g a q).len
 .rw[Bx,lT (Qq h.g).2.2.1,(YV h.g a).len]
def ar{s:Bg}(h:Alz s<=8192):10<=Alz (Bz.packS s (CY s))/\Alz (Bz.packS s (CY s))<=12000000:=by
 have:=eY s X;unfold Bz.packS;rw[Bz.pack_length,Bz.streamB_length];omega
def KD{x:En}(h:Fits x):Alz (BU x)%512=0/\1024<=Alz (BU x)/\Alz (BU x)<=13000000:=by
 have d:=Zf h;have a:=ar h.data;unfold BU;rw[Bx,UV];unfold GP;grind
def kC{x:En}(h:Fits x):Hn x=(BU x,0):=by
 have:=h.data;unfold Hn;rw[Ag (by rw[h.g];simp),Ag X]
def DN(s:Bg)(k:Y):Hd×Ar:=if Alz s<512 then(HU,Ai)else((GN (s.take 512)).1,decide ((GN (s.take 512)).2=0) && decide ((GN (s.take 512)).1.kind=k))
def Zg{p:Bg}{k n:Y}(g:Tar.Good p k n)(b:Bg)(j:Y):DN (Dr (Dg p k n)++b) j=(Dg p k n,decide (k=j)):=by
 have a:=g.len;unfold DN;rw[Ag Bf,Hy a,g.dec];rfl
def Aia{pre suf s:Bg}(h:Alz s<=8192):Bz.takeS (pre++Bz.packS s (CY s)++suf) (Alz pre)=J (s,Alz pre+Alz (Bz.packS s (CY s))):=
 Bz.takeS_pack (aA s X) h pre suf
end
section
attribute [local irreducible] EX
open Bz
def cE{n most M:Y}:∀(l out:Bj) (run w:Y) (ps:Bj),(∀x∈out,x<=M)->(∀x∈l,x<=M)->Ft n most out run w l=J ps->∀x∈ps,x<=M
 |[],out,run,w,ps,_,_,h=>by rw[Ft]at h;cases h
 |s::l,out,run,w,ps,ho,hl,h=>by
  have hl2:=fun x a=>hl x (Gl _ a)
  have d:∀x∈out++BH run 0,x<=M:=fun x a=>by
   grind
  rw[Ft]at h;split at h
  .cases h
  .split at h
   .split at h
    .cases h
    .exact cE l _ _ _ ps ho hl2 h
   .split at h
    .grind
    .split at h
     .cases h
     .refine cE l _ _ _ ps (fun x a=>?_) hl2 h;rcases CW.1 a with z|z
      .grind
      .simp_all;omega
def Ya:∀(l:Bg) (same:Y) (out:Bg),(dec same out l).2=0∨(1<=(dec same out l).2/\(dec same out l).2<=30)
 |[],same,out=>by
  rw[dec];grind
 |x::r,same,out=>by
  rw[dec];split
  .split
   .exact .inr ⟨by show 1<=3;decide,by show 3<=30;decide⟩
   .exact Ya r _ _
  .split
   .exact .inr ⟨by show 1<=3;decide,by show 3<=30;decide⟩
   .exact Ya r _ _
def Ajz(n most:Y)(hn:1<=n/\n<=256)(hm:most<=262144)(l:Bj)(hl:Alz l<=1000000000)(hp:∀p∈l,p<=1000000000)(A:Av AB)(c C:Y)(w:Ad)(hs:Sl w C A (BD .i64 l)):
 Bm eD 206 [Bb (n:H),Bb (most:H),.slice A (Alz l) c] w fun v w'=>(∃u p,∃e:Y,v=.tuple #[u,Bb (e:H)]/\CT w' w.heap.size u p/\((e=0/\Ft n most [] 0 1 l=J p/\Alz p<=most)∨(ER e/\Ft n most [] 0 1 l=Aa)))/\Be w w':=
 (Ajy n most hn hm l hl hp A c C w hs).mono fun v w'⟨h,x⟩=>by
  refine⟨?_,x⟩;rcases h with⟨u,p,h1,h2,h3,h4⟩|⟨h1,e,h2,h3⟩
  .grind
  .exact⟨_,[],e,h3,CT.nil _ _,.inr ⟨h2,h1⟩⟩
def Aja{u:Bg}{l:Bj}{row most:Y}(h:Ft (Alz u) most [] 0 1 l=Aa):IK u l row most=Aa:=by unfold IK;rw[h]
def Aiy{u:Bg}{l ps:Bj}{row most:Y}(h:Ft (Alz u) most [] 0 1 l=J ps):IK u l row most=match GI u ps with
 |none=>Aa
 |some c=>if row<Alz c then(if(dec 0 [] (back c row)).2=0 then J (dec 0 [] (back c row)).1 else Aa)else Aa:=by unfold IK;grind
def sq(L:Bg)(row:Y):Alz (back L row)=Alz L:=Uy _ _ _ _
def Ajc(u:Bg)(hu:1<=Alz u/\Alz u<=256)(m:OZ u)(l:Bj)(hl:Alz l<=2000000)(L:∀x∈l,x<=1000)(row most:Y)(hr:row<=1000000000)(hm:most<=262144)(A:Av AB)(c C:Y)(w:Ad)(hs:Sl w C A (BD .i64 l)):
 Bm eD 163 [str u,.slice A (Alz l) c,Bb (row:H),Bb (most:H)] w fun v w'=>(∃t,∃e:Y,v=.tuple #[str t,Bb (e:H)]/\((e=0/\IK u l row most=J t)∨(ER e/\IK u l row most=Aa)))/\Be w w':=by
 refine Bw func163 Z ntmps163 (by rfl) Z ?_;refine(O 11∘Zc (Ajz (Alz u) most hu hm l X (fun x hx=>by grind) A c C w hs)) ?_;rintro _ D⟨⟨x1,g,e1,rfl,o1,r⟩,k⟩;refine(O 12)<|Zi (fun S=>?_) fun S=>?_
 .rcases r with⟨rfl,_⟩|⟨i,T⟩
  .exact AH Z S
  .refine(O 6∘BF) ?_;exact⟨⟨[],e1,Z,.inr ⟨i,Aja T⟩⟩,k⟩
 .rcases r with⟨rfl,i,T⟩|⟨i,T⟩
  .have f:=Aiy (row:=row) i;have ab:=cE l [] 0 1 g Bh L i;obtain⟨A1,c1,rfl,_,E⟩:=o1.sl
   have c2:Bm eD 207 [.slice A1 (Alz g) c1,str u] D fun v w'=>(∃x,∃e:Y,v=.tuple #[str x,Bb (e:H)]/\((e=0/\GI u g=J x)∨(ER e/\GI u g=Aa)))/\Be D w':=
    (Aek g u X (fun x hx=>by grind) hu.2 m A1 c1 _ D E).mono fun v w'⟨h,x⟩=>by
     grind
   refine(O 5∘Zc c2) ?_;rintro _ B⟨⟨a,e2,rfl,p⟩,K⟩;refine(O 12) ?_;have x2:=k.trans K;refine Zi (fun Q=>?_) fun Q=>?_
   .rcases p with⟨rfl,_⟩|⟨j,W⟩
    .exact AH Z Q
    .rw[W]at f;refine(O 6∘BF) ?_;grind
   .rcases p with⟨rfl,j⟩|⟨j,W⟩
    .rw[j]at f;simp only at f;have af:=eJ g u a j
     have c3:Bm eD 208 [str a,Bb (row:H)] B fun v w'=>(∃x,∃e:Y,v=.tuple #[str x,Bb (e:H)]/\((e=0/\row<Alz a/\x=back a row)∨(ER e/\¬row<Alz a)))/\Be B w':=
      (sr a row X hr B).mono fun v w'⟨h,x⟩=>by
       refine⟨?_,x⟩;rw[h];by_cases q:row<Alz a
       .grind
       .rw[Ag q];exact⟨[],50,Z,.inr ⟨⟨Bc,Bc⟩,q⟩⟩
     refine(O 5∘Zc c3) ?_;rintro _ w3⟨⟨tx,e3,rfl,o⟩,I⟩;refine(O 12) ?_;have x3:=x2.trans I;refine Zi (fun P=>?_) fun P=>?_
     .rcases o with⟨rfl,_⟩|⟨y,V⟩
      .exact AH Z P
      .rw[Ag V]at f;refine(O 6∘BF) ?_;grind
     .rcases o with⟨rfl,y,rfl⟩|⟨y,V⟩
      .rw[Aj y]at f;have N:Alz (back a row)<=1000000000:=by rw[sq];omega
       have n:=Ya (back a row) 0 [];refine(O 4∘Zc (Adc (back a row) N w3)) ?_;rintro _ w4⟨rfl,G⟩;refine(O 5) ?_;generalize dec 0 [] (back a row)=d at f n;refine(BF) ?_;refine⟨⟨d.1,d.2,Z,?_⟩,x3.trans G⟩;rcases n with z|⟨z1,z2⟩
       .grind
       .rw[Ag X]at f;exact .inr ⟨⟨z1,X⟩,f⟩
      .exact AH (Dd.1 P) (by have:=y.1;omega)
    .exact AH (Dd.1 Q) (by have:=j.1;omega)
  .exact AH (Dd.1 S) (by have:=i.1;omega)
def xK(m:Y)(p0 p1 p2 f:Ah)(w:Ad):CallsDIn Fence.wide m eD 195 #[p0,p1,p2,f] .returning w fun e u' w'=>e=.returned (.tuple #[])/\u'=.returning/\w'=w:=by
 refine callsDIn_of_wpSIn func195 Z Ay fun l n h=>?_;have a:recoverD (l::n)=Aa:=by simp[recoverD,h]
 have j:Fr 20 (IY 0 [p0,p1,p2,f]) { tmps:=#[p0,p1,p2,f]++Jv 16 undef,defers:=[] }:=Fr.start [p0,p1,p2,f] 16;refine wpSIn_seq (wpSIn_region ?_);refine Ajg (i:=0) (rest:=[1]) Z a ?_;refine Wh (j.put Z _) Z (HI Z) ?_;have g:=(j.put (d:=7) Z .nilIface).put (d:=4) Z .nilIface;refine wpSIn_seq (wpSIn_region ?_);refine Wh (i:=0) (rest:=[1]) g Z (EX.move Z) ?_;refine Wh (i:=1) (rest:=[]) (g.put Z _) Z (qk (fun d=>by simp[Op.equalIn,run_underlying mp,Sem.run_bind]) Z) ?_;have k:=((g.put (d:=8) Z .nilIface).put (d:=9) Z (.bool Ai));refine wpSIn_cond (t:=Ai) (k.ev (x:=.tmp 9) Z) ?_;refine wpSIn_of_wpIn Z (wpIn_skip ?_);exact⟨Z,.returning,by rw[<-h],.tuple #[],results_none (by rfl) _ _ _,Z,Z,Z⟩
def Va(d a D:Y)(s:Bg)(p n:Y)(h:n<=64)(g:p+n<=8*Alz s)(j:Alz s<=1000000000)(w:Ad)(k:Bk w d 253 [.pointer (J ⟨a,0,Aa⟩)])(f:RdAt w D a s p):
 Bm eD 196 [Bb (n:H),.pointer (J ⟨d,0,Aa⟩)] w fun v w'=>v=.int .u64 ((num (BT s p n):Y):H)/\RdAt w' D a s (p+n)/\Tm w w' D Ia:=by
 have e:=LJ D a s p n h X X w f;rw[SV g]at e;refine Bw func196 Z ntmps196 (by rfl) Z ?_;refine(O 8∘Zc e) ?_;rintro _ i⟨rfl,m,l⟩;refine(O 12∘Ci 13∘O 7∘Bu) ?_;grind
def kX(w:Ad):Bm eD 197 [.bool Af] w fun v w'=>v=.tuple #[]/\w=w':=by
 refine Bw func197 Z ntmps197 (by rfl) Z ?_;refine(O 7) ?_;refine KW.done<|Ib Z ?_;simp
end
section
open Bz
def Yf:∀(l:Bg) (same:Y) (out:Bg),Alz out<=262144->Alz (dec same out l).1<=262144
 |[],same,out,h=>by
  rw[dec];grind
 |x::r,same,out,h=>by
  rw[dec];split
  .split
   .exact BC _
   .exact Yf r _ _ Bf
  .split
   .exact BC _
   .exact Yf r _ _ Bf
def Aiz{u t:Bg}{l:Bj}{row most:Y}(h:IK u l row most=J t):Alz t<=262144:=by
 unfold IK at h;split at h
 .cases h
 split at h
 .cases h
 split at h
 .split at h
  .injection h with h;rw[<-h];exact Yf _ _ _ (BC _)
  .cases h
 .cases h
end
section
attribute [local irreducible] EX
open Bz
def mR(k:Y)(hk:k<=100)(w:Ad):Bm eD 119 [Bb (k:H)] w fun v w'=>v=Bb ((min (k*100000) 262144:Y):H)/\w=w':=by
 refine Bw Bh Z ntmps119 (by rfl) Z ?_;refine(O 11∘Bu) ?_;simp
end
section
attribute [local irreducible] EX OR KR
open Bz
def eI{s:Bg}{i:Y}(h:i<Alz s):s.getD i 0=s[i]:=by
 grind
def jI{s:Bg}{p k:Y}(h:Bz.headT s p=J k):p+4<=Alz s/\s.getD p 0=66/\s.getD (p+1) 0=90/\s.getD (p+2) 0=104/\(s.getD (p+3) 0).toNat=k+48/\1<=k/\k<=9:=by
 unfold Bz.headT at h;grind
abbrev Nf(s:Bg):={x:Bg//x=s/\x≠[]}
abbrev Od(s:Bg):=Ae (Nf s)
def KL(s:Bg):Od s:=if h:s=[]then[]else[⟨s,Z,h⟩]
def yq(f i most:Y)(s:Bg)(N:2*Alz s<=most)(hm:most<=1000000000)(w:Ad)(t:Bk w f 9 [str s])(S:Bk w i 3 [Bb (most:H)]):
 Sc 2 eD 170 [.pointer (J ⟨f,0,Aa⟩),.pointer (J ⟨i,0,Aa⟩)] (fun x:Nf s=>[str x.1]) [f] (fun W=>Bk W i 3 [Bb (most:H)]) (fun xs=>xs=KL s) (fun pre=>True) 1 w:=fun l g Jx W hW K ai I hY h0=>by
 have af:Bk W f 9 [str s]:=t.a hW
 have k:Bm eD 170 [.func (.yield l) #[] #[],.pointer (J ⟨f,0,Aa⟩),.pointer (J ⟨i,0,Aa⟩)] W fun v W'=>(∃xs,xs=KL s/\g xs W')∨(∃pre,True/\Jx pre W'):=by
  refine Bm.Aks 2 func170 Z ntmps170 (by rfl) Z ?_;refine(O 1) ?_;refine qR (fun(q:(Bg)) (pre:(Od s)) (wr:Ad)=>g pre wr/\Bk wr f 9 [str q]/\(pre=[]/\q=s∨pre=KL s/\q=[])) (fun(q:(Bg)) (pre:(Od s)) (wr:Ad)=>[(0,.func (.yield l) #[] #[]),(1,.pointer (J ⟨f,0,Aa⟩)),(2,.pointer (J ⟨i,0,Aa⟩))]) (fun(q:(Bg)) (pre:(Od s)) (wr:Ad)=>wr) (fun(q:(Bg)) (pre:(Od s)) (wr:Ad)=>Alz q) (s) ([]) (W) ⟨Z,Z,Z,Ay⟩ Z ?_ ?_
  .grind
  .rintro q pre wr⟨n,hb,V⟩;have hG:=I pre wr n;refine(O 4∘Rv (by exact MV (r:=[]) Z Z)∘O 1) ?_;refine Kj Z (fun a=>?_) (fun a=>?_)
   .obtain⟨rfl,rfl⟩:pre=[]/\q=s:=by
     grind
    have A:KL q=[⟨q,Z,a⟩]:=dif_neg a;have P:1<=Alz q:=Oh.2 a;refine(O 6∘Rc (fit_s q most N hm wr)) ?_;rintro _ o⟨rfl,j⟩;refine(O 4) ?_;have G:=hb.a j;have D:g [] o:=K _ _ _ n (Mo.Akj j _)
    have p:∀(x:Nf q) (h:Ad),g [] h->Qj eD 1 l [str x.1] h fun v W'=>∃b,v=.bool b/\((b=Af/\g [x] W'/\W'.heap[f]? =h.heap[f]?)∨(b=Ai/\Jx [x] W')):=fun x h C=>
     YieldAt.mono (hY [] x h C Nat.one_pos) (by
      grind)
    refine(O 4) ?_;refine OR.as 12 (.bool Ai) Z (AF Value.bool (AN X))<|(O 3∘Rv (by exact Kf eT Z Z X)) ?_;have d:q.take (Alz q)=q:=Dh (Bq _);refine Xg Z Z Z Z Z (p ⟨q.take (Alz q),d,by rw[d];exact a⟩ o D) ?_;rintro _ m⟨y,rfl,hv⟩;refine(O 3) ?_;rcases y with _|_
    .obtain⟨_,hjz⟩:Ai=Ai/\Jx [⟨q.take (Alz q),d,by rw[d];exact a⟩] m:=by
      grind
     refine(O 1) ?_;refine IR<|Pq (.inr Z) Z Z Z ?_;grind
    .obtain⟨_,hjz,hkz⟩:Af=Af/\g [⟨q.take (Alz q),d,by rw[d];exact a⟩] m/\m.heap[f]? =o.heap[f]?:=by
      grind
     have E:Bk m f 9 [str q]:=G.of_block hkz;refine(O 5∘Rv (by exact LR eT Z Z X)∘Rt E (hlt:=Bq _)) ?_;rintro L ab B;refine(O 2) ?_;refine qI ([]) ([⟨q,Z,a⟩]) (L) ⟨Z,Z,Z,Ay⟩ Z ?_ Bf;refine⟨K _ _ _ Bf B,?_,.inr ⟨A.symm,Z⟩⟩;grind
   .obtain rfl:q=[]:=Dd.1 a;refine(O 1) ?_;refine KR.done<|Pq (.inl Z) Z Z Z ?_;refine .inl ⟨KL s,Z,?_⟩;rcases V with⟨rfl,rfl⟩|⟨rfl,_⟩
    .exact n
    .exact n
 exact callsIn_wide.2 (k.2.mono fun e W'⟨v,T,Q⟩=>⟨⟨v,T⟩,Q⟩)
def Aau(s:Bg)(most:Y)(w:Ad):Bm eD 130 [str s,Bb (most:H)] w fun v w'=>∃sb mb,v=.func (.func 170) #[] #[.pointer (J ⟨sb,0,Aa⟩),.pointer (J ⟨mb,0,Aa⟩)]/\w.heap.size<=sb/\w.heap.size<=mb/\Bk w' sb 9 [str s]/\Bk w' mb 3 [Bb (most:H)]/\Be w w':=by
 refine Bw func130 Z ntmps130 (by rfl) Z ?_;refine(O 2) ?_;refine Mb Z Z Z Z ?_;rintro sb j f h d;refine Mb Z Z Z Z ?_;rintro mb i e g a;refine(O 4∘Zv (by exact FZ Z Z)∘O 2∘Bu) ?_;exact⟨sb,mb,Z,f,BA d.size e,h.a a,g,d.trans a⟩
end
section
attribute [local irreducible] EX OR KR
open Pth
def Da(l:Cl):Bl:=l.map fun s=>str s
def Ais(l:Cl):Alz (Da l)=Alz l:=by simp[Da]
def bU(l:Cl)(x:Bg):Da (l++[x])=Da l++[str x]:=by simp[Da]
def jW(A:Av AB)(c:Y)(l:Cl)(B:Y)(w:Ad)(d:Sl w B A (Da l))(t:B<=w.heap.size)(r:Alz l<=c)(hl:wt l<=140737488355328):
 Bm eD 126 [.slice A (Alz l) c,str [47]] w fun v w'=>v=str (IB l)/\Be w w':=by
 have i:(!(f126.name== "runtime.NumGoroutine") && f126.body.isSome)=Af:=Bi;by_cases m:l=[]
 .subst m;refine(Hj Bh i ((Agc A c _ w).mono (fun e w' h=>⟨h.1,(show Be w w' by rw[h.2];exact Be.refl _)⟩))).mono ?_;rintro v w'⟨rfl,n⟩;exact⟨Z,n⟩
 .rcases d with d|⟨bk,o,rfl,p,g⟩
  .exact AH (by simpa[Da]using d) m
  .have a:(l.map fun s=>(⟨s.toArray⟩:ByteArray)).map (·.data.toList)=l:=by
    rw[EV];exact List.map_id l
   have f:Alz (l.map fun s=>(⟨s.toArray⟩:ByteArray))=Alz l:=Bh
   have h:=Agb bk o c (l.map fun s=>(⟨s.toArray⟩:ByteArray)) ⟨#[47]⟩ w (fun j x k=>by
    have:(Da l)[j]? =J (.string x):=by
     simp only[Da,DV]at k ⊢;obtain⟨s,q,rfl⟩:=Nc.1 k;rw[q];rfl
    grind) X (by have:=Wl l;omega) X (by rw[a];rw[Zu];have:=jV l;omega)
   rw[a,f]at h;have e:Go.Lib.join l (⟨#[47]⟩:ByteArray).data.toList=IB l:=Zu l;rw[e]at h;refine(Hj Bh i X).mono ?_;simp
def KpS(sb:Y)(W W':Ad):Prop:=W'.heap[sb]? =W.heap[sb]?
def lU{s:Bg}{i a:Y}(h:i<=Alz s)(hf:a<=i):s.drop a=(s.drop a).take (i-a)++s.drop i:=by
 have:=Hx (i-a) (s.drop a);simp_all
def yr(d:Y)(s:Bg)(hs:Alz s<=1000000000000)(w:Ad)(B:Bk w d 9 [str s]):
 SeqStopsK Fence.wide 2 eD 125 [Value.pointer (J ⟨d,0,Aa⟩)].toArray (fun x=>#[str x]) (KpS d) (fun xs=>xs=BN s) (fun pre=>pre<+:BN s) (Alz s+1) w:=fun l o Jx W hW hJ af hY h0=>by
 have ab:Bk W d 9 [str s]:=B.a hW
 have r:Bm eD 125 [.func (.yield l) #[] #[],.pointer (J ⟨d,0,Aa⟩)] W fun v W'=>(∃xs,xs=BN s/\o xs W')∨(∃pre,pre<+:BN s/\Jx pre W'):=by
  have T:Alz (BN s)<=Alz s+1:=by have:=Wl (BN s);rw[Tx]at this;exact this
  refine Bm.Aks 2 func125 Z ntmps125 (by rfl) Z ?_;refine(O 9) ?_;refine qS (fun(i:Y) (a:Y) (pre:Cl) (wr:Ad)=>i<=Alz s+1/\a<=i/\(i<=Alz s->BN s=pre++BN (s.drop a)/\∀c∈(s.drop a).take (i-a),c≠47)/\(i=Alz s+1->pre=BN s)/\o pre wr/\Bk wr d 9 [str s]) (fun(i:Y) (a:Y) (pre:Cl) (wr:Ad)=>[(0,.func (.yield l) #[] #[]),(1,.pointer (J ⟨d,0,Aa⟩)),(3,Bb a),(4,Bb i)]) (fun(i:Y) (a:Y) (pre:Cl) (wr:Ad)=>wr) (fun(i:Y) (a:Y) (pre:Cl) (wr:Ad)=>Alz s+1-i) (0) (0) ([]) (W) ⟨Z,Z,Z,Z,Ay⟩ Z ?_ ?_
  .grind
  .rintro i a pre wr⟨hi,L,V,N,K,I⟩;refine(O 8) ?_;refine Kj Z (fun k=>?_) (fun k=>?_)
   .obtain⟨j,m⟩:=V k
    have t:Alz pre<Alz s+1:=by
     have h1:=Oh.2 (Vv (s.drop a));have h2:=AF DQ j;rw[Bx]at h2;omega
    have p:∀x:Bg,Qj eD 1 l [str x] wr fun v W'=>∃b,v=.bool b/\((b=Af/\o (pre++[x]) W'/\KpS d wr W')∨(b=Ai/\Jx (pre++[x]) W')):=fun x=>
     YieldAt.mono (hY pre x wr K t) (by
      grind)
    refine(O 10) ?_;refine Qe 15 Z (fun D=>?_) (fun D=>?_)
    .have C:BN s=pre++[(s.drop a).take (i-a)]:=by
      have e:(s.drop a).take (i-a)=s.drop a:=Dh Bf;rw[e]at m ⊢;rw[j,ax _ m]
     refine(O 14∘Rv (by exact Oa eT Z Z Z X)) ?_;refine Xg Z Z Z Z Z (p _) ?_;rintro _ f⟨y,rfl,Q⟩;refine(O 2) ?_;refine RJ Z (fun A=>?_) (fun A=>?_)
     .obtain⟨rfl,hj1⟩:y=Ai/\Jx (pre++[(s.drop a).take (i-a)]) f:=by
       grind
      refine IR<|Pq (.inr Z) Z Z Z ?_;grind
     .obtain⟨rfl,hj1,hk⟩:y=Af/\o (pre++[(s.drop a).take (i-a)]) f/\KpS d wr f:=by
       grind
      refine(O 12) ?_;have G:Bk f d 9 [str s]:=I.of_block hk;refine WG (i+1) (i+1) (pre++[(s.drop a).take (i-a)]) (f) ⟨Z,Z,Z,Z,Ay⟩ Z ?_ X;grind
    .skip
     refine(O 6) ?_;refine Kj Z (fun E=>?_) (fun E=>?_)
     .refine(O 7∘Rv (by exact Oa eT Z Z Z X)) ?_;have n:i<Alz s:=X
      have P:s.drop i=47::s.drop (i+1):=by
       rw[DD n];congr 1;exact Ku.1 E
      have C:BN s=(pre++[(s.drop a).take (i-a)])++BN (s.drop (i+1)):=by
       rw[j,lU k L,P,aw _ _ m,<-P,<-lU k L];simp
      refine Xg Z Z Z Z Z (p _) ?_;rintro _ f⟨y,rfl,Q⟩;refine(O 2) ?_;refine RJ Z (fun A=>?_) (fun A=>?_)
      .obtain⟨rfl,hj1⟩:y=Ai/\Jx (pre++[(s.drop a).take (i-a)]) f:=by
        grind
       refine IR<|Pq (.inr Z) Z Z Z ?_;grind
      .obtain⟨rfl,hj1,hk⟩:y=Af/\o (pre++[(s.drop a).take (i-a)]) f/\KpS d wr f:=by
        grind
       refine(O 12) ?_;have G:Bk f d 9 [str s]:=I.of_block hk;refine WG (i+1) (i+1) (pre++[(s.drop a).take (i-a)]) (f) ⟨Z,Z,Z,Z,Ay⟩ Z ?_ X;grind
     .have n:i<Alz s:=X;refine(O 7) ?_;refine WG (i+1) (a) (pre) (wr) ⟨Z,Z,Z,Z,Ay⟩ Z ?_ X;refine⟨X,X,fun _=>⟨j,?_⟩,fun h=>by omega,K,I⟩
      have e:(s.drop a).take (i+1-a)=(s.drop a).take (i-a)++[s[i]]:=by
       rw[show i+1-a=i-a+1 by omega,LY,TQ,show a+(i-a)=i by omega,BQ n];rfl
      rw[e];intro c g;rcases CW.1 g with g|g
      .grind
      .simp only[Cp]at g;subst g;exact fun q=>E (by simp_all)
   .obtain rfl:i=Alz s+1:=X;refine(O 1) ?_;refine KR.done<|Pq (.inl Z) Z Z Z ?_;grind
 exact callsIn_wide.2 (r.2.mono fun e W'⟨v,D,S⟩=>⟨⟨v,D⟩,S⟩)
def Bk.isCells{w:Ad}{b:Y}{T:Aw}{l:Bl}(h:Bk w b T l):∃o:Obj,w.heap[b]? =J o/\o.isCells=Af:=by
 obtain⟨a,h,_⟩:=h;exact⟨_,h,Z⟩
def Bk.Akr{A B:Ad}{row:Av Y}{C b:Y}{T:Aw}{l:Bl}(h:Bk A b T l)(hg:A.grownBy B row)(hr:∀r,row=J r->C<=r/\∃o:Obj,A.heap[r]? =J o/\o.isCells=Ai):Bk B b T l:=
 h.of_block (hg.block b h.lt fun e=>by
  obtain⟨o',ho',hc⟩:=h.isCells;grind)
def Bn.Akr{A B:Ad}{row:Av Y}{C B0 s n:Y}{T:Aw}{v:Ah}{xs:Bl}(h:Bn A B0 T s v n xs)(hg:A.grownBy B row)(hr:∀r,row=J r->C<=r/\∃o:Obj,A.heap[r]? =J o/\o.isCells=Ai):Bn B B0 T s v n xs:=
 h.Ala fun k hk=>by
  obtain⟨_,l,hb⟩:=h.K k hk;refine hg.block k hb.lt fun e=>?_;obtain⟨o',ho',hc⟩:=hb.isCells;grind
def Be.Akr{w A B:Ad}{row:Av Y}{C:Y}(h:Be w A)(hC:w.heap.size<=C)(hg:A.grownBy B row)(hr:∀r,row=J r->C<=r/\∃o:Obj,A.heap[r]? =J o/\o.isCells=Ai):Be w B:=
 h.grown hg Bf
def Mo.keeps{w w':Ad}{S:Bj}(h:Mo w w' S)(hS:∀k∈S,∃T l,Bk w k T l):KeepsOthers w w':=
 ⟨h.size,fun k o hk ho=>by
  refine(h.block k Bf fun hm=>?_).trans hk;obtain⟨T,l,hb⟩:=hS k hm;obtain⟨o',ho',hc⟩:=hb.isCells;grind⟩
def tu(s:Bg)(hs:Alz s<=1000000000000)(w:Ad):Bm eD 98 [str s] w fun v w'=>v=.tuple #[str (GK s).1,Bb (((GK s).2:Y):H)]/\Be w w':=by
 refine Bm.Aks 3 func98 Z ntmps98 Bi Z ?_;refine(O 2) ?_;refine dO Z Z Z Z ?_;rintro L y b8 p a;refine(O 3) ?_;refine KR.scope (fun _ _ _ h=>h)<|(O 2) ?_;refine dP 0 Z Z iZ Ii Z Z Z Z (by rfl) Bc ?_;rintro gb w2 bj af n;refine(Rm) ?_;rintro ob w3 b7 a9 K;have cb:y.heap.size<=ob:=by have:=n.size;omega
 refine(Rt a9) ?_;rintro w4 a8 bc;refine(O 3∘Rv (by exact FZ Z Z)∘O 5) ?_;simp only[IW]at a8
 have a6:Bn w4 y.heap.size 9 1 (.slice (J ⟨gb,0,Aa⟩) 0 0) 0 (Da []):=((Bn.Akk (l:=[]) af bj Z Bc).a K).j bc (fun k g=>by
  have:=(af.a K).ne a9 Bc;simp[Pi]at g;grind)
 have I:Be y w4:=Bp (n.trans K) bc (n.trans K).size (fun k g=>by grind);have ca:Bk w4 L 9 [str s]:=p.a I;refine(O 5) ?_;refine qP (fun(i:Y)=>i<=Alz s/\∀c∈s.take i,32<=c.toNat/\c.toNat<=126) (fun(i:Y)=>[(1,.pointer (J ⟨L,0,Aa⟩)),(4,.pointer (J ⟨ob,0,Aa⟩)),(5,.func (.func 125) #[] #[.pointer (J ⟨L,0,Aa⟩)]),(13,Bb ((Alz s:Y):H)),(14,Bb i)]) (fun(i:Y)=>w4) (fun(i:Y)=>Alz s-i) (0) ⟨Z,Z,Z,Z,Z,Ay⟩ Z ?_ ?_
 .simp
 .rintro i⟨hi,bi⟩;refine(O 5) ?_;refine Kj Z (fun bd=>?_) (fun bd=>?_)
  .have a0:¬(32<=s[i].toNat/\s[i].toNat<=126)->GK s=([],140):=fun h=>by
    unfold GK;rw[Ag];rintro⟨t,_⟩;exact h (t _ (BL bd))
   refine(O 15) ?_;refine Qe 21 Z (fun t=>?_) (fun t=>?_)
   .refine(O 12) ?_;refine IR<|mM (.inr Z) Z Z Z Z Z ?_;rw[a0 X];exact⟨Z,a.trans I⟩
   .skip
    refine(O 6) ?_;refine Kj Z (fun f=>?_) (fun f=>?_)
    .refine(O 5) ?_;refine IR<|mM (.inr Z) Z Z Z Z Z ?_;rw[a0 X];exact⟨Z,a.trans I⟩
    .refine(O 6) ?_;refine qG (i+1) ⟨Z,Z,Z,Z,Z,Ay⟩ Z ?_ X;refine⟨X,fun c hc=>?_⟩;rw[LY,BQ bd]at hc;grind
  .have bm:fits s:=by
    rw[Dh X]at bi;exact bi
   refine(O 3∘Rm) ?_;rintro bb w5 b6 bf G;have ce:y.heap.size<=bb:=by have:=I.size;omega
   refine(Rt bf) ?_;rintro w6 bn ba;refine(O 9) ?_;simp only[IW]at bn;have m:Be y w6:=Bp (I.trans G) ba (I.trans G).size (fun k g=>by grind);have b0:Bk w6 ob 97 [.slice (J ⟨gb,0,Aa⟩) 0 0]:=(a8.a G).j ba (by simp;exact(a8.a G).ne bf Bc)
   have a5:Bn w6 y.heap.size 9 1 (.slice (J ⟨gb,0,Aa⟩) 0 0) 0 (Da []):=(a6.a G).j ba (fun k g=>by
    have:=((af.a K).j bc (by simp;exact(af.a K).ne a9 Bc)).a G|>.ne bf Bc
    simp[Pi]at g;grind)
   have b3:L<w6.heap.size:=by have:=p.lt;have:=m.size;omega
   refine qV Z (Nat.le_add_left _ _) func125 Bi Z Z Z (fun _ _=>rfl) Bh (yr L s hs w6 (p.a m)) (fun h k=>k.trans h) (fun W l o o' hl h _ _=>World.putObj_heap_other X) (fun pre W=>∃v,Bk W ob 97 [v]/\Bn W y.heap.size 9 1 v (Alz (kept pre)) (Da (kept pre))/\Bk W bb 4 [.bool Ai]/\Be y W/\dd∉pre) (fun c pre W=>∃p0,c=.exit 2/\pre=p0++[dd]/\∃v,Bk W ob 97 [v]/\Bn W y.heap.size 9 1 v (Alz (kept p0)) (Da (kept p0))/\Bk W bb 4 [.bool Af]/\Be y W) (fun pre A B bs h hg Q=>let ⟨v,t,f,E,C,h5⟩:=h;⟨v,t.Akr hg Q,f.Akr hg Q,E.Akr hg Q,C.Akr m.size hg Q,h5⟩) (fun c pre A B bs h hg Q=>let ⟨p0,e1,e2,v,t,f,E,C⟩:=h;⟨p0,e1,e2,v,t.Akr hg Q,f.Akr hg Q,E.Akr hg Q,C.Akr m.size hg Q⟩) (⟨_,b0,a5,bn,m,Bh⟩) ?_ ?_ ?_
   .rintro l pre x W⟨v,t,f,E,C,h5⟩b5;have b9:Bk W L 9 [str s]:=p.a C;have cd:Alz (kept pre)<=Alz pre:=TT _ _
    have ai:OS x=Ai->x≠dd->(KeepsOthers W W/\KpS L W W/\∃v,Bk W ob 97 [v]/\Bn W y.heap.size 9 1 v (Alz (kept (pre++[x]))) (Da (kept (pre++[x])))/\Bk W bb 4 [.bool Ai]/\Be y W/\dd∉pre++[x]):=fun g hd=>by
     rw[jX,g,Ag Bh];exact⟨KeepsOthers.refl W,Z,v,t,f,E,C,Bf⟩
    refine(O 10∘Rv (by exact HJ (r:=[]) Z Z)∘O 2) ?_;refine Kj Z (fun P=>?_) (fun P=>?_)
    .refine KR.as 31 (.bool Af) Z (AF Value.bool (AM (P)))<|(O 3) ?_;refine KR.done ?_;exact fun _ _=>ai (by rw[P];rfl) (by rw[P];decide)
    .refine(O 1∘Rv (by exact HJ (r:=[46]) Z Z)∘O 2) ?_;refine Kj Z (fun a=>?_) (fun a=>?_)
     .refine(O 1) ?_;refine KR.done ?_;exact fun _ _=>ai (by rw[a];rfl) (by rw[a];decide)
     .refine(O 2∘Rv (by exact HJ (r:=[46,46]) Z Z)∘O 2) ?_;refine Kj Z (fun n=>?_) (fun n=>?_)
      .refine(O 2∘Rt E) ?_;rintro W2 bq d;refine(O 1) ?_;refine qM Z ?_;simp only[IW]at bq;exact fun _ _=>⟨d.keeps (fun k g=>by grind),pre,Z,by rw[n];rfl,v,t.j d (by simp;exact t.ne E Bc),f.j d (fun k g=>by simp;exact fun q=>f.ne E Bc k g q.symm),bq,Bp C d C.size (fun k g=>by grind)⟩
      .have b1:OS x=Af:=by simp[OS,P,a]
       refine(O 5) ?_;refine OR.push Z Z (fun _=>rfl) Z iZ Ii Z Z (fun _=>rfl) Z (C) (f) CB X ?_;rintro _ v2 W2 S aj bl cc;have d:Mo W W2 v.ownBlock.toList:=Mo.grown bl (fun k e=>by grind);have nb:ob∉v.ownBlock.toList:=fun q=>f.ne t Bc ob (by simpa using q) Z;have bx:bb∉v.ownBlock.toList:=fun q=>f.ne E Bc bb (by simpa using q) Z;have T:=t.j d nb;have a1:=E.j d bx;refine(Rt T) ?_;rintro W3 ao ab;refine(O 2) ?_;simp only[IW]at ao;refine KR.done ?_
       have a7:Bn W3 y.heap.size 9 1 v2 (Alz (kept (pre++[x]))) (Da (kept (pre++[x]))):=by
        rw[jX,Aj b1,Bx,bU];exact S.j ab (fun k g=>by simp;exact fun q=>S.ne T Bc k g q.symm)
       have N:Be y W3:=Bp aj ab aj.size (fun k g=>by grind);have b4:Bk W3 L 9 [str s]:=p.a N;refine fun _ _=>⟨(d.keeps fun k g=>?_).trans (ab.keeps fun k g=>?_),?_,v2,ao,a7,a1.j ab (by simp;exact a1.ne T Bc),N,by simp only[CW,Cp,not_or];exact⟨h5,fun q=>n q.symm⟩⟩
       .obtain⟨_,l,hb⟩:=f.K k Bf;grind
       .grind
       .show W3.heap[L]? =W.heap[L]?;exact(N.block L p.lt).trans (C.block L p.lt).symm
   .rintro D xs W hD rfl⟨v,t,f,E,C,h5⟩hK;obtain⟨A,c,rfl,hc,a4⟩:=f.slice;have a3:wt (kept (BN s))<=140737488355328:=by have q1:=cB OS (BN s);have q2:=Tx s;unfold kept;omega
    have bh:D<W.heap.size:=(NU.1 hK).1;refine(O 4∘Rc (jW A c (kept (BN s)) _ W a4 (Bq _) hc a3)) ?_;rintro _ W2⟨rfl,j⟩;refine(O 4) ?_;have V:W2.heap[D]? =J (.deferred (J [])):=(j.block D bh).trans hK;have a2:Be w (W2.putObj D (.deferred Aa)):=Be.putObj ((a.trans C).trans j) (by have:=a.size;have:=m.size;omega) _;have b2:=E.a j;refine(O 4∘Rv (by exact HJ (r:=[]) Z Z)∘O 2) ?_;refine Qe 47 Z (fun j1=>?_) (fun j1=>?_)
    .refine(O 11) ?_;refine IR<|VG (.inr Z) Z Z (V) Z Z Z ?_;have e:GK s=([],140):=by unfold GK;rw[Ag (fun q=>q.2.2.1 j1)]
     grind
    .refine(O 5) ?_;refine Kj Z (fun j2=>?_) (fun j2=>?_)
     .refine(O 5) ?_;refine IR<|VG (.inr Z) Z Z (V) Z Z Z ?_;have e:GK s=([],140):=by unfold GK;rw[Ag (fun q=>by omega)]
      rw[e];exact⟨Z,a2⟩
     .refine(O 7) ?_;refine IR<|VG (.inr Z) Z Z (V) Z Z Z ?_;have e:GK s=(IB (kept (BN s)),0):=by unfold GK;rw[Aj ⟨bm,h5,j1,X⟩]
      rw[e];exact⟨Z,a2⟩
   .rintro D c pre W hD al⟨p0,rfl,rfl,v,t,f,E,C⟩hK;obtain⟨A,c,rfl,hc,a4⟩:=f.slice
    have a3:wt (kept p0)<=140737488355328:=by
     have q1:=cB OS p0;have q2:=Tx s;obtain⟨r,Q⟩:=al;rw[<-Q,cA,cA]at q2;unfold kept;omega
    have e:GK s=([],140):=by
     unfold GK;rw[Ag];rintro⟨_,h,_⟩;exact h (al.subset Bh)
    have bh:D<W.heap.size:=(NU.1 hK).1;refine(O 4∘Rc (jW A c (kept p0) _ W a4 (Bq _) hc a3)) ?_;rintro _ W2⟨rfl,j⟩;refine(O 4) ?_;have V:W2.heap[D]? =J (.deferred (J [])):=(j.block D bh).trans hK;have a2:Be w (W2.putObj D (.deferred Aa)):=Be.putObj ((a.trans C).trans j) (by have:=a.size;have:=m.size;omega) _;have b2:=E.a j;refine(O 18) ?_;refine IR<|VG (.inr Z) Z Z (V) Z Z Z ?_;grind
end
section
attribute [local irreducible] EX OR KR
open Bz
def yF:pack (Bz.bitsOf Bz.magicT)=Bz.magicT:=by rfl
def Rb(l:Ae Bs)(x:Bs):Jk (l++[x])=Jk l++[Ee x].flatten:=by
 simp
def oC(s:Bg):∀x∈If s,x<4294967296:=fun x a=>by
 unfold If at a;split at a
 .grind
 .rw[Cp.1 a];exact Qp s
def PkI{s:Bg}(w:Ad)(B ab ub sb mb tb eb:Y)(pre:Od s)(W:Ad):Prop:=∃v u,Bk W ab 227 [v]/\Bn W w.heap.size 226 2 v (1+Alz pre) (Jk (Bz.bitsOf Bz.magicT::pre.map (fun x=>blkB x.1 (CY x.1))))/\(∀k,Pi v=J k->k≠sb/\k≠mb)/\Bk W ub 210 [u]/\Bn W w.heap.size 58 1 u (Alz pre) (BD .u32 (pre.map (fun x=>Fe x.1)))/\(∀k,Pi u=J k->k≠sb/\k≠mb)/\Bk W mb 3 [Bb ((20000:Y):H)]/\Bk W tb 9 [str []]/\Bk W eb 34 [Bb 0]/\Be w W/\B<=W.heap.size
def PkI.abd{s:Bg}{w:Ad}{B o j a m l n:Y}(S:∀k∈[a],w.heap.size<=k)(V:w.heap.size<=B)(y:o≠a/\j≠a/\m≠a/\l≠a/\n≠a):Abd [a] B (PkI (s:=s) w B o j a m l n):=fun pre A C T h d e=>by
 obtain⟨v,u,Q,P,N,L,K,I,G,E,D,i,g⟩:=h;obtain⟨x,t,r,q,p⟩:=y;have f:∀{k:Y},k≠a->k∉[a]:=Bh;exact⟨v,u,Q.abd d e (f x),P.abd d e Bf,N,L.abd d e (f t),K.abd d e Bf,I,G.abd d e (f r),E.abd d e (f q),D.abd d e (f p),Bp i d X Bf,BA g d.size⟩
def Aan(s:Bg)(hs:Alz s<=8192)(w:Ad):
 Bm eD 100 [str s,Bb ((1:Y):H),Bb ((20000:Y):H)] w fun v w'=>v=.tuple #[str (packS s (CY s)),Bb ((0:Y):H)]/\Be w w':=by
 refine Bm.Aks 3 func100 Z ntmps100 Bi Z ?_;refine(O 2∘Rm) ?_;rintro tb w1 fi c5 cb;refine(Rm) ?_;rintro eb w2 fd da b0;refine(O 7) ?_;refine Qe 18 Z (fun c1=>?_) (fun c1=>?_)
 .omega
 .refine(O 4) ?_;refine Qe 22 Z (fun c2=>?_) (fun c2=>?_)
  .omega
  .refine(O 4) ?_;refine Qe 26 Z (fun c3=>?_) (fun c3=>?_)
   .omega
   .refine(O 2∘Rc (mR 1 Bc w2)) ?_;rintro _ _⟨rfl,rfl⟩;refine(O 3) ?_;refine KR.as 31 (.bool Ai) Z (AF Value.bool (AN Bc))<|(O 9) ?_;refine KR.as 34 (.bool Ai) Z (AF Value.bool (AN X))<|(O 7) ?_;refine dP 1 Z Z im CE Z Z Z Z (by rfl) Bc ?_;rintro bb w3 fc ck cz;replace ck:Bk w3 bb 5 (BI [49]):=ck;refine(Rv (DR ck.sl)∘Rv (by exact Kd (s:=[66,90,104]) Z Z Bh)∘O 1) ?_;refine rm 1 ([[str [66,90,104,49],Bb 32]]) Z Z iq Ih Z Bc Z Z Z Bh Bc ?_;rintro gb w4 fb b2 cx
    replace b2:Bk w4 gb 226 (Jk [Bz.bitsOf Bz.magicT]):=by
     have e:Jk [Bz.bitsOf Bz.magicT]=[str [66,90,104,49],Bb 32]:=by
      show[str (pack (Bz.bitsOf Bz.magicT)),Value.int .i64 ((Alz (Bz.bitsOf Bz.magicT):Y):H)]=_;rw[yF,Bz.bitsOf_length];rfl
     rw[e];exact b2
    refine(Rm) ?_;rintro ab w5 fa dg ca;have z1:=cb.size;have z2:=b0.size;have z3:=cz.size;have z4:=cx.size;have z5:=ca.size;have f2:=c5.lt;have f1:=da.lt;have f0:=b2.lt;have fv:=dg.lt;have b6:=(cz.trans cx).trans ca;have x5:=(cb.trans b0).trans b6;refine(Rt dg) ?_;rintro w6 cm ch;refine(O 3) ?_;replace cm:Bk w6 ab 227 [.slice (J ⟨gb,0,Aa⟩) 1 1]:=cm;have z6:=ch.size;have d0:Be w2 w6:=Bp b6 ch b6.size Bv;have cr:Bn w6 w.heap.size 226 2 (.slice (J ⟨gb,0,Aa⟩) 1 1) 1 (Jk [Bz.bitsOf Bz.magicT]):=(Bn.Akk (s:=2) (cap:=1) (b2.a ca) X Z CB).j ch (by simp[Pi];omega);refine(Rm) ?_;rintro ub w7 e9 c4 b9;refine(O 6) ?_;have z7:=b9.size;have fu:=c4.lt;refine(Rc (Aau s 20000 w7)) ?_;rintro _ w8⟨sb,mb,rfl,e5,e6,ce,bn,j⟩;refine(O 2) ?_;have z8:=j.size;have fn:=ce.lt;have fs:=bn.lt;have b5:Be w2 w8:=(d0.trans b9).trans j;have x8:Be w w8:=(cb.trans b0).trans b5;have cp:=b9.trans j;have cq:=cr.a cp;have ez:=cm.a cp;have ee:=c4.a j;have eh:=(c5.a b0).a b5;have er:=da.a b5
    have c8:mb≠sb:=fun e=>by
     rw[e]at bn;exact AH Z (bn.ne ce Bc)
    have dk:∀k∈[sb],w.heap.size<=k:=fun k p=>by simp at p;omega
    refine qW Z (Nat.le_add_left _ _) func170 Bi Z Z Z (fun x:Nf s=>str x.1) (fun k p=>by simp at p;omega) (yq sb mb 20000 s X Bc w8 ce bn) (PkI w w8.heap.size ab ub sb mb tb eb) (fun c (pre:Od s) W=>False) (PkI.abd dk (BA x8.size (Bq _)) ⟨X,X,c8,X,X⟩) (fun c pre A B T h hm hT=>h.elim) (fun pre W h=>let ⟨_,_,_,_,_,_,_,_,h7,_⟩:=h;h7) (⟨_,_,ez,cq,(fun k p=>by simp[Pi]at p;omega),ee,Bn.nil _ _ _ _,(fun k p=>by simp[Pi]at p),bn,eh,er,x8,Bq _⟩) ?_ ?_ ?_
    .rintro l pre x W⟨v,u,h1,h2,h3,h4,h5,h6,h7,h8,h9,a2,dp⟩e7 _;obtain⟨x,d7,cv⟩:=x;subst d7;have el:pre=[]:=List.length_eq_zero_iff.1 X;subst el;have ge:=Qp x;refine(O 4∘Rc (blk_s x cv X W)) ?_;rintro _ wa⟨⟨f9,rfl⟩,a8⟩;refine(O 3) ?_;generalize e3:blkB x (CY x)=BB;refine(Ra) ?_;rintro e4 wb e8 ew cw;refine Xf Z Ih Z Z Z (by first|rfl|(simp only[Hb,Hc,GZ,Hu,Bool.and_eq_true,Value.oneCell'];repeat (first|assumption|exact Bn.one Ck|constructor))) (ew) Bh ?_;rintro wc cj em;refine(O 8) ?_;replace cj:Bk wc e4 226 (Ee BB):=cj;have xc:Be W wc:=Bp (a8.trans cw) em (a8.trans cw).size (by simp;have:=a8.size;omega);refine KR.as 53 (.bool Ai) Z (AF Value.bool (AN Bc))<|(O 4) ?_;have zc:=xc.size;have f5:=fun k p=>(h2.lt k p);have f6:=fun k p=>(h5.lt k p);have m1:=(h1.a xc);refine(O 1∘Rv (BX cj)) ?_;refine dS (w.heap.size) Z Z (fun _=>rfl) Z iq Ih Z Bc Bc Z Z (fun _=>rfl) (by rfl) ((a2.trans xc).size) (h2.a xc) CB X ?_;rintro _ v2 wd cs b8 dv;have d5:ab∉v.ownBlock.toList:=fun q=>h2.ne h1 Bc ab (by simpa using q) Z;have d6:=m1.j b8 d5;refine(Rt d6) ?_;rintro we bx cg;refine(O 1) ?_;replace bx:Bk we ab 227 [v2]:=bx;have d4:ub∉v.ownBlock.toList:=fun q=>h2.ne h4 Bc ub (by simpa using q) Z;have bh:Bk we ub 210 [u]:=((h4.a xc).j b8 d4).j cg Bv;have bf:Mo W we (ab::v.ownBlock.toList):=((Mo.Akj xc _).trans (b8.mono fun k p=>Gl _ p)).trans (cg.mono fun k p=>by rw[Cp.1 p];exact Ip ..)
     have ea:∀k,Pi u=J k->k≠ab/\k∉v.ownBlock.toList/\k≠ub:=fun k p=>by
      obtain⟨_,l5,bs⟩:=h5.K k p;refine⟨bs.ne h1 Bc,fun q=>?_,bs.ne h4 Bc⟩;obtain⟨_,l2,ey⟩:=h2.K k (by simpa using q);exact bs.ne ey Bc Z
     have b3:Bn we w.heap.size 58 1 u 0 []:=Bn.j h5 bf fun k p=>by
      grind
     refine dB (fun(u2:Ah) (wf:Ad)=>Mo we wf (ub::u.ownBlock.toList)/\Bk wf ub 210 [u2]/\Bn wf w.heap.size 58 1 u2 1 [.int .u32 ((Fe x:Y):H)]/\(Pi u2=Pi u∨∃g,Pi u2=J g/\we.heap.size<=g)) (fun(u2:Ah) (wf:Ad)=>[(2,Bb ((20000:Y):H))]) (fun(u2:Ah) (wf:Ad)=>wf) ?_ ?_
     .have co:∀(w8 w9 L V:Ad) (K:Ah),Be we.drew w8->Be w8 w9->Bn L 0 58 1 K (0+1) ([]++[.int .u32 ((Fe x:Y):H)])->w9.grownBy L (Pi u)->(Pi K=Pi u∨Pi K=J w9.heap.size)->Bk V ub 210 [K]->Mo L V [ub]->Mo we V (ub::u.ownBlock.toList)/\Bk V ub 210 [K]/\Bn V w.heap.size 58 1 K 1 [.int .u32 ((Fe x:Y):H)]/\(Pi K=Pi u∨∃g,Pi K=J g/\we.heap.size<=g):=fun w8 w9 L V K a b c d e f g=>by
       have x9:Be we w9:=((Be.drew we).trans a).trans b;have ze:=x9.size;have zz:w.heap.size<=we.heap.size:=BA a2.size bf.size
       have c9:∀k,Pi K=J k->w.heap.size<=k/\k≠ub:=fun k p=>by
        rcases e with e|e
        .grind
        .rw[e]at p;injection p with p;have:=bh.lt;omega
       refine⟨((Mo.Akj x9 _).trans ((Mo.grown d (fun k p=>by rw[p];simp)).mono fun k p=>Gl _ p)).trans (g.mono fun k p=>by rw[Cp.1 p];exact Ip ..),f,(Bn.base c fun k p=>(c9 k p).1).j g fun k p=>by grind,?_⟩;grind
      have bi:∀(w8 w9 L:Ad),Be we.drew w8->Be w8 w9->w9.grownBy L (Pi u)->Bk L ub 210 [u]:=fun w8 w9 L a b c=>((bh.drew.a a).a b).grown c fun e=>(ea ub e.symm).2.2 Z;refine qY (N:=6) (fun w'=>True) Bi Z Z ?_;have i:=trivial;refine(Gv [1])<|Ye 0 2 ?_ ?_
      .refine(Jo 0 (he:=by exact Bo bh.drew)) fun i=>(Yc 2 (UD x X we.drew)) ?_;rintro _ w8⟨rfl,j⟩;refine⟨Ay,fun i=>?_⟩;refine PP 3 1 Z Bi Z Z iC NN Z Z Z Z Z Bc ?_;rintro qb w9 b4 a7 al;refine⟨Ay,fun i=>?_⟩;refine GW.append 4 0 Z Bi Z Z iC NN Z Bc Z Z (((b3.a (Be.drew we)).a (j.trans al)).l (BC _)) (Src.Akm (m:=1) iC (Sl.Akk a7 a7.lt) Z (Ly (k:=.u32) (l:=[Fe x])) Bc) CB X (BC _) ?_;rintro K L a0 aj a3;have a5:=bi w8 w9 L j al aj;refine⟨Ay,fun i=>?_⟩;refine(Yt 5 a5) ?_;rintro V a4 a6;refine⟨Ay,fun i=>?_⟩;refine(Yd) ?_;refine KQ<|LS (K) (V) ⟨Z,Ay⟩ Z ?_;exact co w8 w9 L V K j al a0 aj a3 a4 a6
      .refine(Jc 2 (UD x X we.drew)) ?_;rintro _ w8⟨rfl,j⟩;refine⟨Ay,fun i=>?_⟩;refine Ye 0 3 ?_ ?_
       .refine(Jo 0 (he:=by exact Bo (bh.drew.a j))) fun i=>?_;refine PP 3 1 Z Bi Z Z iC NN Z Z Z Z Z Bc ?_;rintro qb w9 b4 a7 al;refine⟨Ay,fun i=>?_⟩;refine GW.append 4 0 Z Bi Z Z iC NN Z Bc Z Z (((b3.a (Be.drew we)).a (j.trans al)).l (BC _)) (Src.Akm (m:=1) iC (Sl.Akk a7 a7.lt) Z (Ly (k:=.u32) (l:=[Fe x])) Bc) CB X (BC _) ?_;rintro K L a0 aj a3;have a5:=bi w8 w9 L j al aj;refine⟨Ay,fun i=>?_⟩;refine(Yt 5 a5) ?_;rintro V a4 a6;refine⟨Ay,fun i=>?_⟩;refine(Yd) ?_;refine KQ<|LS (K) (V) ⟨Z,Ay⟩ Z ?_;exact co w8 w9 L V K j al a0 aj a3 a4 a6
       .refine JA 3 1 Z Z Z iC NN Z Z Z Z Z Bc ?_;rintro qb w9 b4 a7 al;refine⟨Ay,fun i=>?_⟩;refine(Yo 0 (he:=by exact Bo ((bh.drew.a j).a al))) fun i=>?_;refine GW.append 4 0 Z Bi Z Z iC NN Z Bc Z Z (((b3.a (Be.drew we)).a (j.trans al)).l (BC _)) (Src.Akm (m:=1) iC (Sl.Akk a7 a7.lt) Z (Ly (k:=.u32) (l:=[Fe x])) Bc) CB X (BC _) ?_;rintro K L a0 aj a3;have a5:=bi w8 w9 L j al aj;refine⟨Ay,fun i=>?_⟩;refine(Yt 5 a5) ?_;rintro V a4 a6;refine⟨Ay,fun i=>?_⟩;refine(Yd) ?_;refine KQ<|LS (K) (V) ⟨Z,Ay⟩ Z ?_;exact co w8 w9 L V K j al a0 aj a3 a4 a6
     .rintro u2 wf⟨mf,ed,b7,ds⟩;refine(O 1) ?_;refine KR.done ?_;have bc:Bn we w.heap.size 226 2 v2 (1+0+1) (Jk (Bz.bitsOf Bz.magicT::List.map (fun x:Nf x=>blkB x.1 (CY x.1)) [])++Ee BB):=cs.j cg fun k p=>by grind
      have cc:∀k,Pi v2=J k->k≠sb/\k≠mb/\k∉ub::u.ownBlock.toList:=fun k p=>by
       obtain⟨_,lb,hb⟩:=bc.K k p
       have n1:k∉ub::u.ownBlock.toList:=fun q=>by
        rcases List.mem_cons.1 q with q|q
        .grind
        .obtain⟨_,l5,bs⟩:=b3.K k (by simpa using q);exact hb.ne bs Bc Z
       rcases dv with e|⟨g,e,hg⟩
       .grind
       .rw[e]at p;injection p with p;exact⟨X,X,n1⟩
      have bm:mb≠ab/\mb∉v.ownBlock.toList/\mb∉ub::u.ownBlock.toList:=⟨h7.ne h1 Bc,fun q=>(h3 mb (by simpa using q)).2 Z,fun q=>by
       grind⟩
      have nm:∀k,k∈v.ownBlock.toList∨k∈u.ownBlock.toList->∃T l,(T=226∨T=58)/\Bk W k T l:=fun k p=>by
       rcases p with p|p
       .obtain⟨_,l',hb⟩:=h2.K k (by simpa using p);grind
       .obtain⟨_,l',hb⟩:=h5.K k (by simpa using p);grind
      have ct:∀{b:Y} {T:Aw} {l:Bl},Bk W b T l->T≠226->T≠58->b∉v.ownBlock.toList/\b∉u.ownBlock.toList:=fun {b T l} hb q1 q2=>⟨fun q=>by
       obtain⟨T',l',e,cl⟩:=nm b (.inl q);exact hb.ne cl (by rcases e with rfl|rfl<;>assumption) Z,fun q=>by
       obtain⟨T',l',e,cl⟩:=nm b (.inr q);exact hb.ne cl (by rcases e with rfl|rfl<;>assumption) Z⟩
      have kp:∀{b:Y} {T:Aw} {l:Bl},Bk W b T l->b≠ab->b≠ub->(b∉v.ownBlock.toList/\b∉u.ownBlock.toList)->Bk wf b T l:=fun {b T l} hb n1 n2 n3=>(hb.j bf Bf).j mf Bf;have mW:Mo W wf (ab::v.ownBlock.toList++(ub::u.ownBlock.toList)):=(bf.mono fun k p=>WR _ p).trans (mf.mono fun k p=>List.mem_append_right _ p);refine fun _ _=>⟨mW.keeps fun k p=>?_,fun k p=>?_,v2,u2,bx.j mf ?_,?_,fun k p=>⟨(cc k p).1,(cc k p).2.1⟩,ed,b7,fun k p=>?_,kp h7 bm.1 (h7.ne h4 Bc) ⟨bm.2.1,fun q=>bm.2.2 (Gl _ q)⟩,kp h8 X X (ct h8 Bc Bc),kp h9 X X (ct h9 Bc Bc),Bp a2 mW a2.size fun k p=>?_,BA dp mW.size⟩
      .rcases CW.1 p with q|q<;>rcases List.mem_cons.1 q with q|q
       .grind
       .obtain⟨T,l,_,hb⟩:=nm k (.inl q);exact⟨T,l,hb⟩
       .grind
       .obtain⟨T,l,_,hb⟩:=nm k (.inr q);exact⟨T,l,hb⟩
      .have p:k=sb:=by simpa using p
       rw[p];refine mW.block sb X ?_;simp only[CW,List.mem_cons,not_or];exact⟨⟨X,fun q=>(h3 sb (by simpa using q)).1 Z⟩,X,fun q=>(h6 sb (by simpa using q)).1 Z⟩
      .grind
      .have:Bn wf w.heap.size 226 2 v2 (1+0+1) (Jk (Bz.bitsOf Bz.magicT::List.map (fun x:Nf x=>blkB x.1 (CY x.1)) [])++Ee BB):=bc.j mf fun k p=>(cc k p).2.2;rw[<-e3]at this;exact this
      .rcases ds with e|⟨g,e,hg⟩
       .grind
       .rw[e]at p;injection p with p;have:=bf.size;omega
      .rcases CW.1 p with q|q<;>rcases List.mem_cons.1 q with q|q
       .omega
       .grind
       .omega
       .grind
    .rintro D xs W hD rfl⟨v,u,h1,h2,h3,h4,h5,h6,h7,h8,h9,a2,dp⟩hK
     have c6:∀{α:Type} (f:Bg->α),(KL s).map (fun x:Nf s=>f x.1)=if s=[]then[]else[f s]:=fun f=>by
      unfold KL;split<;>rfl
     rw[c6]at h5;have ek:(if s=[]then[]else[Fe s])=If s:=rfl;rw[ek]at h5
     have ec:Alz (KL s)=Alz (If s):=by
      unfold KL If;split<;>rfl
     rw[ec]at h5
     have et:∃bl:Ae Bs,(bl=(KL s).map fun x:Nf s=>blkB x.1 (CY x.1))/\bl.flatten=blocksB s (CY s)/\Alz bl<=1/\Alz bl=Alz (KL s):=⟨_,Z,by
      rw[c6 fun x=>blkB x (CY x)];unfold blocksB;grind,by
      grind,Bh⟩
     obtain⟨bl,df,dc,fl,db⟩:=et;rw[<-df,<-db]at h2;obtain⟨Au,cu,rfl,_,d1⟩:=h5.slice;have es:=UH _ (oC s)
     have f7:Alz (If s)<=1:=by
      unfold If;split<;>simp
     refine(O 3∘Rc (Pd W)) ?_;rintro _ wa⟨wb,rfl,d9,a8⟩;refine(O 5∘Rc (GU W.heap.size wb [] 25779555029136 48 Bc Bc Bc Bc wa d9)) ?_;rintro _ wc⟨rfl,d8,tc⟩;refine(O 4) ?_;have xc:Be W wc:=tc.below a8 a8.size (Bq _);refine(Rv (Bo (h4.a xc))∘Rc (ou (If s) Au cu (oC s) X wc _ (d1.a xc))) ?_;rintro _ _⟨rfl,rfl⟩;refine(O 1∘Rc (GU W.heap.size wb _ (GL (If s)) 32 X Bc es (by rw[EW,nb_length];decide) wc d8)) ?_;rintro _ we⟨rfl,c0,te⟩;refine(O 2) ?_;have xe:Be W we:=te.below xc xc.size (Bq _);generalize dn:[]++nb 48 25779555029136++nb 32 (GL (If s))=EB at c0;have gf:Alz EB=80:=by rw[<-dn];simp only[Bx,nb_length,ET]
     have C:=c0;have zW:=a2.size;have f3:=h1.lt;have I:=h2.a xe;have S:∀k,Pi v=J k->w.heap.size<=k/\k<W.heap.size:=fun k p=>h2.lt k p;have bd:ab∉v.ownBlock.toList:=fun q=>h2.ne h1 Bc ab (by simpa using q) Z;have d2:tb∉v.ownBlock.toList:=fun q=>h2.ne h8 Bc tb (by simpa using q) Z;have d3:eb∉v.ownBlock.toList:=fun q=>h2.ne h9 Bc eb (by simpa using q) Z
     have af:(Bz.bitsOf Bz.magicT::bl++[EB]).flatten=MJ s (CY s):=by
      rw[<-dn];unfold MJ;rw[<-dc];simp only[List.flatten_append,PS,List.flatten_nil,List.append_nil,EW,Cq,Gi]
     have f8:Alz (blocksB s (CY s))<=90000000:=eY s X
     have ai:Alz (MJ s (CY s))<=100000000:=by
      rw[streamB_length];omega
     have ba:∀l∈Bz.bitsOf Bz.magicT::bl++[EB],Alz l<=100000000:=fun l hl=>by
      rw[<-af]at ai;exact BA (vT hl) ai
     have a9:Alz (Bz.bitsOf Bz.magicT::bl++[EB])=1+Alz bl+1:=Bv;refine dB (fun(ob:Y) (wz:Ad)=>Bk wz ob 226 (Ee (MJ s (CY s)))/\Mo W wz v.ownBlock.toList/\W.heap.size<=ob) (fun(ob:Y) (wz:Ad)=>[(6,.pointer (J ⟨tb,0,Aa⟩)),(7,.pointer (J ⟨eb,0,Aa⟩)),(14,.pointer (J ⟨ob,0,Aa⟩)),(15,Bb ((0:Y):H))]) (fun(ob:Y) (wz:Ad)=>wz) ?_ ?_
     .skip
      refine WH (N:=15) (fun w'=>Be w w'/\Bk w' ab 227 [v]/\Mo W w' v.ownBlock.toList) Bi Z ?_;have i:(fun w'=>Be w w'/\Bk w' ab 227 [v]/\Mo W w' v.ownBlock.toList) we.drew:=⟨(a2.trans xe).trans (Be.drew we),(h1.a xe).drew,Mo.Akj (xe.trans (Be.drew we)) _⟩;have C:=C.a (Be.drew _);have I:=I.a (Be.drew _);refine(Gv [0,1,3])<|Ye 2 12 ?_ ?_
      .refine(Jc 2 (NS W.heap.size wb EB we.drew C)) ?_;rintro _ _⟨rfl,rfl⟩;refine⟨i,fun i=>?_⟩;refine Ye 4 12 ?_ ?_
       .refine(Jc 4 (MS W.heap.size wb EB we.drew C)) ?_;rintro _ _⟨rfl,rfl⟩;refine⟨i,fun i=>?_⟩;refine(Gv [5])<|Ye 6 12 ?_ ?_
        .refine TG 6 1 ([Ee EB]) Z Z Z iq Ih Z Bc Z Z Z (by first|(intro v hv;obtain⟨f,hf,rfl⟩:=Cr.1 hv;rfl)|(simp;done)|(simp;rfl)) Bc ?_;rintro cn w6 bq h6 y;refine⟨⟨i.1.trans y,i.2.1.a y,i.2.2.trans (Mo.Akj y _)⟩,fun i=>?_⟩;have C:=C.a y;have I:=I.a y;refine Ye 7 12 ?_ ?_
         .refine GO.append 7 0 Z Z Z iq Ih Z Bc Z Z (I.l (BC _)) (Src.Akm (m:=1) iq (Sl.Akk h6 h6.lt) Z (by simp[Value.oneCell']) Bc) CB X (BC _) ?_;rintro v7 w7 o G b1;obtain⟨A7,c7,rfl,_,_⟩:=o.slice;refine⟨⟨i.1.grown G fun k p=>(S k p).1,i.2.1.grown G fun e=>bd (by simp[<-e]),i.2.2.trans (Mo.grown G fun k p=>by rw[p];simp)⟩,fun i=>?_⟩;refine Ye 8 12 ?_ ?_
          .refine(Jc 8 (by have:=Nu (Bz.bitsOf Bz.magicT::bl++[EB]) ba X (by rw[af];exact ai) A7 c7 _ w7 (by obtain⟨_,_,e,_,sl⟩:=o.slice;cases e;rw[Rb];exact sl);rw[a9,af]at this;exact this)) ?_;rintro _ w8⟨rfl,j⟩;refine⟨⟨i.1.trans j,i.2.1.a j,i.2.2.trans (Mo.Akj j _)⟩,fun i=>?_⟩;have o:=o.a j;refine(Gv [9,10,11]∘Yn 12) ?_;rintro ob a1 E t n;have P:W.heap.size<=ob:=BA i.2.2.size E;refine⟨⟨i.1.trans n,i.2.1.a n,i.2.2.trans (Mo.Akj n _)⟩,fun i=>?_⟩;have o:=o.a n;refine(Ys 13 t) ?_;rintro ao Q r;refine⟨⟨Bp i.1 r i.1.size Bv,i.2.1.j r Bv,(i.2.2.Aku r P)⟩,fun i=>?_⟩;refine(Gv [14]∘Yd) ?_;refine KQ<|LS ob ao ⟨Z,Z,Z,Z,Ay⟩ Z ?_;exact⟨Q,i.2.2,P⟩
          .refine(Jn 12) ?_;rintro ob a1 E t n;have P:W.heap.size<=ob:=BA i.2.2.size E;refine⟨⟨i.1.trans n,i.2.1.a n,i.2.2.trans (Mo.Akj n _)⟩,fun i=>?_⟩;have o:=o.a n;refine(Yc 8 (by have:=Nu (Bz.bitsOf Bz.magicT::bl++[EB]) ba X (by rw[af];exact ai) A7 c7 _ a1 (by obtain⟨_,_,e,_,sl⟩:=o.slice;cases e;rw[Rb];exact sl);rw[a9,af]at this;exact this)) ?_;rintro _ w8⟨rfl,j⟩;refine⟨⟨i.1.trans j,i.2.1.a j,i.2.2.trans (Mo.Akj j _)⟩,fun i=>?_⟩;have o:=o.a j;have t:=t.a j;refine(Gv [9,10,11]∘Ys 13 t) ?_;rintro ao Q r;refine⟨⟨Bp i.1 r i.1.size Bv,i.2.1.j r Bv,(i.2.2.Aku r P)⟩,fun i=>?_⟩;refine(Gv [14]∘Yd) ?_;refine KQ<|LS ob ao ⟨Z,Z,Z,Z,Ay⟩ Z ?_;exact⟨Q,i.2.2,P⟩
         .refine(Jn 12) ?_;rintro ob a1 E t n;have P:W.heap.size<=ob:=BA i.2.2.size E;refine⟨⟨i.1.trans n,i.2.1.a n,i.2.2.trans (Mo.Akj n _)⟩,fun i=>?_⟩;have C:=C.a n;have I:=I.a n;have h6:=h6.a n;refine GW.append 7 0 Z Bi Z Z iq Ih Z Bc Z Z (I.l (BC _)) (Src.Akm (m:=1) iq (Sl.Akk h6 h6.lt) Z (by simp[Value.oneCell']) Bc) CB X (BC _) ?_;rintro v7 w7 o G b1;have t:=t.grown G (fun e=>by have:=(S _ e.symm).2;omega);obtain⟨A7,c7,rfl,_,_⟩:=o.slice;refine⟨⟨i.1.grown G fun k p=>(S k p).1,i.2.1.grown G fun e=>bd (by simp[<-e]),i.2.2.trans (Mo.grown G fun k p=>by rw[p];simp)⟩,fun i=>?_⟩;refine(Yc 8 (by have:=Nu (Bz.bitsOf Bz.magicT::bl++[EB]) ba X (by rw[af];exact ai) A7 c7 _ w7 (by obtain⟨_,_,e,_,sl⟩:=o.slice;cases e;rw[Rb];exact sl);rw[a9,af]at this;exact this)) ?_;rintro _ w8⟨rfl,j⟩;refine⟨⟨i.1.trans j,i.2.1.a j,i.2.2.trans (Mo.Akj j _)⟩,fun i=>?_⟩;have t:=t.a j;have o:=o.a j;refine(Gv [9,10,11]∘Ys 13 t) ?_;rintro ao Q r;refine⟨⟨Bp i.1 r i.1.size Bv,i.2.1.j r Bv,(i.2.2.Aku r P)⟩,fun i=>?_⟩;refine(Gv [14]∘Yd) ?_;refine KQ<|LS ob ao ⟨Z,Z,Z,Z,Ay⟩ Z ?_;exact⟨Q,i.2.2,P⟩
        .refine(Jn 12) ?_;rintro ob a1 E t n;have P:W.heap.size<=ob:=BA i.2.2.size E;refine⟨⟨i.1.trans n,i.2.1.a n,i.2.2.trans (Mo.Akj n _)⟩,fun i=>?_⟩;have C:=C.a n;have I:=I.a n;refine GB 6 1 ([Ee EB]) Z Bi Z Z iq Ih Z Bc Z Z Z (by first|(intro v hv;obtain⟨f,hf,rfl⟩:=Cr.1 hv;rfl)|(simp;done)|(simp;rfl)) Bc ?_;rintro cn w6 bq h6 y;refine⟨⟨i.1.trans y,i.2.1.a y,i.2.2.trans (Mo.Akj y _)⟩,fun i=>?_⟩;have C:=C.a y;have I:=I.a y;have t:=t.a y;refine GW.append 7 0 Z Bi Z Z iq Ih Z Bc Z Z (I.l (BC _)) (Src.Akm (m:=1) iq (Sl.Akk h6 h6.lt) Z (by simp[Value.oneCell']) Bc) CB X (BC _) ?_;rintro v7 w7 o G b1;have t:=t.grown G (fun e=>by have:=(S _ e.symm).2;omega);obtain⟨A7,c7,rfl,_,_⟩:=o.slice;refine⟨⟨i.1.grown G fun k p=>(S k p).1,i.2.1.grown G fun e=>bd (by simp[<-e]),i.2.2.trans (Mo.grown G fun k p=>by rw[p];simp)⟩,fun i=>?_⟩;refine(Yc 8 (by have:=Nu (Bz.bitsOf Bz.magicT::bl++[EB]) ba X (by rw[af];exact ai) A7 c7 _ w7 (by obtain⟨_,_,e,_,sl⟩:=o.slice;cases e;rw[Rb];exact sl);rw[a9,af]at this;exact this)) ?_;rintro _ w8⟨rfl,j⟩;refine⟨⟨i.1.trans j,i.2.1.a j,i.2.2.trans (Mo.Akj j _)⟩,fun i=>?_⟩;have t:=t.a j;have o:=o.a j;refine(Gv [9,10,11]∘Ys 13 t) ?_;rintro ao Q r;refine⟨⟨Bp i.1 r i.1.size Bv,i.2.1.j r Bv,(i.2.2.Aku r P)⟩,fun i=>?_⟩;refine(Gv [14]∘Yd) ?_;refine KQ<|LS ob ao ⟨Z,Z,Z,Z,Ay⟩ Z ?_;exact⟨Q,i.2.2,P⟩
       .refine(Jn 12) ?_;rintro ob a1 E t n;have P:W.heap.size<=ob:=BA i.2.2.size E;refine⟨⟨i.1.trans n,i.2.1.a n,i.2.2.trans (Mo.Akj n _)⟩,fun i=>?_⟩;have C:=C.a n;have I:=I.a n;refine(Yc 4 (MS W.heap.size wb EB a1 C)) ?_;rintro _ _⟨rfl,rfl⟩;refine⟨i,fun i=>?_⟩;refine(Gv [5]) ?_;refine GB 6 1 ([Ee EB]) Z Bi Z Z iq Ih Z Bc Z Z Z (by first|(intro v hv;obtain⟨f,hf,rfl⟩:=Cr.1 hv;rfl)|(simp;done)|(simp;rfl)) Bc ?_;rintro cn w6 bq h6 y;refine⟨⟨i.1.trans y,i.2.1.a y,i.2.2.trans (Mo.Akj y _)⟩,fun i=>?_⟩;have C:=C.a y;have I:=I.a y;have t:=t.a y;refine GW.append 7 0 Z Bi Z Z iq Ih Z Bc Z Z (I.l (BC _)) (Src.Akm (m:=1) iq (Sl.Akk h6 h6.lt) Z (by simp[Value.oneCell']) Bc) CB X (BC _) ?_;rintro v7 w7 o G b1;have t:=t.grown G (fun e=>by have:=(S _ e.symm).2;omega);obtain⟨A7,c7,rfl,_,_⟩:=o.slice;refine⟨⟨i.1.grown G fun k p=>(S k p).1,i.2.1.grown G fun e=>bd (by simp[<-e]),i.2.2.trans (Mo.grown G fun k p=>by rw[p];simp)⟩,fun i=>?_⟩;refine(Yc 8 (by have:=Nu (Bz.bitsOf Bz.magicT::bl++[EB]) ba X (by rw[af];exact ai) A7 c7 _ w7 (by obtain⟨_,_,e,_,sl⟩:=o.slice;cases e;rw[Rb];exact sl);rw[a9,af]at this;exact this)) ?_;rintro _ w8⟨rfl,j⟩;refine⟨⟨i.1.trans j,i.2.1.a j,i.2.2.trans (Mo.Akj j _)⟩,fun i=>?_⟩;have t:=t.a j;have o:=o.a j;refine(Gv [9,10,11]∘Ys 13 t) ?_;rintro ao Q r;refine⟨⟨Bp i.1 r i.1.size Bv,i.2.1.j r Bv,(i.2.2.Aku r P)⟩,fun i=>?_⟩;refine(Gv [14]∘Yd) ?_;refine KQ<|LS ob ao ⟨Z,Z,Z,Z,Ay⟩ Z ?_;exact⟨Q,i.2.2,P⟩
      .refine(Jn 12) ?_;rintro ob a1 E t n;have P:W.heap.size<=ob:=BA i.2.2.size E;refine⟨⟨i.1.trans n,i.2.1.a n,i.2.2.trans (Mo.Akj n _)⟩,fun i=>?_⟩;have C:=C.a n;have I:=I.a n;refine(Yc 2 (NS W.heap.size wb EB a1 C)) ?_;rintro _ _⟨rfl,rfl⟩;refine⟨i,fun i=>?_⟩;refine(Yc 4 (MS W.heap.size wb EB a1 C)) ?_;rintro _ _⟨rfl,rfl⟩;refine⟨i,fun i=>?_⟩;refine(Gv [5]) ?_;refine GB 6 1 ([Ee EB]) Z Bi Z Z iq Ih Z Bc Z Z Z (by first|(intro v hv;obtain⟨f,hf,rfl⟩:=Cr.1 hv;rfl)|(simp;done)|(simp;rfl)) Bc ?_;rintro cn w6 bq h6 y;refine⟨⟨i.1.trans y,i.2.1.a y,i.2.2.trans (Mo.Akj y _)⟩,fun i=>?_⟩;have C:=C.a y;have I:=I.a y;have t:=t.a y;refine GW.append 7 0 Z Bi Z Z iq Ih Z Bc Z Z (I.l (BC _)) (Src.Akm (m:=1) iq (Sl.Akk h6 h6.lt) Z (by simp[Value.oneCell']) Bc) CB X (BC _) ?_;rintro v7 w7 o G b1;have t:=t.grown G (fun e=>by have:=(S _ e.symm).2;omega);obtain⟨A7,c7,rfl,_,_⟩:=o.slice;refine⟨⟨i.1.grown G fun k p=>(S k p).1,i.2.1.grown G fun e=>bd (by simp[<-e]),i.2.2.trans (Mo.grown G fun k p=>by rw[p];simp)⟩,fun i=>?_⟩;refine(Yc 8 (by have:=Nu (Bz.bitsOf Bz.magicT::bl++[EB]) ba X (by rw[af];exact ai) A7 c7 _ w7 (by obtain⟨_,_,e,_,sl⟩:=o.slice;cases e;rw[Rb];exact sl);rw[a9,af]at this;exact this)) ?_;rintro _ w8⟨rfl,j⟩;refine⟨⟨i.1.trans j,i.2.1.a j,i.2.2.trans (Mo.Akj j _)⟩,fun i=>?_⟩;have t:=t.a j;have o:=o.a j;refine(Gv [9,10,11]∘Ys 13 t) ?_;rintro ao Q r;refine⟨⟨Bp i.1 r i.1.size Bv,i.2.1.j r Bv,(i.2.2.Aku r P)⟩,fun i=>?_⟩;refine(Gv [14]∘Yd) ?_;refine KQ<|LS ob ao ⟨Z,Z,Z,Z,Ay⟩ Z ?_;exact⟨Q,i.2.2,P⟩
     .rintro ob wz⟨gc,mz,gd⟩;have e2:=(NU.1 hK).1
      have e0:wz.heap[D]? =J (.deferred (J [])):=(mz.block D e2 fun q=>by
       obtain⟨_,l',fr,hb,_⟩:=h2.K D (by simpa using q);grind).trans hK
      have xz:Be w wz:=Bp a2 mz a2.size fun k p=>(S k (by simpa using p)).1;have ef:=h8.j mz d2;have en:=h9.j mz d3;have f4:=mz.size;refine(O 5∘Rt ef) ?_;rintro wy cd bj;replace cd:Bk wy tb 9 [str (packS s (CY s))]:=cd;have eo:=en.j bj Bv;refine(Rt eo) ?_;rintro wx ep cf;refine(O 1) ?_;have eg:=cd.j cf Bv;have e1:wx.heap[D]? =J (.deferred (J [])):=(cf.block D (by have:=bj.size;omega) Bv).trans ((bj.block D X Bv).trans e0);refine IR<|Acs (.inr Z) Z Z (e1) Z eT Z iW Z Z Z (eg) (ep) ?_;refine⟨Z,Be.putObj (Bp (Bp xz bj xz.size Bv) cf (BA xz.size bj.size) Bv) X _⟩
    .simp
end
section
open Bz
def Bn.apart{w w':Ad}{B T s n B2 T2 s2 n2:Y}{v v2:Ah}{xs xs2:Bl}(h:Bn w B T s v n xs)(h2:Bn w B2 T2 s2 v2 n2 xs2)(hT:T≠T2)(hg:w.grownBy w' (Pi v2)):Bn w' B T s v n xs:=
 Bn.j h (Mo.grown (S:=v2.ownBlock.toList) hg Bh) fun k hk q=>by
  obtain⟨_,l,hb⟩:=h.K k hk;obtain⟨_,l2,hb2⟩:=h2.K k Bf;exact hb.ne hb2 hT Z
def Ahr(s:Bg)(room d:Y)(out:Bg)(a:Bj):IH s room 0 d out a=Aa:=by rfl
def Ahq{s:Bg}{room f a:Y}{out:Bg}{d:Bj}{r:Bg×Y}(h:IH s room (f+1) a out d=J r):a+48<=8*Alz s/\
 ((num (BT s a 48)=25779555029136/\a+80<=8*Alz s/\num (BT s (a+48) 32)=GL d/\r=(out,(a+87)/8))∨
  (num (BT s a 48)=54156738319193/\∃x,MM s a room=J x/\Alz out+Alz x.1<=262144/\IH s room f x.2.2 (out++x.1) (d++[x.2.1])=J r)):=by
 rw[IH]at h;grind
end
section
attribute [local irreducible] EX
def Bd(w:Ad)(B b:Y)(l:Bg):Prop:=
 B<=b/\∃p v,(p=.pointer Aa∨p=.pointer (J ⟨b,0,Aa⟩))/\Bk w b 102 [p,v]/\(l=[]->v=.slice Aa 0 0)/\Bn w B 5 1 v (Alz l) (BI l)
def Bd.new{w:Ad}{B b:Y}(hB:B<=b)(h:Bk w b 102 [.pointer Aa,.slice Aa 0 0]):Bd w B b []:=⟨hB,_,_,.inl Z,h,fun _=>rfl,Bn.nil _ _ _ _⟩
def Bd.a{w w':Ad}{B b:Y}{l:Bg}(h:Bd w B b l)(hx:Be w w'):Bd w' B b l:=by
 obtain⟨g,p,v,f,e,d,a⟩:=h;exact⟨g,p,v,f,e.a hx,d,a.a hx⟩
def tS(b:Y)(p v:Ah)(w:Ad)(d:p=.pointer Aa∨p=.pointer (J ⟨b,0,Aa⟩))(a:Bk w b 102 [p,v]):
 Bm eD 83 [.pointer (J ⟨b,0,Aa⟩)] w fun r w'=>r=.tuple #[]/\Bk w' b 102 [.pointer (J ⟨b,0,Aa⟩),v]/\Mo w w' [b]:=by
 refine Bw func83 Z ntmps83 Bi Z ?_;refine(O 6) ?_;rcases d with rfl|rfl
 .refine(O 6∘Zv (by exact qB (s:=1) ko rg Bi a.shape (Nat.zero_lt_succ _) Z)∘Zv (by exact pW func111 Bi Bi Bi (E:=Extern.AbiNoEscape.same) Bi Z (Lib.run_noEscape _ _))∘Zv (by exact pX (z:=2) rg ko Bi a.shape Bi Z)∘O 2∘Zt a) ?_;rintro g f e;refine(O 1) ?_;refine KW.done<|Ib Z ?_;grind
 .refine(O 10∘Zv (by exact qo (z:=2) ko Bi Z Z)∘O 3) ?_;refine KW.done<|Ib Z ?_;exact⟨Z,a,Mo.refl _ _⟩
def Oy(T:Aw):Ar:=T==102||T==5
def Wj(B b:Y)(l s:Bg)(w:Ad)(h:Bd w B b l)(hs:s≠[])(V:Alz l+Alz s<=140737488355328)(P:B<=w.heap.size):
 Bm eD 49 [.pointer (J ⟨b,0,Aa⟩),str s] w fun r w'=>(∃q,r=q)/\Bd w' B b (l++s)/\Below B w w'/\Tm w w' B Oy:=by
 obtain⟨t,p,v,hp,L,hn,g⟩:=h;have af:Alz (BI l)=Alz l:=by simp[BI]
 refine Bw func49 Z ntmps49 (by rfl) Z ?_;refine(O 8∘Zc (tS b p v w hp L)) ?_;rintro _ C⟨rfl,x,m⟩;refine(O 7) ?_;have a:=g.j m (fun k f=>by simp;exact fun z=>g.ne L Bc k f z.symm);have b1:Below B w C:=Bp (Below.refl B w) m P (fun k f=>by simp at f;omega);have y:B<=C.heap.size:=BA P b1.size;refine(O 2) ?_;refine OW.append B Z Z im CE Z Bc Z Z a (Src.Aky eT s) CB X y ?_;rintro v2 A d n ab;refine(O 2) ?_;have o:=x.grown n (fun z=>a.ne x Bc b z.symm Z);have W:Below B w A:=Bp b1 (Mo.grown n (S:=v.ownBlock.toList) (fun k e=>by grind)) y (fun k f=>(a.lt k (FG.1 f)).1);have N:B<=A.heap.size:=BA P W.size;refine(Zt o) ?_;rintro Q K j;refine(O 8) ?_;have b3:Below B w Q:=Bp W j N (fun k f=>by simp at f;omega);have I:=d.j j (fun k f=>by simp;exact fun z=>d.ne o Bc k f z.symm);have G:Tm w C B Oy:=(Tm.set L m t).mono fun T i=>by simp at i;simp[Oy,i]
 have E:Tm C A B Oy:=(Tm.grown a n).mono fun T i=>by simp at i;simp[Oy,i]
 have D:Tm A Q B Oy:=(Tm.set o j t).mono fun T i=>by simp at i;simp[Oy,i]
 refine(BF) ?_;refine⟨⟨_,Z⟩,⟨t,_,v2,.inr Z,K,fun q=>absurd q (by simp[hs]),?_⟩,b3,(G.trans E).trans D⟩;rw[Bx];have e:BI (l++s)=BI l++BI s:=by simp[BI]
 grind
def pI(B b:Y)(l s:Bg)(w:Ad)(h:Bd w B b l)(hs:s≠[])(hlen:Alz l+Alz s<=140737488355328)(hB:B<=w.heap.size):
 Bm eD 49 [.pointer (J ⟨b,0,Aa⟩),str s] w fun r w'=>(∃q,r=q)/\Bd w' B b (l++s)/\Below B w w':=
 (Wj B b l s w h hs hlen hB).mono fun _ _ h=>⟨h.1,h.2.1,h.2.2.1⟩
def UA(B b:Y)(l:Bg)(w:Ad)(h:Bd w B b l)(j:Alz l<=140737488355328)(C:B<=w.heap.size):
 Bm eD 51 [.pointer (J ⟨b,0,Aa⟩)] w fun r w'=>r=str l/\Below B w w':=by
 obtain⟨x,p,v,A,d,n,a⟩:=h;refine Bw func51 Z ntmps51 Bi Z ?_;refine(O 5) ?_;rcases Decidable.em (l=[])with hl|hl
 .obtain rfl:=n hl;subst hl;refine(O 4∘Zq (by exact fun _=>Bo d)∘Zq (by exact fun _=>qz Z)∘O 3∘Zq (by exact fun _=>Bo d)∘O 1∘Zq (by exact fun _=>qC Z Z)∘O 1∘QW.nil) fun k=>(Bu) ?_;exact⟨Z,Uw (Below.refl B w) k⟩
 .have e:Alz l≠0:=fun z=>hl (Im z);rcases a.2 with⟨_,m⟩|⟨g,y,rest,rfl,o,i,f,t,q⟩
  .exact AH m e
  .refine Kk 10 Bi Bi<|HW.val Z Z (EX.move Z)<|HW.val Z Z (DU Z)<|HW.val Z Z (Dw (off:=1) iP Z Z Rs Z Z)<|HW.val Z Z (CV im Z Z (d.I Z))<|HW.val Z Z (dj X Z)<|HW.val Z Z (EX.move Z)<|HW.val Z Z (DU Z)<|HW.val Z Z (Dw (off:=1) iP Z Z Rs Z Z)<|HW.val Z Z (CV im Z Z (d.I Z))<|HW.val Z Z (PN im Z)<|HW.tail<|(Zv (by exact dq (g:=g) (l:=l) (rest:=rest) qr Bi (i.drewN _) hl X Z Z)∘O 2∘Bu) ?_;exact⟨Z,Lib.below_freeze (Uw (Below.refl B w) _) (p:=⟨g,0,Aa⟩) o _⟩
end
section
attribute [local irreducible] EX
open Fld
def Zp(l:Bg)(w:Ad):Bm eD 192 [str l,.int .u8 ((0:Y):H)] w fun v w'=>v=Bb (Lib.indexByte l 0)/\w'=w:=
 Hj func192 (by rfl) (Aga ⟨⟨l⟩⟩ 0 w)
def aq(s:Bg)(Q:Alz s<=140737488355328)(a bs m:Y)(I:Bl)(p:AI->Ar)(f:Y->Ad->Prop)(S:Bj)(E:a∉S)(D:bs∉S)(N:a≠bs)
 (g:∀j w (h:j<Alz s),f j w->Bm eD m ([.int .u8 ((s[j]'h).toNat:H)]++I) w fun v w'=>v=.bool (p (s[j]'h))/\Mo w w' S/\f (if p (s[j]'h)then j+1 else j) w')
 (n:∀j w w',f j w->Mo w w' [a]->f j w')
 (i:Y) (hi:i<=Alz s) (w:Ad) (y:Bk w a 3 [Bb (i:H)]) (t:Bk w bs 9 [str s]) (x:f i w):
 Bm eD 241 [.func (.func m) #[] I.toArray,.pointer (J ⟨a,0,Aa⟩),.pointer (J ⟨bs,0,Aa⟩)] w fun v w'=>
  v=.tuple #[]/\∃i':Y,i'<=Alz s/\s.drop i'=(s.drop i).dropWhile p/\Bk w' a 3 [Bb (i':H)]/\Bk w' bs 9 [str s]/\f i' w'/\Mo w w' (a::S):=by
 refine Bw func241 Z ntmps241 (by rfl) Z ?_;refine(O 1)<|Lo (fun((j,wr):Y×Ad)=>(j<=Alz s/\(s.drop j).dropWhile p=(s.drop i).dropWhile p/\Bk wr a 3 [Bb (j:H)]/\Bk wr bs 9 [str s]/\f j wr/\Mo w wr (a::S),[(0,.func (.func m) #[] I.toArray),(1,.pointer (J ⟨a,0,Aa⟩)),(2,.pointer (J ⟨bs,0,Aa⟩))],wr,Alz s-j)) (i,w) ?_ ?_
 .exact⟨hi,Z,y,t,x,Mo.refl _ _⟩
 .rintro⟨j,wr⟩⟨T,K,y,t,x,B⟩;refine(O 8)<|Zd 8 (fun A=>?_) fun A=>?_
  .refine(O 4∘Ea (g j wr A x)) ?_;rintro _ P⟨rfl,d,e⟩;refine(O 2) ?_;have q:=y.j d E;have o:=t.j d D;refine Ga Z (fun r=>?_) (fun r=>?_)
   .rw[Aj r]at e;refine(O 5∘Zt q) ?_;rintro L G l;refine(O 2)<|Lb ((j+1),L) ?_;refine⟨X,?_,G,o.j l Bf,n _ _ _ e l,(B.trans (d.mono (fun k C=>by simp[C]))).trans (l.mono Bh)⟩;rw[<-K,Yq s j A,List.dropWhile_cons_of_pos r]
   .rw[Ag (by simp[r])]at e;refine(O 1) ?_;refine KW.done<|Ib Z ?_;refine⟨Z,j,X,?_,q,o,e,B.trans (d.mono (fun k C=>by simp[C]))⟩;rw[<-K,Yq s j A,dG (by simp[r])]
  .refine(O 9) ?_;refine KW.done<|Ib Z ?_;obtain rfl:j=Alz s:=X;refine⟨Z,Alz s,X,?_,y,t,x,B⟩;simp_all
def sp_c(c:AI)(w:Ad):Bm eD 242 [.int .u8 (c.toNat:H)] w fun v w'=>v=.bool (HY 32 32 c)/\w=w':=by
 refine Bw func242 Z ntmps242 (by rfl) Z ?_;refine(O 10∘Bu) ?_;exact⟨by simp[HY],Z⟩
def nul_c(c:AI)(w:Ad):Bm eD 244 [.int .u8 (c.toNat:H)] w fun v w'=>v=.bool (HY 32 0 c)/\w=w':=by
 refine Bw func244 Z ntmps244 (by rfl) Z ?_;refine(O 9)<|Zd 5 (fun a=>?_) fun a=>?_
 .refine(O 5∘Bu) ?_;exact⟨by simp[HY,a],Z⟩
 .refine(O 5∘Bu) ?_;exact⟨by simp[HY,a],Z⟩
def oct_c(c:AI)(g f:Y)(l:g≠f)(n:Y)(y:n<=90071992547409920+255)(w:Ad)(i:Bk w g 4 [.bool (decide (9007199254740992<n))])(h:Bk w f 3 [Bb (n:H)]):
 Bm eD 243 [.int .u8 (c.toNat:H),.pointer (J ⟨g,0,Aa⟩),.pointer (J ⟨f,0,Aa⟩)] w fun v w'=>v=.bool (Fj c)/\Mo w w' [g,f]/\
  ∃m:Y,m=(if Fj c=Af then(if n<=9007199254740992 then 8*n+(c.toNat-48)else n)else n)/\Bk w' g 4 [.bool (decide (9007199254740992<m))]/\Bk w' f 3 [Bb (m:H)]:=by
 have A:c.toNat<256:=c.toNat_lt;refine Bw func243 Z ntmps243 (by rfl) Z ?_;refine(O 10)<|Zd 7 (fun r=>?_) fun r=>?_
 .have a:Fj c=Ai:=by simp only[Fj,Rx,decide_eq_false_iff_not];omega
  refine(O 9∘Bu) ?_;rw[a];exact⟨Z,Mo.refl _ _,n,Z,i,h⟩
 .refine(O 4)<|Zi (fun q=>?_) fun q=>?_
  .have a:Fj c=Ai:=by simp only[Fj,Rx,decide_eq_false_iff_not];omega
   refine(O 4∘Bu) ?_;rw[a];exact⟨Z,Mo.refl _ _,n,Z,i,h⟩
  .have a:Fj c=Af:=by simp only[Fj,Bool.and_eq_true,decide_eq_true_eq];omega
   refine(O 7)<|Zi (fun p=>?_) fun p=>?_
   .refine(O 5∘Zv (by exact Kg (b:=48) (m:=255) Z Z Z X)∘O 2∘Zt h) ?_;rintro x j e;refine(O 2) ?_;have k:=i.j e Bv;refine(O 2∘Zt k) ?_;rintro t o d;refine(O 5∘Bu) ?_;refine⟨by rw[a],(e.mono Bh).trans (d.mono Bh),_,Z,?_,?_⟩
    .grind
    .rw[Aj a,Aj X];exact j.j d Bv
   .refine(O 5∘Bu) ?_;refine⟨by rw[a],Mo.refl _ _,n,?_,i,h⟩;grind
def uU(l:Bg)(p:AI->Ar):(l.dropWhile p).takeWhile p=[]:=by
 cases h:l.dropWhile p with
 |nil=>rfl
 |cons c r=>
  have:=List.head_dropWhile_not p (l:=l) Bf;simp_all
def zP(s:Bg)(hs:Alz s<=140737488355328)(w:Ad):
 Bm eD 191 [str s] w fun v w'=>v=.tuple #[Bb ((num s).1:Y),Bb ((num s).2:Y)]/\Be w w':=by
 refine Bw func191 Z ntmps191 (by rfl) Z ?_;refine(O 2) ?_;refine Mb Z Z Z Z ?_;rintro bs w1 bd E r;refine(O 5∘Mf) ?_;rintro bi w2 bc K l;have l1:=E.lt;refine(Zt K) ?_;rintro w3 a7 x;refine(O 3∘Zv (by exact FZ Z Z)∘O 5) ?_;have a0:=(E.a l).j x Bv;have e3:Be w w3:=Bp (r.trans l) x (by have:=r.size;have:=l.size;omega) Bf;have z2:=l.size;have z1:=r.size;have z3:=x.size;have l2:=K.lt;refine(Ea (aq s hs bi bs _ [] (HY 32 32) (fun _ _=>True) [] Bh Bh X (fun j w hj _=>(sp_c _ w).mono fun v w'⟨N,L⟩=>⟨N,L▸Mo.refl _ _,Ay⟩) (fun _ _ _ _ _=>trivial) 0 X w3 a7 a0 Ay)) ?_;rintro _ w4⟨rfl,i4,aj,o,d,p,_,A⟩;refine(O 3) ?_;have e4:Be w w4:=Bp e3 A X Bv;have z4:=A.size;refine(Mf) ?_;rintro T w5 ba I k;refine(Mf) ?_;rintro V w6 a9 G e;have l5:=I.lt;have l6:=G.lt;have z5:=k.size;have z6:=e.size;refine(Zt (I.a e)) ?_;rintro w7 a4 g;have a2:=G.j g Bv;refine(Zt a2) ?_;rintro w8 bm f;refine(O 4∘Zv (by exact FZ Z Z)) ?_;have z7:=g.size;have z8:=f.size;have bq:=a4.j f Bv;have a6:=(((d.a k).a e).j g (by simp;have:=d.lt;omega)).j f (by simp;have:=d.lt;omega);have ao:=(((p.a k).a e).j g (by simp;have:=p.lt;omega)).j f (by simp;have:=p.lt;omega);have e8:Be w w8:=Bp (Bp ((e4.trans k).trans e) g X Bv) f X Bv
 have af:=aq s hs bi bs 243 [.pointer (J ⟨V,0,Aa⟩),.pointer (J ⟨T,0,Aa⟩)] Fj (fun j w=>∃n:Y,n<=90071992547409920+255/\FA 8 n ((s.drop j).takeWhile Fj)=FA 8 0 ((s.drop i4).takeWhile Fj)/\Bk w V 4 [.bool (decide (9007199254740992<n))]/\Bk w T 3 [Bb (n:H)]) [V,T] (by simp;have:=d.lt;omega) (by simp;have:=p.lt;omega) X
  (fun j w hj⟨n,Q,q,hb,hi⟩=>(oct_c (s[j]) V T X n Q w hb hi).mono fun v w'⟨N,L,m,B,h3,h4⟩=>by
   have hc:(s[j]).toNat<256:=(s[j]).toNat_lt;refine⟨N,L,m,Bf,?_,h3,h4⟩;rw[<-q,Yq s j hj];by_cases ho:Fj s[j]=Af
   .rw[Aj ho]at B ⊢;rw[List.takeWhile_cons_of_pos ho,FA,B]
   .simp_all)
  (fun j w w'⟨n,Q,q,hb,hi⟩B=>⟨n,Q,q,hb.j B (by simp;have:=d.lt;omega),hi.j B (by simp;have:=d.lt;omega)⟩)
  i4 aj w8 a6 ao ⟨0,X,Z,Bf,Bf⟩
 refine(Ea af) ?_;rintro _ w9⟨rfl,i9,ai,C,a5,al,⟨n,Q,q,a1,a3⟩,y⟩;refine(O 4) ?_;have z9:=y.size;have e9:Be w w9:=Bp e8 y X Bv;refine(Ea (aq s hs bi bs _ [] (HY 32 0) (fun _ _=>True) [] Bh Bh X (fun j w hj _=>(nul_c _ w).mono fun v w'⟨N,L⟩=>⟨N,L▸Mo.refl _ _,Ay⟩) (fun _ _ _ _ _=>trivial) i9 ai w9 a5 al Ay)) ?_;rintro _ W⟨rfl,ab,a8,D,bl,bf,_,i⟩;refine(O 4) ?_;have P:Be w W:=Bp e9 i X Bv;have bh:=a1.j i Bv;have bj:=a3.j i Bv;refine(O 5) ?_;rw[C,uU]at q;simp only[FA]at q;rw[MW]at o
 have t:(((s.dropWhile (HY 32 32)).dropWhile Fj).dropWhile (HY 32 0)≠[])↔ab<Alz s:=by
  rw[<-o,<-C,<-D];simp
 refine Zi (fun S=>?_) fun S=>?_
 .have a:num s=(0,150):=by simp only[num];rw[Aj (t.2 S)]
  refine(O 5∘BF) ?_;grind
 .refine(O 6)<|Zi (fun h6=>?_) fun h6=>?_
  .have a:num s=(0,3):=by simp only[num];rw[Ag (fun h=>S (t.1 h)),<-o,<-q,Aj h6]
   refine(O 5∘BF) ?_;rw[a];exact⟨Z,P⟩
  .have a:num s=(n,0):=by simp only[num];rw[Ag (fun h=>S (t.1 h)),<-o,<-q,Ag h6]
   refine(O 7∘BF) ?_;rw[a];exact⟨Z,P⟩
def oB(s:Bg)(k:Alz s<=140737488355328)(w:Ad):
 Bm eD 155 [str s] w fun v w'=>v=.tuple #[Bb ((sum s).1:Y),Bb ((sum s).2:Y)]/\w=w':=by
 refine Bw Bh Z ntmps155 (by rfl) Z ?_;refine(O 12)<|Zi (fun a=>?_) fun a=>?_
 .have j:sum s=(0,2):=by unfold sum;rw[Aj a]
  refine(O 5∘BF) ?_;grind
 .have j:sum s=(Fp s 512,0):=by unfold sum;rw[Ag a]
  refine(O 13)<|Lo (fun i=>(i<=512,[(0,str _),(4,.int _ (((Fp s i)):H)),(10,.int _ _),(11,.int _ i)],w,512-i)) 0 ?_ ?_
  .omega
  .rintro i l;have n:=VU s i;refine(O 5)<|Zi (fun d=>?_) fun d=>?_
   .have m:s[i].toNat<256:=s[i].toNat_lt;have f:s.getD i 0=s[i]:=by simp[BQ d]
    refine(O 13)<|Zd 16 (fun h=>?_) fun h=>?_
    .refine(O 4)<|Zi (fun g=>?_) fun g=>?_
     .refine(O 10∘Ct 4 (Bb (((Fp s (i+1)):Y))) (e:=by simp[Fp,h,g]))<|Lb _ ?_;omega
     .refine(O 14∘Ct 4 (.int _ (((Fp s (i+1))):H)) (e:=by simp only[Fp];rw[Ag X,f]))<|Lb _ ?_;omega
    .refine(O 19∘Ct 4 (.int _ (((Fp s (i+1))):H)) (e:=by simp only[Fp];rw[Ag X,f]))<|Lb _ ?_;omega
   .refine(O 7∘BF) ?_;grind
def XC(n:Y):BI (Cx n)=BH n (.int .u8 0):=by simp[BI,Cx]
def St(s:Bg)(f:Alz s<=140737488355328)(w:Ad):
 Bm eD 154 [str s] w fun v w'=>v=str (cut s)/\w=w':=by
 refine Bw func154 Z ntmps154 (by rfl) Z ?_;refine(O 8∘Zc (Zp s w)) ?_;rintro _ _⟨rfl,rfl⟩;refine(O 7) ?_;rcases OQ s 0 with⟨a,d⟩|⟨i,a,d,e,g⟩
 .rw[a];refine Zi (fun h=>?_) fun h=>?_
  .omega
  .refine(O 6∘Bu) ?_;rw[UJ d];exact⟨Z,Z⟩
 .rw[a];refine Zi (fun h=>?_) fun h=>?_
  .refine(O 4∘Zv (by exact Kf eT Z Z X)∘O 2∘Bu) ?_;rw[cut,e];exact⟨Z,Z⟩
  .omega
def Vp(n:Y):Alz (Cx n)=n:=by simp[Cx]
def oN{s:Bg}{m:H}(h:m<0∨512<m):text s m=([],2):=by unfold text;grind
def bJ{s:Bg}{m:H}(h:¬(m<0∨512<m))(h2:m<Alz s∨cut s≠s):text s m=([],150):=by unfold text;grind
def oR{s:Bg}{m:H}(h:¬(m<0∨512<m))(h2:¬(m<Alz s∨cut s≠s)):text s m=(s++Cx (m.toNat-Alz s),0):=by unfold text;grind
def Aik(s:Bg)(y:Alz s<=140737488355328)(n:H)(h0:-9223372036854775808<=n)(h1:n<=9223372036854775807)(w:Ad):
 Bm eD 260 [str s,Bb n] w fun v w'=>v=.tuple #[str (text s n).1,Bb ((text s n).2:Y)]/\Be w w':=by
 refine Bw func260 Z ntmps260 (by rfl) Z ?_;refine(O 11)<|Zd 8 (fun j=>?_) fun j=>?_
 .have a:=oN (s:=s) (.inl j);refine(O 10∘BF) ?_;rw[a];exact⟨Z,Be.refl _⟩
 .refine(O 4)<|Zi (fun h=>?_) fun h=>?_
  .have a:=oN (s:=s) (.inr h);refine(O 5∘BF) ?_;rw[a];exact⟨Z,Be.refl _⟩
  .have d:¬(n<0∨512<n):=X;obtain⟨m,rfl⟩:=ES (show 0<=n by omega);refine(O 9)<|Zd 16 (fun p=>?_) fun p=>?_
   .have a:=bJ d (.inl (show(m:H)<Alz s by omega));refine(O 11∘BF) ?_;rw[a];exact⟨Z,Be.refl _⟩
   .refine(O 1∘Zc (Zp s w)) ?_;rintro _ _⟨rfl,rfl⟩;refine(O 3) ?_;rcases OQ s 0 with⟨f,k⟩|⟨i,f,k,A,r⟩
    .rw[f];have a:=oR (s:=s) (m:=(m:H)) d (by rintro(q|q);omega;exact q (UJ k));refine Zi (fun e=>?_) fun e=>?_
     .omega
     .refine(O 8∘Gc) ?_;rintro b t o g x;rw[<-XC]at g;have l:=Vp (m-Alz s);refine(Zv (DR g.sl (hl:=Vp _))∘O 4∘BF) ?_;grind
    .rw[f];have a:=bJ (s:=s) (m:=(m:H)) d (.inr (fun q=>(UI s).1 q r));refine Zi (fun e=>?_) fun e=>?_
     .refine(O 5∘BF) ?_;rw[a];exact⟨Z,Be.refl _⟩
     .omega
def lD{n m:H}(h:m<2∨20<m):Fk n m=([],2):=by unfold Fk;grind
def aa{n:H}{k:Y}(h:1<=k)(hk:k<=19)(h2:n<0∨n/8 ^ k≠0):Fk n ((k+1:Y):H)=([],150):=by
 unfold Fk;grind
def ac{n k:Y}(h:1<=k)(hk:k<=19)(h2:n/8 ^ k=0):Fk (n:H) ((k+1:Y):H)=(Dn n k++[0],0):=by
 unfold Fk;grind
def zR(n k c:Y)(e:c<k):(BI (Cx (k-c)++Dn n c++[0])).set (k-1-c) (.int .u8 ((Mm (n/8 ^ c%8)).toNat:H))=BI (Cx (k-(c+1))++Dn n (c+1)++[0]):=by
 have d:Cx (k-c)=Cx (k-(c+1))++[0]:=by
  unfold Cx;rw[show k-c=(k-(c+1))+1 by omega,PW]
 have a:Alz (BI (Cx (k-(c+1))))=k-1-c:=by simp[BI,Cx];omega
 rw[d,Vr];simp only[Cq,RT,Gi,XB];rw[<-a,LX _ _ (Bq _)];simp[BI]
def uP{d:Y}(h:d<10):(Mm d).toNat=48+d:=by
 simp[Mm];omega
def lE(n:H)(h0:-9223372036854775808<=n)(h1:n<=9223372036854775807)(m:H)(Q:-9223372036854775808<=m)(P:m<=9223372036854775807)(w:Ad):
 Bm eD 222 [Bb n,Bb m] w fun v w'=>v=.tuple #[str (Fk n m).1,Bb ((Fk n m).2:Y)]/\Be w w':=by
 refine Bw func222 Z ntmps222 (by rfl) Z ?_;refine(O 11)<|Zd 10 (fun B=>?_) fun B=>?_
 .have d:=lD (n:=n) (.inl B);refine(O 10∘BF) ?_;rw[d];exact⟨Z,Be.refl _⟩
 .refine(O 4)<|Zi (fun A=>?_) fun A=>?_
  .have d:=lD (n:=n) (.inr A);refine(O 5∘BF) ?_;rw[d];exact⟨Z,Be.refl _⟩
  .obtain⟨k,rfl⟩:∃k:Y,m=((k+1:Y):H):=⟨m.toNat-1,X⟩;have g:1<=k/\k<=19:=X;refine(O 7)<|Zd 16 (fun y=>?_) fun y=>?_
   .have d:=aa g.1 g.2 (.inl y);refine(O 14∘BF) ?_;rw[d];exact⟨Z,Be.refl _⟩
   .obtain⟨a,rfl⟩:=ES (show 0<=n by omega);refine(O 4∘Zv (by exact IP (s:=3*(k+1-1)) (p:=8 ^ k) Z Z (by rw[Nat.pow_mul];rfl) (by show 3*(k+1-1)<=64;omega))∘O 3)<|Zi (fun r=>?_) fun r=>?_
    .have d:=aa (n:=(a:H)) g.1 g.2 (.inr (fun q=>r Bf));refine(O 5∘BF) ?_;rw[d];exact⟨Z,Be.refl _⟩
    .have d:=ac (n:=a) g.1 g.2 (Dd.1 r);refine(O 4∘Gc) ?_;rintro b D I l G;refine(O 10∘Ct 7 (Bb (((k:H)-1-((0:Y):H)):H)) (e:=by congr 1;omega)) ?_;rw[<-XC]at l;refine Lo (fun((c,x,wr):Y×Y×Ad)=>(c<=k/\x=a/8 ^ c/\x<=9223372036854775807/\Bk wr b 5 (BI (Cx (k-c)++Dn a c++[0]))/\Be w wr,[(0,Bb x),(6,.slice (J ⟨b,0,Aa⟩) (k+1) (k+1)),(7,Bb (((k:H)-1-(c:H)):H))],wr,k-c)) (0,a,D) ?_ ?_
     .refine⟨X,Bh,X,?_,G⟩;have:Cx (k-0)++Dn a 0++[0]=Cx (k+1):=by simp[Cx,Dn,PW]
      grind
     .rintro⟨c,x,wr⟩⟨N,h,E,l,f⟩;refine(O 6)<|Zi (fun L=>?_) fun L=>?_
      .refine(Ct 7 (Bb (((k-1-c):Y):H)) (e:=by congr 1;omega)) ?_;have t:Alz (BI (Cx (k-c)++Dn a c++[0]))=k+1:=by simp[BI,Cx,QO];omega
       refine(O 8∘Zv (by exact MU (b:=7) (j:=3) (p:=8) (m:=9223372036854775807) Z Z Bc Bc Z X)∘O 3∘Zt l) ?_;rintro C K o;refine(O 3) ?_;refine OW.val Z Z (by first|exact IP (s:=3) (p:=8) Z Z Bc Bc|exact EX.shrZ (s:=3) (p:=8) Z Z Bc Bc)<|(O 8∘Ct 7 (Bb (((k:H)-1-((c+1:Y):H)):H)) (e:=by congr 1;omega))<|Lb ((c+1),(x/8),C) ?_;refine⟨X,by rw[h,Xb,Kr],X,?_,Bp f o f.size Bf⟩;rw[<-zR _ _ _ X,uP X,<-h];omega
      .obtain rfl:c=k:=X;refine(O 4) ?_;have i:=l.sl;rw[EY]at i;refine(Zv (DR i (hl:=by simp[Cx,QO]))∘O 3∘BF) ?_;rw[d];exact⟨Z,f⟩
def zS(n m:H):Alz (Fk n m).1<=20:=by
 unfold Fk;split
 .simp
 .split
  .simp
  .simp[QO];omega
def Aii(s:Bg)(m:H):Alz (text s m).1<=512:=by
 unfold text;split
 .simp
 .split
  .simp
  .simp[Cx];omega
def Aij{s:Bg}{m:H}(h:(text s m).2=0):cut (text s m).1=s/\(Alz (text s m).1:H)=m:=by
 unfold text at h ⊢;split at h
 .simp at h
 .rename_i d;rw[Ag d];split at h
  .simp at h
  .rename_i a;rw[Ag a];refine⟨fU (IM fun q=>a (.inr q)) _,?_⟩;simp[Cx];omega
end
section
attribute [local irreducible] EX
open Fld Ust
abbrev Fd:=Bg×Y
def JS(f:Fd):Bl:=[str f.1,Bb ((f.2:Y):H)]
def Gf(s:Bg)(width most:H):Fd:=((text s width).1,if most<(Alz s:H)then 150 else(text s width).2)
def EO(s:Bg)(p:Alz s<=140737488355328)(n:H)(h0:-9223372036854775808<=n)(h1:n<=9223372036854775807)(m:H)(w:Ad):
 Bm eD 220 [str s,Bb n,Bb m] w fun v w'=>v=.agg (JS (Gf s n m)).toArray/\Be w w':=by
 refine Bw Bh Z ntmps220 Bi Z ?_;refine(O 2∘Zn) ?_;rintro t r l k i;refine(O 5∘Zc (Aik s p n h0 h1 _)) ?_;rintro _ q⟨rfl,f⟩;refine(O 14) ?_;have g:=k.a f;have h:=i.trans f;refine Zi (fun j=>?_) fun j=>?_
 .have e:Gf s n m=((text s n).1,150):=by unfold Gf;rw[Aj j]
  refine(O 8∘Zs g (hlt:=Bq _)) ?_;rintro o d a;refine(O 1∘Kv d) ?_;rw[e];exact⟨Z,Bp h a h.size Bf⟩
 .have e:Gf s n m=((text s n).1,(text s n).2):=by unfold Gf;rw[Ag j]
  refine(O 6∘Zs g (hlt:=Bq _)) ?_;rintro o d a;refine(O 1∘Kv d) ?_;rw[e];exact⟨Z,Bp h a h.size Bf⟩
def HG(n:H)(h0:-9223372036854775808<=n)(h1:n<=9223372036854775807)(m:H)(l:-9223372036854775808<=m)(k:m<=9223372036854775807)(w:Ad):
 Bm eD 221 [Bb n,Bb m] w fun v w'=>v=.agg (JS (Fk n m)).toArray/\Be w w':=by
 refine Bw Bh Z ntmps221 Bi Z ?_;refine(O 2∘Zn) ?_;rintro r q j h d;refine(O 5∘Zc (lE n h0 h1 m l k _)) ?_;rintro _ p⟨rfl,a⟩;refine(O 11) ?_;have g:=h.a a;have i:=d.trans a;refine(Zs g (hlt:=Bq _)) ?_;rintro o f e;refine(O 1∘Kv f) ?_;exact⟨Z,Bp i e i.size Bf⟩
def FY(l:Ae Fd):Bg×Ar:=if ∀f∈l,f.2=0 then(l.flatMap (·.1),Af)else([],Ai)
def Mu(l:Ae Fd)(P:∀f∈l,f.2=0->f.1≠[])(t:∀f∈l,Alz f.1<=1000)(hl:Alz l<=1000)(A:Av AB)(k B:Y)(w:Ad)(hs:Sl w B A (l.flatMap JS)):
 Bm eD 219 [.slice A (Alz l) k] w fun v w'=>v=.tuple #[str (FY l).1,.bool (FY l).2]/\Be w w':=by
 have r:∀i,Alz ((l.take i).flatMap (·.1))<=1000*i:=by
  intro i
  induction i with
  |zero=>simp
  |succ i ih=>
   rw[LY];grind
 refine Bw Bh Z ntmps219 (by rfl) Z ?_;refine(O 7∘Zn) ?_;rintro I w1 y W K;refine(O 9)<|Lo (fun((i,wr))=>(i<=Alz l/\(∀j f,j<i->l[j]? =J f->f.2=0)/\Bd wr w.heap.size I ((l.take i).flatMap (·.1))/\Be w wr,[(4,.pointer (J ⟨I,0,Aa⟩)),(7,.slice A (Alz l) k),(8,Bb (Alz l:H)),(9,Bb i)],wr,Alz l-i)) (0,w1) ?_ ?_
 .exact⟨X,X,Bd.new y W,K⟩
 .rintro⟨i,wr⟩⟨hi,hz,n,G⟩;have L:=r i;refine(O 5)<|Zi (fun d=>?_) fun d=>?_
  .obtain⟨b,o,rfl,_,a⟩:=(hs.a G).flat (c:=2) (fun _=>rfl) Bh d;have m:=BL d;have N:l.take (i+1)=l.take i++[l[i]]:=Bh;have x:l[i]? =J l[i]:=Bh;have T:=t _ m;have C:=P _ m;generalize l[i]=f at a N x T C;refine(O 6∘Zv (Dj _ a)∘Zn) ?_;rintro fb w2 ab V q;refine(Zs V (hlt:=Bq _)) ?_;rintro w3 ai Q;refine(O 5) ?_;have p:Be _ _:=Bp q Q q.size Bf;have x3:=G.trans p;have D:=n.a p;refine(O 3)<|Zi (fun E=>?_) fun E=>?_
   .refine(O 5∘BF) ?_
    have e:FY l=([],Ai):=by
     unfold FY;rw[Ag];intro h;have:=h f (List.mem_of_getElem? x);omega
    grind
   .have h0:f.2=0:=X;refine(O 4∘Zc (pI w.heap.size I _ f.1 w3 D (C h0) X x3.size)) ?_;rintro _ w4⟨⟨q4,rfl⟩,af,b4⟩;refine(O 6)<|Lb ((i+1),w4) ?_;refine⟨X,fun j g S hg=>?_,?_,Below.trans x3 b4⟩
    .grind
    .grind
  .obtain rfl:i=Alz l:=X;rw[DY]at n L;refine(O 3∘Zc (UA w.heap.size I _ wr n X G.size)) ?_;rintro _ w5⟨rfl,b5⟩;refine(O 3∘BF) ?_
   have e:FY l=(l.flatMap (·.1),Af):=by
    unfold FY;rw[Aj];intro f hf;obtain⟨j,S,rfl⟩:=List.getElem_of_mem hf;exact hz j _ S (BQ S)
   rw[e];exact⟨Z,Below.trans G b5⟩
end
section
attribute [local irreducible] EX
def mn(p:Bg)(x:Alz p<=9223372036854775807)(w:Ad):Bm eD 127 [str p] w fun v w'=>∃r,v=.tuple #[str r.1,str r.2.1,.bool r.2.2]/\RI p r/\Be w w':=by
 refine Bw Bh Z ntmps127 Bi Z ?_;refine(O 13)<|Zi (fun d=>?_) fun d=>?_
 .refine(O 7∘Cy) ?_;exact⟨([],p,Af),Z,.inl ⟨X,Z⟩,Be.refl _⟩
 .refine(O 7)<|Lo (fun i=>((1<=i/\i<=Alz p/\∀j,j<i->¬good p j),[(0,str _),(5,.int _ i)],w,Alz p-i)) 1 ?_ ?_
  .exact⟨X,X,fun j f a=>by have:=a.2.1;omega⟩
  .rintro i⟨k,y,g⟩
   have stop:¬(i<Alz p-1/\i<=155)->∀j,¬good p j:=fun h j a=>by
    rcases CM j i with f|f
    .grind
    .have:=a.2.2;omega
   refine(O 9)<|Zd 15 (fun q=>?_) fun q=>?_
   .refine(O 4)<|Zi (fun o=>?_) fun o=>?_
    .have e:i<Alz p:=X;have l:=xC e;refine(O 10)<|Zd 25 (fun n=>?_) fun n=>?_
     .refine(O 8)<|Zi (fun m=>?_) fun m=>?_
      .have a:good p i:=Bf;refine(O 4∘Zq (by exact fun _=>Kf Bh Z Z X)∘O 3∘Zq (by exact fun _=>LR Bh Z Z X)∘O 3∘QW.nil) fun t=>(Cy) ?_;exact⟨(p.take i,p.drop (i+1),Af),Z,.inr (.inl ⟨X,i,a,g,Z⟩),Be.drewN _ _⟩
      .refine(O 7)<|Lb _ ?_;grind
     .refine(O 16)<|Lb _ ?_;grind
    .refine(O 7∘Cy) ?_;exact⟨([],[],Ai),Z,.inr (.inr ⟨X,stop X,Z⟩),Be.refl _⟩
   .refine(O 12∘Cy) ?_;exact⟨([],[],Ai),Z,.inr (.inr ⟨X,stop X,Z⟩),Be.refl _⟩
end
section
attribute [local irreducible] EX
open Fld Ust
def _root_.Go.Proofs.YtkmlafmjaeeanaaGreatDoor.Ust.Hd.cells(h:Hd):Bl:=[str h.g,Bb h.size,.int .u8 (h.kind:H),Bb h.mode,Bb h.time,str h.link,str h.n0,str h.n1,Bb h.i0,Bb h.i1]
def Ki(n:H):Prop:=-9223372036854775808<=n/\n<=9223372036854775807
structure _root_.Go.Proofs.YtkmlafmjaeeanaaGreatDoor.Ust.Hd.q(h:Hd):Prop where
 kind:h.kind<=255
 g:Alz h.g<=140737488351232
 link:Alz h.link<=140737488351232
 n0:Alz h.n0<=140737488351232
 n1:Alz h.n1<=140737488351232
 size:Ki h.size
 mode:Ki h.mode
 time:Ki h.time
 i0:Ki h.i0
 i1:Ki h.i1
def QB{s:Bg}{n m:Y}(h:KJ s m)(hm:m<=n)(a:n<=512):Gf s (n:H) (m:H)=(Dy s n,0):=by
 have d:=h.1;unfold Gf;rw[Ag X,oR X (by rw[not_or,Dd];exact⟨X,UJ h.2⟩)];rfl
def vD{s:Bg}{n m:Y}(h:¬KJ s m)(a:n<=512):(Gf s (n:H) (m:H)).2≠0:=by
 unfold Gf;simp only;split
 .decide
 .rename_i d;rw[bJ X (.inr fun e=>h ⟨X,(UI s).1 e⟩)];decide
def QN{n:H}{k:Y}(hk:1<=k)(d:k<=19){m:H}(h:CJ n m)(hm:m<((8 ^ k:Y):H)):Fk n ((k+1:Y):H)=(oc n k,0):=by
 obtain⟨a,rfl⟩:=ES h.1;have:=Qx h hm;rw[ac hk d Bf];rfl
def zT{n:H}{k:Y}(hk:1<=k)(d:k<=19){m:H}(h:¬CJ n m)(hm:m+1=((8 ^ k:Y):H)):(Fk n ((k+1:Y):H)).2≠0:=by
 rw[aa hk d]
 .decide
 .by_cases j:n<0
  .omega
  .refine .inr fun e=>h ⟨X,?_⟩;obtain⟨a,rfl⟩:=ES (show 0<=n by omega);have g:(((a/8 ^ k:Y)):H)=0:=by simpa using e
   have f:=by exact_mod_cast g
   have i:a<8 ^ k:=by
    rcases Nat.div_eq_zero_iff.1 f with h|h
    .grind
    .omega
   omega
def L1(h:Hd)(name:Bg):Ae Fd:=[Gf name 100 100,Fk h.mode 8,Fk h.i0 8,Fk h.i1 8,Fk h.size 12,Fk h.time 12,Gf [] 8 8]
def L2(h:Hd)(pre:Bg):Ae Fd:=[([BV h.kind],0),Gf h.link 100 100,(magic,0),Gf h.n0 32 31,Gf h.n1 32 31,Fk 0 8,Fk 0 8,Gf pre 155 155,Gf [] 12 12]
def gQ(n:Y)(h:n<=512):Gf [] (n:H) (n:H)=(Cx n,0):=by
 rw[QB ⟨Bh,Bh⟩ X h];rfl
def yu{h:Hd}(hm:May h){pre a:Bg}(g:Alz a<=100)(f:Alz pre<=155)(e:(0:AI)∉a)(d:(0:AI)∉pre):
 FY (L1 h a)=((HC h a).flatten++Cx 8,Af)/\FY (L2 h pre)=((Ig h pre).flatten,Af):=by
 have C:=QB (n:=100) ⟨g,e⟩ Bc Bc;have B:=QN (k:=7) Bc Bc hm.mode Bc;have A:=QN (k:=7) Bc Bc hm.i0 Bc;have y:=QN (k:=7) Bc Bc hm.i1 Bc;have x:=QN (k:=11) Bc Bc hm.size Bc;have w:=QN (k:=11) Bc Bc hm.time Bc;have v:=gQ 8 Bc;have t:=QB (n:=100) hm.link Bc Bc;have r:=QB (n:=32) hm.n0 Bc Bc;have q:=QB (n:=32) hm.n1 Bc Bc;have p:=QN (n:=0) (m:=0) (k:=7) Bc Bc ⟨Bc,Bc⟩ Bc;have o:=QB (n:=155) ⟨f,d⟩ Bc Bc;have l:=gQ 12 Bc
 have j:L1 h a=[(Dy a 100,0),(oc h.mode 7,0),(oc h.i0 7,0),(oc h.i1 7,0),(oc h.size 11,0),(oc h.time 11,0),(Cx 8,0)]:=by
  rw[<-C,<-B,<-A,<-y,<-x,<-w,<-v];rfl
 have i:L2 h pre=[([BV h.kind],0),(Dy h.link 100,0),(magic,0),(Dy h.n0 32,0),(Dy h.n1 32,0),(oc 0 7,0),(oc 0 7,0),(Dy pre 155,0),(Cx 12,0)]:=by
  rw[<-t,<-r,<-q,<-p,<-o,<-l];rfl
 constructor
 .rw[j];unfold FY;simp[HC]
 .rw[i];rfl
def jU{l:Ae Fd}(h:(FY l).2=Af):∀f∈l,f.2=0:=by
 unfold FY at h;grind
def yt{h:Hd}{pre a:Bg}(hk:JT h.kind)(d:(0:AI)∉h.g)(h1:(FY (L1 h a)).2=Af)(h2:(FY (L2 h pre)).2=Af):May h:=by
 have e:=jU h1;have i:=jU h2;have p:∀{n:H} {k:Y} {m:H},1<=k->k<=19->m+1=((8 ^ k:Y))->(Fk n _).2=0->CJ n m:=fun hk g j d=>IM fun f=>zT hk g f j d;have q:∀{s:Ae _} {n m:Y},n<=512->(Gf s n m).2=0->KJ s m:=fun f d=>IM fun h=>vD h f d
 exact⟨hk,d,q (n:=100) Bc (i _ (by simp[L2])),q (n:=32) Bc (i _ (by simp[L2])),q (n:=32) Bc (i _ (by simp[L2])),
  p (k:=7) Bc Bc Bc (e _ (by simp[L1])),p (k:=7) Bc Bc Bc (e _ (by simp[L1])),p (k:=7) Bc Bc Bc (e _ (by simp[L1])),
  p (k:=11) Bc Bc Bc (e _ (by simp[L1])),p (k:=11) Bc Bc Bc (e _ (by simp[L1]))⟩
structure FdOk(f:Fd):Prop where
 ne:f.2=0->f.1≠[]
 len:Alz f.1<=1000
def OK{s:Bg}{n:Y}{m:H}(h0:1<=n):FdOk (Gf s (n:H) m):=by
 refine⟨fun h e=>?_,?_⟩
 .unfold Gf at h e;split at h
  .omega
  .have:=(Aij h).2;grind
 .have:=Aii s n;show Alz (text s n).1<=1000;omega
def OJ(n:H)(m:Y)(hm:2<=m):FdOk (Fk n (m:H)):=by
 refine⟨fun h e=>?_,?_⟩
 .unfold Fk at h e;split at h
  .omega
  .rename_i d;rw[Ag d]at e;split at h
   .omega
   .rename_i a;rw[Ag a]at e;simp at e
 .have:=zS n m;omega
def l1_ok(h:Hd)(a:Bg):∀f∈L1 h a,FdOk f:=by
 intro f d;simp[L1,List.mem_cons,List.not_mem_nil,or_false]at d;rcases d with rfl|rfl|rfl|rfl|rfl|rfl|rfl
 .exact OK Bc
 .exact OJ _ 8 Bc
 .exact OJ _ 8 Bc
 .exact OJ _ 8 Bc
 .exact OJ _ 12 Bc
 .exact OJ _ 12 Bc
 .exact OK Bc
def l2_ok(h:Hd)(pre:Bg):∀f∈L2 h pre,FdOk f:=by
 intro f a;simp only[L2,List.mem_cons,List.not_mem_nil,or_false]at a;rcases a with rfl|rfl|rfl|rfl|rfl|rfl|rfl|rfl|rfl
 .exact⟨Bh,Bh⟩
 .exact OK Bc
 .exact⟨fun _=>by decide,Bc⟩
 .exact OK Bc
 .exact OK Bc
 .exact OJ _ 8 Bc
 .exact OJ _ 8 Bc
 .exact OK Bc
 .exact OK Bc
def MC{w:Ad}{b k:Y}{T:Aw}(h:Bk w b T [.int .u8 (k:H)])(hk:k<=255):Sl w w.heap.size (J ⟨b,0,Aa⟩) (BI [BV k]):=by
 have e:BI [BV k]=[.int .u8 k]:=by
  have:(BV k).toNat=k:=Bv;simp[BI,this]
 rw[e];exact h.sl
def tR(c:Y)(d:c<=255)(w:Ad):Bm eD 168 [str [48,53,120,103],str [BV c]] w fun v w'=>v=.bool (decide (JT c))/\w=w':=by
 refine(Hj func168 (by rfl) (nM ⟨#[48,53,120,103]⟩ (BV c) w)).mono ?_;rintro v w'⟨rfl,rfl⟩;refine⟨AF _ (decide_eq_decide.2 ?_),Z⟩;have e:(BV c).toNat=c:=Bv
 have a:BV c∈([48,53,120,103])↔JT c:=by
  simp only[List.mem_cons,List.not_mem_nil,or_false,<-Ku,e];rfl
 rcases OQ [48,53,120,103] (BV c)with⟨h1,h2⟩|⟨i,h1,_,_,h2⟩
 .grind
 .grind
def Aiv(h:Hd)(ho:h.q)(w:Ad):Bm eD 166 [.agg h.cells.toArray] w fun v w'=>v=.tuple #[str (JO h).1,Bb (((JO h).2:Y):H)]/\Be w w':=by
 have hk:=ho.kind;have b6:=ho.g;have q1:=ho.size;have q2:=ho.mode;have q3:=ho.time;have q4:=ho.i0;have q5:=ho.i1;unfold Ki at q1 q2 q3 q4 q5;refine Bw Bh Z ntmps166 Bi Z ?_;refine(O 2) ?_;refine Dq Z Z Z ?_;rintro Q w0 b3 a6 bj;refine(O 6) ?_;replace a6:=a6;refine(O 1∘Zc (mn h.g X _)) ?_;rintro _ w1⟨r,rfl,hr,ao⟩;refine(O 10) ?_;obtain rfl:=oh hr;have x1:=bj.trans ao;have b1:=a6.a ao;rcases hs1:(BO h.g).2.2 with _|_
 .skip
  have e:JO h=([],140):=by unfold JO;rw[Aj (.inl hs1)]
  refine(O 15∘BF) ?_;grind
 .skip
  refine(O 6∘Zv (by exact HJ (r:=[]) Z Z)∘O 2)<|Zi (fun ai=>?_) fun ai=>?_
  .have e:JO h=([],140):=by unfold JO;rw[Aj (.inr ai)]
   refine(O 5∘BF) ?_;grind
  .obtain⟨p1,p2,p3,p4,p5,p6,p7⟩:=bt hs1 ai;have b7:¬((BO h.g).2.2=Ai∨h.g=[]):=by rw[hs1];simp[ai]
   have bh:¬May h->JO h=([],160):=fun hm=>by unfold JO;grind
   have bf:May h->JO h=(Dr h,0):=fun hm=>by unfold JO;grind
   refine(O 6) ?_;refine Ks 1 Z Z im CE Z Z Z Z (by rfl) Bc ?_;rintro kb N L bq p;have x2:=x1.trans p;have b0:=b1.a p;refine(Zv (DR (MC bq hk))∘Zc (tR h.kind hk N)) ?_;rintro _ _⟨rfl,rfl⟩;refine(O 2)<|Zd 34 (fun a4=>?_) fun a4=>?_
   .have a0:¬JT h.kind:=by simpa using a4
    refine(O 12∘BF) ?_;rw[bh fun hm=>a0 hm.kind];exact⟨Z,x2⟩
   .have a0:JT h.kind:=by simpa using a4
    refine(O 2∘Zc (Zp h.g N)) ?_;rintro _ w3⟨rfl,rfl⟩;refine(O 3) ?_;have bd:=OQ h.g 0;refine Zi (fun hz=>?_) fun hz=>?_
    .have al:(0:AI)∈h.g:=by
      rcases bd with⟨q,_⟩|⟨_,_,_,_,q⟩
      .omega
      .exact q
     refine(O 5∘BF) ?_;rw[bh fun hm=>hm.g al];exact⟨Z,x2⟩
    .have al:(0:AI)∉h.g:=by
      rcases bd with⟨_,q⟩|⟨_,q,_⟩
      .exact q
      .omega
     have nl:=l1_ok h (BO h.g).2.1;have A:=l2_ok h (BO h.g).1;refine(O 2)<|Lc (fun(wr:Ad)=>(Be w wr/\Bk wr Q 167 h.cells,[(1,.pointer (J ⟨Q,0,Aa⟩)),(4,str ((BO h.g).1)),(7,str ((FY (L1 h (BO h.g).2.1)).1)),(6,.bool (FY (L1 h (BO h.g).2.1)).2)],wr)) ?_ ?_
     .skip
      refine(Yr 27 (fun w'=>Be w w'/\Bk w' Q 167 h.cells) ⟨x2.trans (Be.drew w3),b0.drew⟩) fun a=>(Gv [0,2,3,5,6,7,9,10,11,13,14,16,17]∘Yc 1 (EO (BO h.g).2.1 X ((100:Y):H) Bc Bc ((100:Y):H) w3.drew)) ?_;rintro _ w1⟨rfl,ao⟩;refine⟨⟨a.1.trans ao,a.2.a ao⟩,fun a=>?_⟩;refine(Yc 4 (HG h.mode q2.1 q2.2 ((8:Y):H) Bc Bc w1)) ?_;rintro _ w4⟨rfl,a9⟩;refine⟨⟨a.1.trans a9,a.2.a a9⟩,fun a=>?_⟩;refine(Yc 8 (HG h.i0 q4.1 q4.2 ((8:Y):H) Bc Bc w4)) ?_;rintro _ w8⟨rfl,a8⟩;refine⟨⟨a.1.trans a8,a.2.a a8⟩,fun a=>?_⟩;refine(Yc 12 (HG h.i1 q5.1 q5.2 ((8:Y):H) Bc Bc w8)) ?_;rintro _ af⟨rfl,y⟩;refine⟨⟨a.1.trans y,a.2.a y⟩,fun a=>?_⟩;refine(Yc 15 (HG h.size q1.1 q1.2 ((12:Y):H) Bc Bc af)) ?_;rintro _ bi⟨rfl,a2⟩;refine⟨⟨a.1.trans a2,a.2.a a2⟩,fun a=>?_⟩;refine(Yc 18 (HG h.time q3.1 q3.2 ((12:Y):H) Bc Bc bi)) ?_;rintro _ I⟨rfl,m⟩;refine⟨⟨a.1.trans m,a.2.a m⟩,fun a=>?_⟩;refine(Yc 19 (EO [] Bh ((8:Y):H) Bc Bc ((8:Y):H) I)) ?_;rintro _ b4⟨rfl,a1⟩;refine⟨⟨a.1.trans a1,a.2.a a1⟩,fun a=>?_⟩;refine GB 20 7 ((L1 h (BO h.g).2.1).map JS) Z Bi Z Z iD LM Z Bc Z Z Z (by first|(intro v hv;obtain⟨f,x,rfl⟩:=Cr.1 hv;rfl)|(simp;done)|(simp;rfl)) Bc ?_;rintro W D bs a7 l;refine⟨⟨a.1.trans l,a.2.a l⟩,fun a=>?_⟩;refine(Yc 21 (Mu (L1 h (BO h.g).2.1) (fun f x=>(nl f x).ne) (fun f x=>(nl f x).len) (by simp[L1]) (J ⟨W,0,Aa⟩) 7 _ D (by have K:=a7.sl;rw[<-IU]at K;exact K))) ?_;rintro _ S⟨rfl,g⟩;refine⟨⟨a.1.trans g,a.2.a g⟩,fun a=>?_⟩;have a7:=a7.a g;refine(Gv [22,23,24,25,26]∘Yd∘Lm S) ?_;exact a
     .rintro wr⟨xr,bx⟩;refine(O 1)<|Lc (fun(wq:Ad)=>(Be w wq,[(6,.bool (FY (L1 h (BO h.g).2.1)).2),(7,str ((FY (L1 h (BO h.g).2.1)).1)),(8,str ((FY (L2 h (BO h.g).1)).1)),(9,.bool (FY (L2 h (BO h.g).1)).2)],wq)) ?_ ?_
      .skip
       refine(Yr 29 (fun w'=>Be w w'/\Bk w' Q 167 h.cells) ⟨xr.trans (Be.drew wr),bx.drew⟩) fun a=>(Gv [0,1,5,6,8,9,10,11,13,14,15,19])<|Ye 2 7 ?_ ?_
       .refine JA 2 1 Z Z Z im CE Z Z Z Z Z Bc ?_;rintro P N L h2 p;refine⟨⟨a.1.trans p,a.2.a p⟩,fun a=>?_⟩;refine JB (fun w'=>Be w w'/\Bk w' Q 167 h.cells/\Bk w' P 5 [.int .u8 (h.kind:H)]) (fun _ h=>⟨h.1,h.2.1⟩) ?_;replace a:=(⟨a.1,a.2,h2⟩:(fun w'=>Be w w'/\Bk w' Q 167 h.cells/\Bk w' P 5 [.int .u8 (h.kind:H)]) N);refine(Yw 3 (he:=by exact fun _ G=>DR (MC G.2.2 hk))∘Gv [4]∘Yc 7 (EO h.link (by have:=ho.link;omega) ((100:Y):H) Bc Bc ((100:Y):H) N)) ?_;rintro _ w7⟨rfl,aj⟩;refine⟨⟨a.1.trans aj,a.2.1.a aj,a.2.2.a aj⟩,fun a=>?_⟩;refine(Yc 12 (EO h.n0 (by have:=ho.n0;omega) ((32:Y):H) Bc Bc ((31:Y):H) w7)) ?_;rintro _ af⟨rfl,y⟩;refine⟨⟨a.1.trans y,a.2.1.a y,a.2.2.a y⟩,fun a=>?_⟩;refine(Yc 16 (EO h.n1 (by have:=ho.n1;omega) ((32:Y):H) Bc Bc ((31:Y):H) af)) ?_;rintro _ ab⟨rfl,t⟩;refine⟨⟨a.1.trans t,a.2.1.a t,a.2.2.a t⟩,fun a=>?_⟩;refine(Yc 17 (HG 0 Bc Bc ((8:Y):H) Bc Bc ab)) ?_;rintro _ V⟨rfl,o⟩;refine⟨⟨a.1.trans o,a.2.1.a o,a.2.2.a o⟩,fun a=>?_⟩;refine(Yc 18 (HG 0 Bc Bc ((8:Y):H) Bc Bc V)) ?_;rintro _ I⟨rfl,m⟩;refine⟨⟨a.1.trans m,a.2.1.a m,a.2.2.a m⟩,fun a=>?_⟩;refine(Yc 20 (EO (BO h.g).1 X ((155:Y):H) Bc Bc ((155:Y):H) I)) ?_;rintro _ D⟨rfl,l⟩;refine⟨⟨a.1.trans l,a.2.1.a l,a.2.2.a l⟩,fun a=>?_⟩;refine(Yc 21 (EO [] Bh ((12:Y):H) Bc Bc ((12:Y):H) D)) ?_;rintro _ S⟨rfl,g⟩;refine⟨⟨a.1.trans g,a.2.1.a g,a.2.2.a g⟩,fun a=>?_⟩;refine GB 22 9 ((L2 h (BO h.g).1).map JS) Z Bi Z Z iD LM Z Bc Z Z Z (by first|(intro v hv;obtain⟨f,x,rfl⟩:=Cr.1 hv;rfl)|(simp;done)|(simp;rfl)) Bc ?_;rintro W C E n i;refine⟨⟨a.1.trans i,a.2.1.a i,a.2.2.a i⟩,fun a=>?_⟩;refine(Yc 23 (Mu (L2 h (BO h.g).1) (fun f x=>(A f x).ne) (fun f x=>(A f x).len) (by simp[L2]) (J ⟨W,0,Aa⟩) 9 _ C (by have K:=n.sl;rw[<-IU]at K;exact K))) ?_;rintro _ B⟨rfl,d⟩;refine⟨⟨a.1.trans d,a.2.1.a d,a.2.2.a d⟩,fun a=>?_⟩;have n:=n.a d;refine(Gv [24,25,26,27,28]∘Yd∘Lm B) ?_;exact a.1
       .refine(Jc 7 (EO h.link (by have:=ho.link;omega) ((100:Y):H) Bc Bc ((100:Y):H) wr.drew)) ?_;rintro _ w7⟨rfl,aj⟩;refine⟨⟨a.1.trans aj,a.2.a aj⟩,fun a=>?_⟩;refine Ye 2 12 ?_ ?_
        .refine JA 2 1 Z Z Z im CE Z Z Z Z Z Bc ?_;rintro P N L h2 p;refine⟨⟨a.1.trans p,a.2.a p⟩,fun a=>?_⟩;refine JB (fun w'=>Be w w'/\Bk w' Q 167 h.cells/\Bk w' P 5 [.int .u8 (h.kind:H)]) (fun _ h=>⟨h.1,h.2.1⟩) ?_;replace a:=(⟨a.1,a.2,h2⟩:(fun w'=>Be w w'/\Bk w' Q 167 h.cells/\Bk w' P 5 [.int .u8 (h.kind:H)]) N);refine(Yw 3 (he:=by exact fun _ G=>DR (MC G.2.2 hk))∘Gv [4]∘Yc 12 (EO h.n0 (by have:=ho.n0;omega) ((32:Y):H) Bc Bc ((31:Y):H) N)) ?_;rintro _ af⟨rfl,y⟩;refine⟨⟨a.1.trans y,a.2.1.a y,a.2.2.a y⟩,fun a=>?_⟩;refine(Yc 16 (EO h.n1 (by have:=ho.n1;omega) ((32:Y):H) Bc Bc ((31:Y):H) af)) ?_;rintro _ ab⟨rfl,t⟩;refine⟨⟨a.1.trans t,a.2.1.a t,a.2.2.a t⟩,fun a=>?_⟩;refine(Yc 17 (HG 0 Bc Bc ((8:Y):H) Bc Bc ab)) ?_;rintro _ V⟨rfl,o⟩;refine⟨⟨a.1.trans o,a.2.1.a o,a.2.2.a o⟩,fun a=>?_⟩;refine(Yc 18 (HG 0 Bc Bc ((8:Y):H) Bc Bc V)) ?_;rintro _ I⟨rfl,m⟩;refine⟨⟨a.1.trans m,a.2.1.a m,a.2.2.a m⟩,fun a=>?_⟩;refine(Yc 20 (EO (BO h.g).1 X ((155:Y):H) Bc Bc ((155:Y):H) I)) ?_;rintro _ D⟨rfl,l⟩;refine⟨⟨a.1.trans l,a.2.1.a l,a.2.2.a l⟩,fun a=>?_⟩;refine(Yc 21 (EO [] Bh ((12:Y):H) Bc Bc ((12:Y):H) D)) ?_;rintro _ S⟨rfl,g⟩;refine⟨⟨a.1.trans g,a.2.1.a g,a.2.2.a g⟩,fun a=>?_⟩;refine GB 22 9 ((L2 h (BO h.g).1).map JS) Z Bi Z Z iD LM Z Bc Z Z Z (by first|(intro v hv;obtain⟨f,x,rfl⟩:=Cr.1 hv;rfl)|(simp;done)|(simp;rfl)) Bc ?_;rintro W C E n i;refine⟨⟨a.1.trans i,a.2.1.a i,a.2.2.a i⟩,fun a=>?_⟩;refine(Yc 23 (Mu (L2 h (BO h.g).1) (fun f x=>(A f x).ne) (fun f x=>(A f x).len) (by simp[L2]) (J ⟨W,0,Aa⟩) 9 _ C (by have K:=n.sl;rw[<-IU]at K;exact K))) ?_;rintro _ B⟨rfl,d⟩;refine⟨⟨a.1.trans d,a.2.1.a d,a.2.2.a d⟩,fun a=>?_⟩;have n:=n.a d;refine(Gv [24,25,26,27,28]∘Yd∘Lm B) ?_;exact a.1
        .refine(Jc 12 (EO h.n0 (by have:=ho.n0;omega) ((32:Y):H) Bc Bc ((31:Y):H) w7)) ?_;rintro _ af⟨rfl,y⟩;refine⟨⟨a.1.trans y,a.2.a y⟩,fun a=>?_⟩;refine Ye 2 16 ?_ ?_
         .refine JA 2 1 Z Z Z im CE Z Z Z Z Z Bc ?_;rintro P N L h2 p;refine⟨⟨a.1.trans p,a.2.a p⟩,fun a=>?_⟩;refine JB (fun w'=>Be w w'/\Bk w' Q 167 h.cells/\Bk w' P 5 [.int .u8 (h.kind:H)]) (fun _ h=>⟨h.1,h.2.1⟩) ?_;replace a:=(⟨a.1,a.2,h2⟩:(fun w'=>Be w w'/\Bk w' Q 167 h.cells/\Bk w' P 5 [.int .u8 (h.kind:H)]) N);refine(Yw 3 (he:=by exact fun _ G=>DR (MC G.2.2 hk))∘Gv [4]∘Yc 16 (EO h.n1 (by have:=ho.n1;omega) ((32:Y):H) Bc Bc ((31:Y):H) N)) ?_;rintro _ ab⟨rfl,t⟩;refine⟨⟨a.1.trans t,a.2.1.a t,a.2.2.a t⟩,fun a=>?_⟩;refine(Yc 17 (HG 0 Bc Bc ((8:Y):H) Bc Bc ab)) ?_;rintro _ V⟨rfl,o⟩;refine⟨⟨a.1.trans o,a.2.1.a o,a.2.2.a o⟩,fun a=>?_⟩;refine(Yc 18 (HG 0 Bc Bc ((8:Y):H) Bc Bc V)) ?_;rintro _ I⟨rfl,m⟩;refine⟨⟨a.1.trans m,a.2.1.a m,a.2.2.a m⟩,fun a=>?_⟩;refine(Yc 20 (EO (BO h.g).1 X ((155:Y):H) Bc Bc ((155:Y):H) I)) ?_;rintro _ D⟨rfl,l⟩;refine⟨⟨a.1.trans l,a.2.1.a l,a.2.2.a l⟩,fun a=>?_⟩;refine(Yc 21 (EO [] Bh ((12:Y):H) Bc Bc ((12:Y):H) D)) ?_;rintro _ S⟨rfl,g⟩;refine⟨⟨a.1.trans g,a.2.1.a g,a.2.2.a g⟩,fun a=>?_⟩;refine GB 22 9 ((L2 h (BO h.g).1).map JS) Z Bi Z Z iD LM Z Bc Z Z Z (by first|(intro v hv;obtain⟨f,x,rfl⟩:=Cr.1 hv;rfl)|(simp;done)|(simp;rfl)) Bc ?_;rintro W C E n i;refine⟨⟨a.1.trans i,a.2.1.a i,a.2.2.a i⟩,fun a=>?_⟩;refine(Yc 23 (Mu (L2 h (BO h.g).1) (fun f x=>(A f x).ne) (fun f x=>(A f x).len) (by simp[L2]) (J ⟨W,0,Aa⟩) 9 _ C (by have K:=n.sl;rw[<-IU]at K;exact K))) ?_;rintro _ B⟨rfl,d⟩;refine⟨⟨a.1.trans d,a.2.1.a d,a.2.2.a d⟩,fun a=>?_⟩;have n:=n.a d;refine(Gv [24,25,26,27,28]∘Yd∘Lm B) ?_;exact a.1
         .refine(Jc 16 (EO h.n1 (by have:=ho.n1;omega) ((32:Y):H) Bc Bc ((31:Y):H) af)) ?_;rintro _ ab⟨rfl,t⟩;refine⟨⟨a.1.trans t,a.2.a t⟩,fun a=>?_⟩;refine Ye 2 17 ?_ ?_
          .refine JA 2 1 Z Z Z im CE Z Z Z Z Z Bc ?_;rintro P N L h2 p;refine⟨⟨a.1.trans p,a.2.a p⟩,fun a=>?_⟩;refine JB (fun w'=>Be w w'/\Bk w' Q 167 h.cells/\Bk w' P 5 [.int .u8 (h.kind:H)]) (fun _ h=>⟨h.1,h.2.1⟩) ?_;replace a:=(⟨a.1,a.2,h2⟩:(fun w'=>Be w w'/\Bk w' Q 167 h.cells/\Bk w' P 5 [.int .u8 (h.kind:H)]) N);refine(Yw 3 (he:=by exact fun _ G=>DR (MC G.2.2 hk))∘Gv [4]∘Yc 17 (HG 0 Bc Bc ((8:Y):H) Bc Bc N)) ?_;rintro _ V⟨rfl,o⟩;refine⟨⟨a.1.trans o,a.2.1.a o,a.2.2.a o⟩,fun a=>?_⟩;refine(Yc 18 (HG 0 Bc Bc ((8:Y):H) Bc Bc V)) ?_;rintro _ I⟨rfl,m⟩;refine⟨⟨a.1.trans m,a.2.1.a m,a.2.2.a m⟩,fun a=>?_⟩;refine(Yc 20 (EO (BO h.g).1 X ((155:Y):H) Bc Bc ((155:Y):H) I)) ?_;rintro _ D⟨rfl,l⟩;refine⟨⟨a.1.trans l,a.2.1.a l,a.2.2.a l⟩,fun a=>?_⟩;refine(Yc 21 (EO [] Bh ((12:Y):H) Bc Bc ((12:Y):H) D)) ?_;rintro _ S⟨rfl,g⟩;refine⟨⟨a.1.trans g,a.2.1.a g,a.2.2.a g⟩,fun a=>?_⟩;refine GB 22 9 ((L2 h (BO h.g).1).map JS) Z Bi Z Z iD LM Z Bc Z Z Z (by first|(intro v hv;obtain⟨f,x,rfl⟩:=Cr.1 hv;rfl)|(simp;done)|(simp;rfl)) Bc ?_;rintro W C E n i;refine⟨⟨a.1.trans i,a.2.1.a i,a.2.2.a i⟩,fun a=>?_⟩;refine(Yc 23 (Mu (L2 h (BO h.g).1) (fun f x=>(A f x).ne) (fun f x=>(A f x).len) (by simp[L2]) (J ⟨W,0,Aa⟩) 9 _ C (by have K:=n.sl;rw[<-IU]at K;exact K))) ?_;rintro _ B⟨rfl,d⟩;refine⟨⟨a.1.trans d,a.2.1.a d,a.2.2.a d⟩,fun a=>?_⟩;have n:=n.a d;refine(Gv [24,25,26,27,28]∘Yd∘Lm B) ?_;exact a.1
          .refine(Jc 17 (HG 0 Bc Bc ((8:Y):H) Bc Bc ab)) ?_;rintro _ V⟨rfl,o⟩;refine⟨⟨a.1.trans o,a.2.a o⟩,fun a=>?_⟩;refine Ye 2 18 ?_ ?_
           .refine JA 2 1 Z Z Z im CE Z Z Z Z Z Bc ?_;rintro P N L h2 p;refine⟨⟨a.1.trans p,a.2.a p⟩,fun a=>?_⟩;refine JB (fun w'=>Be w w'/\Bk w' Q 167 h.cells/\Bk w' P 5 [.int .u8 (h.kind:H)]) (fun _ h=>⟨h.1,h.2.1⟩) ?_;replace a:=(⟨a.1,a.2,h2⟩:(fun w'=>Be w w'/\Bk w' Q 167 h.cells/\Bk w' P 5 [.int .u8 (h.kind:H)]) N);refine(Yw 3 (he:=by exact fun _ G=>DR (MC G.2.2 hk))∘Gv [4]∘Yc 18 (HG 0 Bc Bc ((8:Y):H) Bc Bc N)) ?_;rintro _ I⟨rfl,m⟩;refine⟨⟨a.1.trans m,a.2.1.a m,a.2.2.a m⟩,fun a=>?_⟩;refine(Yc 20 (EO (BO h.g).1 X ((155:Y):H) Bc Bc ((155:Y):H) I)) ?_;rintro _ D⟨rfl,l⟩;refine⟨⟨a.1.trans l,a.2.1.a l,a.2.2.a l⟩,fun a=>?_⟩;refine(Yc 21 (EO [] Bh ((12:Y):H) Bc Bc ((12:Y):H) D)) ?_;rintro _ S⟨rfl,g⟩;refine⟨⟨a.1.trans g,a.2.1.a g,a.2.2.a g⟩,fun a=>?_⟩;refine GB 22 9 ((L2 h (BO h.g).1).map JS) Z Bi Z Z iD LM Z Bc Z Z Z (by first|(intro v hv;obtain⟨f,x,rfl⟩:=Cr.1 hv;rfl)|(simp;done)|(simp;rfl)) Bc ?_;rintro W C E n i;refine⟨⟨a.1.trans i,a.2.1.a i,a.2.2.a i⟩,fun a=>?_⟩;refine(Yc 23 (Mu (L2 h (BO h.g).1) (fun f x=>(A f x).ne) (fun f x=>(A f x).len) (by simp[L2]) (J ⟨W,0,Aa⟩) 9 _ C (by have K:=n.sl;rw[<-IU]at K;exact K))) ?_;rintro _ B⟨rfl,d⟩;refine⟨⟨a.1.trans d,a.2.1.a d,a.2.2.a d⟩,fun a=>?_⟩;have n:=n.a d;refine(Gv [24,25,26,27,28]∘Yd∘Lm B) ?_;exact a.1
           .refine(Jc 18 (HG 0 Bc Bc ((8:Y):H) Bc Bc V)) ?_;rintro _ I⟨rfl,m⟩;refine⟨⟨a.1.trans m,a.2.a m⟩,fun a=>?_⟩;refine Ye 2 20 ?_ ?_
            .refine JA 2 1 Z Z Z im CE Z Z Z Z Z Bc ?_;rintro P N L h2 p;refine⟨⟨a.1.trans p,a.2.a p⟩,fun a=>?_⟩;refine JB (fun w'=>Be w w'/\Bk w' Q 167 h.cells/\Bk w' P 5 [.int .u8 (h.kind:H)]) (fun _ h=>⟨h.1,h.2.1⟩) ?_;replace a:=(⟨a.1,a.2,h2⟩:(fun w'=>Be w w'/\Bk w' Q 167 h.cells/\Bk w' P 5 [.int .u8 (h.kind:H)]) N);refine(Yw 3 (he:=by exact fun _ G=>DR (MC G.2.2 hk))∘Gv [4]∘Yc 20 (EO (BO h.g).1 X ((155:Y):H) Bc Bc ((155:Y):H) N)) ?_;rintro _ D⟨rfl,l⟩;refine⟨⟨a.1.trans l,a.2.1.a l,a.2.2.a l⟩,fun a=>?_⟩;refine(Yc 21 (EO [] Bh ((12:Y):H) Bc Bc ((12:Y):H) D)) ?_;rintro _ S⟨rfl,g⟩;refine⟨⟨a.1.trans g,a.2.1.a g,a.2.2.a g⟩,fun a=>?_⟩;refine GB 22 9 ((L2 h (BO h.g).1).map JS) Z Bi Z Z iD LM Z Bc Z Z Z (by first|(intro v hv;obtain⟨f,x,rfl⟩:=Cr.1 hv;rfl)|(simp;done)|(simp;rfl)) Bc ?_;rintro W C E n i;refine⟨⟨a.1.trans i,a.2.1.a i,a.2.2.a i⟩,fun a=>?_⟩;refine(Yc 23 (Mu (L2 h (BO h.g).1) (fun f x=>(A f x).ne) (fun f x=>(A f x).len) (by simp[L2]) (J ⟨W,0,Aa⟩) 9 _ C (by have K:=n.sl;rw[<-IU]at K;exact K))) ?_;rintro _ B⟨rfl,d⟩;refine⟨⟨a.1.trans d,a.2.1.a d,a.2.2.a d⟩,fun a=>?_⟩;have n:=n.a d;refine(Gv [24,25,26,27,28]∘Yd∘Lm B) ?_;exact a.1
            .refine(Jc 20 (EO (BO h.g).1 X ((155:Y):H) Bc Bc ((155:Y):H) I)) ?_;rintro _ D⟨rfl,l⟩;refine⟨⟨a.1.trans l,a.2.a l⟩,fun a=>?_⟩;refine Ye 2 21 ?_ ?_
             .refine JA 2 1 Z Z Z im CE Z Z Z Z Z Bc ?_;rintro P N L h2 p;refine⟨⟨a.1.trans p,a.2.a p⟩,fun a=>?_⟩;refine JB (fun w'=>Be w w'/\Bk w' Q 167 h.cells/\Bk w' P 5 [.int .u8 (h.kind:H)]) (fun _ h=>⟨h.1,h.2.1⟩) ?_;replace a:=(⟨a.1,a.2,h2⟩:(fun w'=>Be w w'/\Bk w' Q 167 h.cells/\Bk w' P 5 [.int .u8 (h.kind:H)]) N);refine(Yw 3 (he:=by exact fun _ G=>DR (MC G.2.2 hk))∘Gv [4]∘Yc 21 (EO [] Bh ((12:Y):H) Bc Bc ((12:Y):H) N)) ?_;rintro _ S⟨rfl,g⟩;refine⟨⟨a.1.trans g,a.2.1.a g,a.2.2.a g⟩,fun a=>?_⟩;refine GB 22 9 ((L2 h (BO h.g).1).map JS) Z Bi Z Z iD LM Z Bc Z Z Z (by first|(intro v hv;obtain⟨f,x,rfl⟩:=Cr.1 hv;rfl)|(simp;done)|(simp;rfl)) Bc ?_;rintro W C E n i;refine⟨⟨a.1.trans i,a.2.1.a i,a.2.2.a i⟩,fun a=>?_⟩;refine(Yc 23 (Mu (L2 h (BO h.g).1) (fun f x=>(A f x).ne) (fun f x=>(A f x).len) (by simp[L2]) (J ⟨W,0,Aa⟩) 9 _ C (by have K:=n.sl;rw[<-IU]at K;exact K))) ?_;rintro _ B⟨rfl,d⟩;refine⟨⟨a.1.trans d,a.2.1.a d,a.2.2.a d⟩,fun a=>?_⟩;have n:=n.a d;refine(Gv [24,25,26,27,28]∘Yd∘Lm B) ?_;exact a.1
             .refine(Jc 21 (EO [] Bh ((12:Y):H) Bc Bc ((12:Y):H) D)) ?_;rintro _ S⟨rfl,g⟩;refine⟨⟨a.1.trans g,a.2.a g⟩,fun a=>?_⟩;refine PP 2 1 Z Bi Z Z im CE Z Z Z Z Z Bc ?_;rintro P N L h2 p;refine⟨⟨a.1.trans p,a.2.a p⟩,fun a=>?_⟩;refine JB (fun w'=>Be w w'/\Bk w' Q 167 h.cells/\Bk w' P 5 [.int .u8 (h.kind:H)]) (fun _ h=>⟨h.1,h.2.1⟩) ?_;replace a:=(⟨a.1,a.2,h2⟩:(fun w'=>Be w w'/\Bk w' Q 167 h.cells/\Bk w' P 5 [.int .u8 (h.kind:H)]) N);refine(Yw 3 (he:=by exact fun _ G=>DR (MC G.2.2 hk))∘Gv [4]) ?_;refine GB 22 9 ((L2 h (BO h.g).1).map JS) Z Bi Z Z iD LM Z Bc Z Z Z (by first|(intro v hv;obtain⟨f,x,rfl⟩:=Cr.1 hv;rfl)|(simp;done)|(simp;rfl)) Bc ?_;rintro W C E n i;refine⟨⟨a.1.trans i,a.2.1.a i,a.2.2.a i⟩,fun a=>?_⟩;refine(Yc 23 (Mu (L2 h (BO h.g).1) (fun f x=>(A f x).ne) (fun f x=>(A f x).len) (by simp[L2]) (J ⟨W,0,Aa⟩) 9 _ C (by have K:=n.sl;rw[<-IU]at K;exact K))) ?_;rintro _ B⟨rfl,d⟩;refine⟨⟨a.1.trans d,a.2.1.a d,a.2.2.a d⟩,fun a=>?_⟩;have n:=n.a d;refine(Gv [24,25,26,27,28]∘Yd∘Lm B) ?_;exact a.1
      .rintro wq xq;have jy:=fun hm:May h=>yu hm p1 p3 (fun z=>al (p5 _ z)) (fun z=>al (p4 _ z));have a5:=@yt h (BO h.g).1 (BO h.g).2.1 a0 al;generalize cb:FY (L1 h (BO h.g).2.1)=J1 at jy a5;generalize ca:FY (L2 h (BO h.g).1)=J2 at jy a5;obtain⟨g1,o1⟩:=J1;obtain⟨g2,o2⟩:=J2;refine(O 2) ?_;rcases o1 with _|_
       .skip
        refine(O 14∘BF) ?_;simp_all
       .skip
        rcases o2 with _|_
        .skip
         refine(O 14∘BF) ?_;simp_all
        .skip
         have hm:=a5 Z Z;obtain⟨j1,j2⟩:=jy hm;obtain rfl:=(Prod.mk.inj j1).1;obtain rfl:=(Prod.mk.inj j2).1;have bc:Alz ((HC h (BO h.g).2.1).flatten)=148:=by rw[WP,Zh h p1];rfl
         have bn:Alz ((Ig h (BO h.g).1).flatten)=356:=by rw[WP,oG h p3 hm.link.1 (by have:=hm.n0.1;omega) (by have:=hm.n1.1;omega)];rfl
         have b9:=SM 8;have a3:Alz ((HC h (BO h.g).2.1).flatten++Cx 8++(Ig h (BO h.g).1).flatten)=512:=by rw[Bx,Bx];omega
         have ba:sum ((HC h (BO h.g).2.1).flatten++Cx 8++(Ig h (BO h.g).1).flatten)=(Iz h,0):=by
          unfold sum;rw[Ag X];rfl
         have bl:Iz h/8 ^ 6=0:=oz _;have bb:Fk ((Iz h:Y):H) ((7:Y):H)=(Dn (Iz h) 6++[0],0):=ac (k:=6) Bc Bc bl;have b8:Iz h<=1000000:=by have:=VU (MR h (BO h.g).1 (BO h.g).2.1 (Cx 8)) 512;unfold Iz;omega
         have b5:=QO 6 (Iz h);have c1:=oB ((HC h (BO h.g).2.1).flatten++Cx 8++(Ig h (BO h.g).1).flatten) X wq;rw[ba]at c1;have c2:=lE ((Iz h:Y):H) X X ((7:Y):H) Bc Bc wq;rw[bb]at c2;rw[bf hm];generalize hH:(HC h (BO h.g).2.1).flatten=j7 at bc c1 a3;generalize hT:(Ig h (BO h.g).1).flatten=T at bn c1 a3;have bm:Alz (j7++Cx 8)=156:=by rw[Bx];omega
         have b2:Alz (j7++Cx 8,Af).1=156:=bm;refine(O 15∘Zc c1) ?_;rintro _ _⟨rfl,rfl⟩;refine(O 9∘Zc c2) ?_;rintro _ wz⟨rfl,xz⟩;refine(O 9∘Zv (by exact Kf (j:=148) eT Z Z X)∘O 2∘Zv (by exact Kd (r:=[32]) Z Z (by first|omega|(simp only[Bx,CF,ET,BW,CA,Cn];omega)))∘O 5∘BF) ?_;refine⟨?_,xq.trans xz⟩;have ht:(j7++Cx 8).take 148=j7:=by rw[<-bc];exact Hy Z
         have ed:Dr h=j7++(Dn (Iz h) 6++[0])++[32]++T:=by
          unfold Dr MR Rq;rw[hH,hT];simp
         grind
def fQ(cb k n:Y)(s:Bg)(bad:Ar)(w:Ad)(g:Alz s<=140737488355328)(hk:k+n<=Alz s)(e:Bk w cb 252 [str (s.drop k),.bool bad]):
 Bm eD 153 [.pointer (J ⟨cb,0,Aa⟩),Bb ((n:Y):H)] w fun v w'=>v=str (sl s k n)/\Bk w' cb 252 [str (s.drop (k+n)),.bool bad]/\Mo w w' [cb]:=by
 have i:Alz (s.drop k)=Alz s-k:=CA;refine Bw func153 Z ntmps153 (by rfl) Z ?_;refine(O 11∘Zv (by exact Kf eT Z Z X)∘O 10∘Zv (by exact LR eT Z Z X)∘O 2∘Zt e) ?_;rintro f d a;refine(O 6∘Bu) ?_;refine⟨Z,?_,a⟩;simp_all
def tN(cb k n:Y)(s:Bg)(bad:Ar)(w:Ad)(p:Alz s<=140737488355328)(hk:k+n<=Alz s)(r:Bk w cb 252 [str (s.drop k),.bool bad]):
 Bm eD 152 [.pointer (J ⟨cb,0,Aa⟩),Bb ((n:Y):H)] w fun v w'=>v=Bb (((num (sl s k n)).1:Y):H)/\Bk w' cb 252 [str (s.drop (k+n)),.bool (bad||decide ((num (sl s k n)).2≠0))]/\Mo w w' [cb]:=by
 have q:Alz (sl s k n)<=140737488355328:=by unfold sl;rw[BW,CA];omega
 refine Bw func152 Z ntmps152 (by rfl) Z ?_;refine(O 8∘Zc (fQ cb k n s bad w p hk r)) ?_;rintro _ o⟨rfl,i,g⟩;refine(Zc (zP (sl s k n) q o)) ?_;rintro _ m⟨rfl,d⟩;refine(O 7) ?_;have f:=i.a d;have j:Mo w m [cb]:=g.trans (Mo.Akj d _);rcases bad with _|_
 .refine(O 12∘Zt f) ?_;rintro l e a;refine(O 6∘Bu) ?_;refine⟨Z,?_,j.trans a⟩;grind
 .refine(O 12∘Zt f) ?_;rintro l e a;refine(O 6∘Bu) ?_;exact⟨Z,e,j.trans a⟩
structure Dc(w0 w:Ad)(rb cb hb:Y)(rest:Bg)(bad:Ar)(h:Bl):Prop where
 x:Be w0 w
 r:Bk w rb 167 HU.cells
 c:Bk w cb 252 [str rest,.bool bad]
 h:Bk w hb 167 h
 rlo:w0.heap.size<=rb
 clo:w0.heap.size<=cb
 hlo:w0.heap.size<=hb
 ne:rb≠hb
section
variable{w0 w:Ad}{rb cb hb:Y}{s rest:Bg}{bad:Ar}{h:Bl}{k:Y}
def Dc.step{w':Ad}{rest':Bg}{bad':Ar}(d:Dc w0 w rb cb hb rest bad h)(hc:Bk w' cb 252 [str rest',.bool bad'])(hm:Mo w w' [cb]):Dc w0 w' rb cb hb rest' bad' h:=
 ⟨Bp d.x hm d.x.size (fun k hk=>by simp at hk;subst hk;exact d.clo),d.r.j hm (by simp;exact d.r.ne d.c Bc),hc,d.h.j hm (by simp;exact d.h.ne d.c Bc),d.rlo,d.clo,d.hlo,d.ne⟩
def Dc.put{w':Ad}{h':Bl}(d:Dc w0 w rb cb hb rest bad h)(hh:Bk w' hb 167 h')(hm:Mo w w' [hb]):Dc w0 w' rb cb hb rest bad h':=
 ⟨Bp d.x hm d.x.size (fun k hk=>by simp at hk;subst hk;exact d.hlo),d.r.j hm (by simp;exact d.ne),d.c.j hm (by simp;exact fun z=>d.h.ne d.c Bh z.symm),hh,d.rlo,d.clo,d.hlo,d.ne⟩
def Dc.raw(d:Dc w0 w rb cb hb (s.drop k) bad h)(n:Y)(hs:Alz s=512)(hk:k+n<=512):
 Bm eD 153 [.pointer (J ⟨cb,0,Aa⟩),Bb ((n:Y):H)] w fun v w'=>v=str (sl s k n)/\Dc w0 w' rb cb hb (s.drop (k+n)) bad h:=
 (fQ cb k n s bad w X X d.c).mono fun v w'⟨h1,h2,h3⟩=>⟨h1,d.step h2 h3⟩
def Dc.num(d:Dc w0 w rb cb hb (s.drop k) bad h)(n:Y)(hs:Alz s=512)(hk:k+n<=512):
 Bm eD 152 [.pointer (J ⟨cb,0,Aa⟩),Bb ((n:Y):H)] w fun v w'=>v=Bb (((num (sl s k n)).1:Y):H)/\Dc w0 w' rb cb hb (s.drop (k+n)) (bad||decide ((num (sl s k n)).2≠0)) h:=
 (tN cb k n s bad w X X d.c).mono fun v w'⟨h1,h2,h3⟩=>⟨h1,d.step h2 h3⟩
end
def Pu{s:Bg}(a:Alz s=512)(k n:Y):Alz (sl s k n)<=512:=by unfold sl;grind
def Sw{s:Bg}(h:¬OkD s):GN s=(HU,160):=by unfold GN;grind
def uK{s:Bg}(h:OkD s):GN s=(QF s,0):=by unfold GN;grind
def Aiu(s:Bg)(hs:Alz s<=140737488355328)(w:Ad):Bm eD 113 [str s] w fun v w'=>v=.tuple #[.agg (GN s).1.cells.toArray,Bb (((GN s).2:Y):H)]/\Be w w':=by
 refine Bw func113 Z ntmps113 Bi Z ?_;refine(O 2∘Zn) ?_;rintro rb w1 a0 q n;refine(O 9)<|Zi (fun hl=>?_) fun hl=>?_
 .refine(O 3∘Zs q (hlt:=Bq _)) ?_;rintro w2 bf bj;refine(O 2∘Dx bf) ?_;rw[Sw fun h=>hl (by have:=h.len;omega)];exact⟨Z,Bp n bj n.size (fun k t=>by grind)⟩
 .have a:Alz s=512:=X;refine(O 5) ?_;refine Dq Z Z Z ?_;rintro cb w2 cm bx m;refine(O 5∘Zv (by exact FZ Z Z)∘O 1∘Zv (by exact FZ Z Z)∘O 5∘Zn) ?_;rintro hb w3 cl bs p;refine(O 4) ?_;have cj:=q.lt;have d0:Dc w w3 rb cb hb (s.drop 0) Ai HU.cells:=⟨(n.trans m).trans p,(q.a m).a p,bx.a p,bs,a0,X,by have:=n.size;have:=m.size;omega,by have:=m.size;omega⟩;refine(Ea (d0.raw 100 a Bc)) ?_;rintro _ w4⟨rfl,d1⟩;refine(Zc (St (sl s 0 100) (by have:=Pu a 0 100;omega) w4)) ?_;rintro _ _⟨rfl,rfl⟩;refine(O 5∘Ea (d1.num 8 a Bc)) ?_;rintro _ w5⟨rfl,d2⟩;refine(O 1∘Ea (d2.num 8 a Bc)) ?_;rintro _ w6⟨rfl,d3⟩;refine(O 1∘Ea (d3.num 8 a Bc)) ?_;rintro _ w7⟨rfl,d4⟩;refine(O 1∘Zt d4.h (hlt:=AO Z)) ?_;rintro w8 bq bi;refine(O 2) ?_;have d5:=d4.put bq bi;refine(Zt d5.h (hlt:=AO Z)) ?_;rintro w9 bn bh;refine(O 2) ?_;have d6:=d5.put bn bh;refine(Zt d6.h (hlt:=AO Z)) ?_;rintro c4 ao Q;refine(O 4) ?_;have d7:=d6.put ao Q;refine(Ea (d7.num 12 a Bc)) ?_;rintro _ c0⟨rfl,d8⟩;refine(O 1∘Ea (d8.num 12 a Bc)) ?_;rintro _ cz⟨rfl,d9⟩;refine(O 1∘Zt d9.h (hlt:=AO Z)) ?_;rintro cx al P;refine(O 1) ?_;have a6:=d9.put al P;refine(Zt a6.h (hlt:=AO Z)) ?_;rintro cw aj N;refine(O 4) ?_;have cf:=a6.put aj N;refine(Ea (cf.num 8 a Bc)) ?_;rintro _ cv⟨rfl,ce⟩;refine(O 5) ?_;have bl:Alz (sl s (0+100+8+8+8+12+12+8) 1)=1:=by unfold sl;rw[BW,CA];omega
  have ck:Alz (sl s 156 1)=1:=bl;refine(Ea (ce.raw 1 a Bc)) ?_;rintro _ cu⟨rfl,a5⟩;refine(Zv (by exact FQ (i:=0) eT Z Z (BQ X))∘O 1∘Zt a5.h (hlt:=AO Z)) ?_;rintro ct ai L;refine(O 4) ?_;have cd:=a5.put ai L;refine(Ea (cd.raw 100 a Bc)) ?_;rintro _ bc⟨rfl,a4⟩;refine(Zc (St (sl s 157 100) (by have:=Pu a 157 100;omega) bc)) ?_;rintro _ _⟨rfl,rfl⟩;refine(O 1∘Zt a4.h (hlt:=AO Z)) ?_;rintro cr af K;refine(O 4) ?_;have cc:=a4.put af K;refine(Ea (cc.raw 8 a Bc)) ?_;rintro _ cq⟨rfl,ca⟩;refine(O 5∘Ea (ca.raw 32 a Bc)) ?_;rintro _ bb⟨rfl,b9⟩;refine(Zc (St (sl s 265 32) (by have:=Pu a 265 32;omega) bb)) ?_;rintro _ _⟨rfl,rfl⟩;refine(O 1∘Ea (b9.raw 32 a Bc)) ?_;rintro _ ba⟨rfl,a3⟩;refine(Zc (St (sl s 297 32) (by have:=Pu a 297 32;omega) ba)) ?_;rintro _ _⟨rfl,rfl⟩;refine(O 2∘Zt a3.h (hlt:=AO Z)) ?_;rintro cp ab I;refine(O 2) ?_;have a2:=a3.put ab I;refine(Zt a2.h (hlt:=AO Z)) ?_;rintro co W G;refine(O 4) ?_;have b8:=a2.put W G;refine(Ea (b8.raw 16 a Bc)) ?_;rintro _ cn⟨rfl,b7⟩;refine(O 4∘Ea (b7.raw 155 a Bc)) ?_;rintro _ a9⟨rfl,a1⟩;refine(Zc (St (sl s 345 155) (by have:=Pu a 345 155;omega) a9)) ?_;rintro _ _⟨rfl,rfl⟩;refine(O 6∘Zt a1.h (hlt:=AO Z)) ?_;rintro A V E;refine(O 5∘Zv (by exact MV (r:=[]) Z Z)∘O 1) ?_;have b0:=a1.put V E
  have bd:(sl s 156 1)[0]=s.getD 156 0:=by
   unfold sl;simp[Cd,a]
  obtain⟨bad,hbad,d25⟩:∃bad,(bad=Ai↔(num (sl s 100 8)).2=0/\(num (sl s 108 8)).2=0/\(num (sl s 116 8)).2=0/\(num (sl s 124 12)).2=0/\(num (sl s 136 12)).2=0/\(num (sl s 148 8)).2=0)/\Dc w A rb cb hb (s.drop 500) bad (Hd.cells ⟨cut (sl s 0 100),(num (sl s 124 12)).1,((sl s 156 1)[0]).toNat,(num (sl s 100 8)).1,(num (sl s 136 12)).1,cut (sl s 157 100),cut (sl s 265 32),cut (sl s 297 32),(num (sl s 108 8)).1,(num (sl s 116 8)).1⟩):=⟨_,Bf,b0⟩;rw[bd]at d25;have c6:=Ss (sl s 0 100);have c5:=Ss (sl s 345 155);have ch:=Pu a 0 100;have cg:=Pu a 345 155;refine Lc (fun(wr:Ad)=>(Dc w wr rb cb hb (s.drop 500) bad (Hd.cells ⟨JW s,(num (sl s 124 12)).1,(s.getD 156 0).toNat,(num (sl s 100 8)).1,(num (sl s 136 12)).1,cut (sl s 157 100),cut (sl s 265 32),cut (sl s 297 32),(num (sl s 108 8)).1,(num (sl s 116 8)).1⟩),[(0,str (s)),(2,.pointer (J ⟨rb,0,Aa⟩)),(4,.pointer (J ⟨cb,0,Aa⟩)),(7,.pointer (J ⟨hb,0,Aa⟩)),(9,Bb (((num (sl s 148 8)).1:Y):H)),(10,str ((sl s 257 8)))],wr)) ?_ ?_
  .refine Zi (fun j=>?_) fun j=>?_
   .refine(O 2∘Zv (by exact Kd (r:=[47]) Z Z (by first|omega|(simp only[Bx,CF,ET,BW,CA,Cn];omega)))∘O 3∘Zt d25.h (hlt:=AO Z)) ?_;rintro a8 T D;refine(O 1∘Lm a8) ?_;have e:JW s=cut (sl s 345 155)++[47]++cut (sl s 0 100):=by unfold JW;rw[Aj j]
    rw[e];exact d25.put T D
   .refine(O 1∘Lm A) ?_;have e:JW s=cut (sl s 0 100):=by unfold JW;rw[Ag j]
    rw[e];exact d25
  .rintro wr e0;refine(O 4∘Zv (Bo e0.h)∘O 2)<|Lc (fun(y:Ad)=>(Dc w y rb cb hb (s.drop 500) bad (QF s).cells,[(0,str (s)),(2,.pointer (J ⟨rb,0,Aa⟩)),(4,.pointer (J ⟨cb,0,Aa⟩)),(7,.pointer (J ⟨hb,0,Aa⟩)),(9,Bb (((num (sl s 148 8)).1:Y):H)),(10,str ((sl s 257 8)))],y)) ?_ ?_
   .refine Zi (fun bm=>?_) fun bm=>?_
    .refine(O 2∘Zt e0.h (hlt:=AO Z)) ?_;rintro a7 S C;refine(O 1∘Lm a7) ?_;have e:OT s=48:=by unfold OT;rw[Aj X]
     unfold QF;rw[e];exact e0.put S C
    .refine(O 1∘Lm wr) ?_;have e:OT s=(s.getD 156 0).toNat:=by unfold OT;rw[Ag X]
     unfold QF;rw[e];exact e0
   .rintro y g;have B:sum s=(Fp s 512,0):=by unfold sum;rw[Ag X]
    have cs:=oB s hs y;rw[B]at cs;have o:∀(w':Ad),Bk w' rb 167 HU.cells->Mo y w' [rb]->Be w w':=fun w' _ hm=>Bp g.x hm g.x.size (fun k t=>by simp at t;subst t;exact g.rlo);refine(O 4∘Zc cs) ?_;rintro _ _⟨rfl,rfl⟩;refine(O 7) ?_;rcases bad with _|_
    .obtain⟨b1,b2,b3,b4,b5,b6⟩:=hbad.1 Z;refine(O 4∘Zv (Bo g.c)∘O 6)<|Zd 99 (fun c1=>?_) fun c1=>?_
     .refine(O 13∘Zs g.r (hlt:=Bq _)) ?_;rintro l d f;refine(O 2∘Dx d) ?_;rw[Sw fun h=>c1 (by have:=h.sums;omega)];exact⟨Z,o _ d f⟩
     .refine(O 1∘Zv (by exact MV (r:=[117,115,116,97,114,0,48,48]) Z Z)∘O 2)<|Zd 103 (fun c2=>?_) fun c2=>?_
      .refine(O 9∘Zs g.r (hlt:=Bq _)) ?_;rintro l d f;refine(O 2∘Dx d) ?_;rw[Sw fun h=>c2 h.magic];exact⟨Z,o _ d f⟩
      .refine(O 1∘Zv (Bo g.h)∘Zv (by exact HJ (r:=[]) Z Z)∘O 2)<|Zi (fun c3=>?_) fun c3=>?_
       .refine(O 3∘Zs g.r (hlt:=Bq _)) ?_;rintro l d f;refine(O 2∘Dx d) ?_;rw[Sw fun h=>h.g c3];exact⟨Z,o _ d f⟩
       .have ok:OkD s:=⟨a,Dd.1 c2,b1,b2,b3,b4,b5,b6,X,c3⟩;refine(O 3∘Zv (BX g.h)∘Zs g.r (hlt:=Bq _)) ?_;rintro l d f;refine(O 2∘Dx d) ?_;rw[uK ok];exact⟨Z,Bp g.x f g.x.size (fun k t=>by simp at t;subst t;exact g.rlo)⟩
    .refine(O 4∘Zv (Bo g.c)∘O 19∘Zs g.r (hlt:=Bq _)) ?_;rintro l d f;refine(O 2∘Dx d) ?_
     rw[Sw fun h=>by
      have:=hbad.2 ⟨h.mode,h.i0,h.i1,h.size,h.time,h.sum⟩;grind]
     exact⟨Z,o _ d f⟩
end
section
open Fld Ust
def MayR(h:Hd):Prop:=May h/\Alz h.g<=1099511627776
instance(h:Hd):Decidable (MayR h):=by unfold MayR;infer_instance
end

section
attribute [local irreducible] EX
open Pth
def OA(s:Bg)(d:Alz s<=1000000000000)(w:Ad):Bm eD 71 [str s] w fun v w'=>v=Bb ((Cw s:Y):H)/\Be w w':=by
 refine Bw Bh Z ntmps71 (by rfl) Z ?_;refine(O 8∘Zc (tu s d w)) ?_;rintro _ i⟨rfl,a⟩;refine(O 7) ?_;rcases hc:GK s with⟨q,e⟩;refine(O 4)<|Zd 12 (fun g=>?_) fun g=>?_
 .have h:Cw s=140:=by unfold Cw;rw[hc,Ag Bf]
  refine(O 10∘Bu) ?_;grind
 .refine(O 5)<|Zi (fun f=>?_) fun f=>?_
  .have h:Cw s=140:=by unfold Cw;rw[hc,Ag Bf]
   refine(O 4∘Bu) ?_;rw[h];exact⟨Z,a⟩
  .have h:Cw s=0:=by unfold Cw;rw[hc,Aj Bf]
   refine(O 5∘Bu) ?_;rw[h];exact⟨Z,a⟩
def Tv{l:Cl}{i:Y}(h:i<Alz l):(Da l)[i]? =J (str l[i]):=by simp[Da]
end
section
open Pax
def _root_.Go.Proofs.YtkmlafmjaeeanaaGreatDoor.Pax.Pr.cells(p:Pr):Bl:=[str p.key,str p.val]
abbrev NB(l:Ae Pr):Bl:=l.flatMap Pr.cells
end
section
attribute [local irreducible] EX
open Fld
def Ait{c:AI}{n:Y}(a:n<256)(h:c.toNat=n):c=BV n:=by
 rw[<-h];simp
def gm{s:Bg}(h:s=[]∨(s.head? =J 48/\s≠[48])):dec s=(0,150):=by unfold dec;grind
def gr{s:Bg}{i:Y}(hi:i<Alz s)(h:Ec s[i]=Ai):dec s=(0,150):=by
 unfold dec;grind
def xN{s:Bg}(h0:0<Alz s)(h:s[0].toNat=48):s.head? =J 48:=by
 rw[List.head?_eq_getElem?,BQ h0,Ait X h];rfl
def xR{s:Bg}(h0:0<Alz s)(h:¬s[0].toNat=48):¬s.head? =J 48:=by
 rw[List.head?_eq_getElem?,BQ h0];intro e;simp_all
def eB{s:Bg}{i:Y}(hi:i<Alz s)(h:(s.take i).all Ec=Af)(a:Ec s[i]=Af):(s.take (i+1)).all Ec=Af:=by
 rw[oJ s i hi,List.all_append,h];grind
def uB{s:Bg}(h:¬(s=[]∨(s.head? =J 48/\s≠[48])))(a:(s.take (Alz s)).all Ec=Af):dec s=(if 9007199254740992<FA 10 0 s then(0,3)else(FA 10 0 s,0)):=by
 rw[DY]at a;unfold dec;grind
def uL(s:Bg)(E:Alz s<=140737488355328)(w:Ad):
 Bm eD 115 [str s] w fun v w'=>v=.tuple #[Bb ((dec s).1:Y),Bb ((dec s).2:Y)]/\w=w':=by
 refine Bw func115 Z ntmps115 (by rfl) Z ?_;refine(O 9∘Zv (by exact HJ (r:=[]) Z Z)∘O 1)<|Zd 8 (fun j=>?_) fun j=>?_
 .have a:=gm (s:=s) (.inl j);refine(O 15∘BF) ?_;grind
 .have B:0<Alz s:=Oh.2 j;refine(O 1∘Zv (by exact FQ (i:=0) eT Z Z (BQ X))∘O 2)<|Zd 12 (fun A=>?_) fun A=>?_
  .refine(O 1∘Zv (by exact MV (r:=[48]) Z Z)∘O 3)<|Zi (fun k=>?_) fun k=>?_
   .have a:=gm (s:=s) (.inr ⟨xN B A,k⟩);refine(O 5∘BF) ?_;grind
   .have d:¬(s=[]∨(s.head? =J 48/\s≠[48])):=by rintro(h|h);exact j h;exact k h.2
    have y:s=[48]:=Dd.1 k;subst y;have a:dec [48]=(0,0):=by decide+kernel
    refine(O 13)<|Lo (fun(i:Y)=>(i<=1,[(0,str ([48])),(4,Bb ((0:Y):H)),(18,Bb ((1:Y):H)),(19,Bb i)],w,1-i)) 0 ?_ ?_
    .omega
    .rintro i C;refine(O 5)<|Zi (fun e=>?_) fun e=>?_
     .obtain rfl:i=0:=X;have D:([48]:Bg)[0].toNat=48:=rfl;refine(O 16)<|Zd 26 (fun x=>?_) fun x=>?_
      .omega
      .refine(O 6)<|Zi (fun t=>?_) fun t=>?_
       .omega
       .refine(O 6∘EF 33∘O 7∘Zv (by exact Kg (b:=48) (m:=255) Z Z Z X)∘O 9)<|Lb 1 ?_;omega
     .refine(O 7∘Ci 44∘O 8∘BF) ?_;rw[a];exact⟨Z,Z⟩
  .have d:¬(s=[]∨(s.head? =J 48/\s≠[48])):=by rintro(h|h);exact j h;exact xR B A h.1
   refine(O 19)<|Lo (fun((i,n):Y×Y)=>(i<=Alz s/\n=FA 10 0 (s.take i)/\n<=90071992547409920+255/\(s.take i).all Ec=Af,[(0,str (s)),(4,Bb n),(18,Bb ((Alz s:Y):H)),(19,Bb i)],w,Alz s-i)) (0,0) ?_ ?_
   .exact⟨X,by rfl,X,Bh⟩
   .rintro⟨i,n⟩⟨C,l,G,o⟩;refine(O 5)<|Zi (fun e=>?_) fun e=>?_
    .have D:s[i].toNat<256:=s[i].toNat_lt;refine(O 16)<|Zd 26 (fun x=>?_) fun x=>?_
     .have a:=gr e (by simp only[Ec,Rx,decide_eq_false_iff_not];omega);refine(O 12∘BF) ?_;rw[a];exact⟨Z,Z⟩
     .refine(O 6)<|Zi (fun t=>?_) fun t=>?_
      .have a:=gr e (by simp only[Ec,Rx,decide_eq_false_iff_not];omega);refine(O 5∘BF) ?_;grind
      .have g:Ec s[i]=Af:=by simp only[Ec,Bool.and_eq_true,decide_eq_true_eq];omega
       have f:=YS 10 (s.take i) s[i] 0;rw[<-oJ s i e,<-l]at f;refine(O 6)<|Zi (fun q=>?_) fun q=>?_
       .rw[Aj q]at f;refine(O 6∘Zv (by exact Kg (b:=48) (m:=255) Z Z Z X)∘O 9)<|Lb ((i+1),(10*n+(s[i].toNat-48))) ?_;exact⟨X,f.symm,X,eB e o g⟩
       .rw[Ag q]at f;refine(O 6)<|Lb ((i+1),n) ?_;exact⟨X,f.symm,X,eB e o g⟩
    .obtain rfl:i=Alz s:=X;have a:=uB d o;rw[DY]at l;rw[<-l]at a;refine(O 7)<|Zi (fun p=>?_) fun p=>?_
     .rw[Aj p]at a;refine(O 5∘BF) ?_;rw[a];exact⟨Z,Z⟩
     .rw[Ag p]at a;refine(O 7∘BF) ?_;rw[a];exact⟨Z,Z⟩
def vw(w:Ad)(k:Y)(os:Ap Obj):Be w (Sort.grow (w.drewN k) os):=
 ⟨Z,Z,Z,Bh,fun j hj=>by
  show(w.heap++os)[j]? =w.heap[j]?;grind⟩
abbrev Qi (w:Ad):Prop:=Lib.TabBelow eD w.heap.size w "internal/strconv.uint64pow10" .u64 Lib.pow10Tab
def Qi.a{w w':Ad}(h:Qi w)(hx:Be w w'):Qi w':=fun a d=>h a (Be.trans hx d)
def uR(n:H)(h0:-9223372036854775808<=n)(h1:n<=9223372036854775807)(w:Ad)(ht:Qi w):
 Bm eD 169 [Bb n] w fun v w'=>v=str (Qw n)/\Be w w':=by
 refine Bw func169 Z ntmps169 Bi Z ?_;refine(O 10)<|Zi (fun h=>?_) fun h=>?_
 .have a:Qw n=[]:=by unfold Qw;rw[Aj X]
  refine(O 4∘Bu) ?_;rw[a];exact⟨Z,Be.refl _⟩
 .have a:Qw n=Lib.itoa n:=by
   unfold Qw Lib.itoa;rw[Ag X,Ag X]
  refine(O 4∘Zc (Hj func224 Bi (Afw n h0 h1 w ht.here))) ?_;rintro _ w'⟨rfl,k,d,rfl⟩;refine(O 2∘Bu) ?_;rw[a];exact⟨Z,vw _ _ _⟩
end
section
attribute [local irreducible] EX
open Fld Pax
structure Env(w:Ad):Prop where
 tab:Qi w
 mlen:∃m:H,w.cell? ⟨0,0,Aa⟩=J (Bb m)
def Env.a{w w':Ad}(h:Env w)(hx:Be w w'):Env w':=by
 refine⟨h.tab.a hx,?_⟩;obtain⟨m,d⟩:=h.mlen;refine⟨m,?_⟩;have a:0<w.heap.size:=World.block_lt_of_cell? w _ d;have:=hx.block _ a;unfold World.cell? at d ⊢;grind
def jN(c:AI):∀s:Bg,Lib.index s [c]=Lib.indexByte s c
 |[]=>rfl
 |b::s=>by
  unfold Lib.index Lib.indexByte;rw[jN c s];grind
def uc(s:Bg)(c:AI):Lib.cut s [c]=CI s c:=by
 unfold Lib.cut CI;rw[jN];rcases OQ s c with⟨d,j⟩|⟨i,d,j,a,h⟩
 .grind
 .rw[d,Aj X,Aj h,a];have e:=List.takeWhile_append_dropWhile (p:=(· !=c)) (l:=s);rw[a]at e
  have k:s.dropWhile (· !=c)=s.drop i:=by
   have g:=Hx i s;have f:s.take i++s.dropWhile (· !=c)=s.take i++s.drop i:=by rw[e,g]
   exact List.append_cancel_left f
  simp_all
def fT(s:Bg)(c:AI)(f:Alz s<=1000000000)(w:Ad)(d:Env w):
 Bm eD 114 [str s,str [c]] w fun v w'=>v=.tuple #[str (CI s c).1,str (CI s c).2.1,.bool (CI s c).2.2]/\Be w w':=by
 obtain⟨m,a⟩:=d.mlen;refine(Hj func114 (by rfl) ((Afy ⟨s.toArray⟩ ⟨#[c]⟩ m w (by show Alz s<_;omega) a).mono (fun e w' q=>q))).mono ?_;rintro v w'⟨rfl,n,rfl⟩;refine⟨?_,Be.drewN w n⟩;rw[show(⟨s.toArray⟩:ByteArray).data.toList=s from Z,show(⟨#[c]⟩:ByteArray).data.toList=[c]from Z,uc]
def gE(f:Y)(q:Bg)(out:Ae Pr):Ew (f+1) q out=if q=[]then(out,0)else match Jd q with
 |some (p,n)=>Ew f (q.drop n) (out++[p])
 |none=>([],170):=rfl
def uE(s:Bg):(dec s).1<=9007199254740992:=by
 unfold dec;grind
def Aay(s:Bg)(hs:Alz s<=140737488355328)(w:Ad)(T:Env w):
 Bm eD 91 [str s] w fun v w'=>∃u,v=.tuple #[u,Bb (((Ex s).2:Y):H)]/\Bn w' w.heap.size 174 2 u (Alz (Ex s).1) (NB (Ex s).1)/\Be w w':=by
 have nil:∀w':Ad,Bn w' w.heap.size 174 2 (.slice Aa 0 0) (Alz ([]:Ae Pr)) (NB []):=fun w'=>Bn.nil _ _ _ _;refine Bw func91 Z ntmps91 Bi Z ?_;refine(O 13)<|Zi (fun t=>?_) fun t=>?_
 .have e:Ex s=([],3):=by unfold Ex;rw[Aj X]
  refine(O 5∘BF) ?_;rw[e];exact⟨_,Z,nil w,Be.refl _⟩
 .have V:Ex s=Ew (Alz s+1) s []:=by unfold Ex;rw[Ag X]
  refine(O 9)<|Lo (fun((q,g,v,wr):(Bg)×(Ae Pr)×Ah×Ad)=>(Alz q<=Alz s/\Alz g+Alz q<=Alz s/\Ew (Alz s+1) s []=Ew (Alz q+1) q g/\Bn wr w.heap.size 174 2 v (Alz g) (NB g)/\Be w wr,[(0,str (q)),(4,v)],wr,Alz q)) (s,([]),(.slice Aa 0 0),w) ?_ ?_
  .exact⟨Bq _,Bh,Z,nil w,Be.refl _⟩
  .rintro⟨q,g,v,wr⟩⟨hq,af,G,i,B⟩;refine(O 5∘Zv (by exact HJ (r:=[]) Z Z)∘O 1)<|Zi (fun f=>?_) fun f=>?_
   .subst f;refine(O 7∘BF) ?_;rw[V,G];exact⟨v,Z,i,B⟩
   .have ab:Alz q<=262144:=X;have no:Jd q=Aa->Ex s=([],170):=fun h=>by rw[V,G,gE,Ag f,h]
    have y:=fT q 32 X wr (T.a B);have I:=fS q 32;have p:(dec (CI q 32).1).2=(dec (CI q 32).1).2:=rfl;have o:=uE (CI q 32).1;have a:Jd q=if(CI q 32).2.2=Af/\(dec (CI q 32).1).2=0/\(dec (CI q 32).1).1<=Alz q/\Alz (CI q 32).1+2<=(dec (CI q 32).1).1/\q.getD ((dec (CI q 32).1).1-1) 0=10 then(if(CI ((q.drop (Alz (CI q 32).1+1)).take ((dec (CI q 32).1).1-1-(Alz (CI q 32).1+1))) 61).2.2=Af/\(CI ((q.drop (Alz (CI q 32).1+1)).take ((dec (CI q 32).1).1-1-(Alz (CI q 32).1+1))) 61).1≠[]then J (⟨(CI ((q.drop (Alz (CI q 32).1+1)).take ((dec (CI q 32).1).1-1-(Alz (CI q 32).1+1))) 61).1,(CI ((q.drop (Alz (CI q 32).1+1)).take ((dec (CI q 32).1).1-1-(Alz (CI q 32).1+1))) 61).2.1⟩,(dec (CI q 32).1).1)else Aa)else Aa:=rfl;generalize(CI q 32).2.1=rest at y;generalize(CI q 32).2.2=ok at y a;generalize(CI q 32).1=d at y I p o a;have L:=fun w'=>uL d X w';generalize(dec d).1=n at L o a;generalize(dec d).2=e at L p a;refine(O 4∘Zc y) ?_;rintro _ k⟨rfl,m⟩;refine(O 11∘Zc (L k)) ?_;rintro _ k⟨rfl,rfl⟩;refine(O 8) ?_;have P:=B.trans m
    have N:Jd q=Aa->∃u:Ah,Value.tuple #[.slice Aa 0 0,Bb ((170:Y):H)]=.tuple #[u,Bb (((Ex s).2:Y):H)]/\Bn k w.heap.size 174 2 u (Alz (Ex s).1) (NB (Ex s).1)/\Be w k:=fun h=>by
     rw[no h];grind
    rcases ok with _|_
    .skip
     refine(O 34∘BF) ?_;grind
    .skip
     refine(O 8)<|Zd 34 (fun a1=>?_) fun a1=>?_
     .refine(O 26∘BF) ?_;grind
     .refine(O 6)<|Zd 40 (fun a2=>?_) fun a2=>?_
      .refine(O 20∘BF) ?_;grind
      .refine(O 7)<|Zd 47 (fun a3=>?_) fun a3=>?_
       .refine(O 13∘BF) ?_;grind
       .have D:n-1<Alz q:=X;have S:q.getD (n-1) 0=q[n-1]:=by simp[Cd,D]
        refine(O 7)<|Zi (fun a4=>?_) fun a4=>?_
        .refine(O 5∘BF) ?_;exact N (by rw[a,Ag (fun h=>a4 (by have:=h.2.2.2.2;rw[S]at this;simp_all))])
        .have K:q.getD (n-1) 0=10:=by rw[S];exact Ku.1 Bf
         rw[Aj ⟨Z,X,X,X,K⟩]at a;have ai:Alz ((q.drop (Alz d+1)).take (n-1-(Alz d+1)))<=262144:=by rw[BW,CA];omega
         have x:=fT ((q.drop (Alz d+1)).take (n-1-(Alz d+1))) 61 X k (T.a P);have E:=fS ((q.drop (Alz d+1)).take (n-1-(Alz d+1))) 61;generalize(CI ((q.drop (Alz d+1)).take (n-1-(Alz d+1))) 61).2.1=val at x a;generalize(CI ((q.drop (Alz d+1)).take (n-1-(Alz d+1))) 61).2.2=ok2 at x a;generalize(CI ((q.drop (Alz d+1)).take (n-1-(Alz d+1))) 61).1=key at x a E;refine(O 9∘Zv (by exact Oa eT Z Z Z X)∘Zc x) ?_;rintro _ Q⟨rfl,l⟩;refine(O 10) ?_;have x2:=P.trans l
         have W:Jd q=Aa->∃u:Ah,Value.tuple #[.slice Aa 0 0,Bb ((170:Y):H)]=.tuple #[u,Bb (((Ex s).2:Y):H)]/\Bn Q w.heap.size 174 2 u (Alz (Ex s).1) (NB (Ex s).1)/\Be w Q:=fun h=>by
          simp_all
         rcases ok2 with _|_
         .skip
          refine(O 14∘BF) ?_;grind
         .skip
          refine(O 5∘Zv (by exact HJ (r:=[]) Z Z)∘O 2)<|Zi (fun b1=>?_) fun b1=>?_
          .refine(O 5∘BF) ?_;grind
          .rw[Aj ⟨Z,b1⟩]at a;have j:=(i.a m).a l;refine(O 7∘Kx x2 j) ?_;rintro _ v3 w3 C A _;refine(O 5∘Zv (by exact LR eT Z Z X)∘O 3)<|Lb ((q.drop n),(g++[⟨key,val⟩]),v3,w3) ?_ (hm:=by dsimp only;rw[CA];omega);refine⟨by rw[CA];omega,Bf,?_,?_,A⟩
           .rw[G,gE,Ag f,a];simp only;exact((XZ _ (q.drop n) _ (by rw[CA];omega)).2 _ X).symm
           .rw[Bx,CL,NB,IT];assumption
def tQ(s:Bg)(w:Ad):Bm eD 168 [str s,str [61]] w fun v w'=>v=.bool (decide ((61:AI)∈s))/\w=w':=by
 refine(Hj func168 (by rfl) (nM ⟨s.toArray⟩ 61 w)).mono ?_;rintro v w'⟨rfl,rfl⟩;refine⟨AF Value.bool (decide_eq_decide.2 ?_),Z⟩;rw[show(⟨s.toArray⟩:ByteArray).data.toList=s from Z];rcases OQ s 61 with⟨d,a⟩|⟨i,d,_,_,a⟩
 .grind
 .grind
def uQ(n:Y):Qw (n:H)=Lib.decDigits n:=by
 rfl
def Yj(n:Y)(h1:n<=9223372036854775807)(w:Ad)(ht:Env w):Bm eD 169 [Bb (n:H)] w fun v w'=>v=str (Lib.decDigits n)/\Be w w':=by
 have:=uR (n:H) X X w ht.tab;rwa[uQ]at this
def vf(p:Pr)(l:Ae Pr)(n:Y)(out:Bg):Lv (p::l) n out=if 262144<n+Dk p then([],3)else Lv l (n+Dk p) (out++DA p):=rfl
def uS{n:Y}(h:n<=9223372036854775807):dl n<=19:=gB 19 n X Bh
def Acb{p:Pr}(h:dl (Dk p)=JM (rest p)):Alz (DA p)=Dk p:=by
 unfold DA;simp only[Bx,CL];unfold dl at h;rw[h];unfold Dk rest;omega
def Aaa(k:Bg):MB k=Af↔¬(k=[]∨(61:AI)∈k):=by
 unfold MB;simp
def OkP(l:Ae Pr):Prop:=∀p∈l,Alz p.key<=1000000000000/\Alz p.val<=1000000000000
def Aaz(l:Ae Pr)(hl:Alz l<=140737488355328)(a6:OkP l)(A:Av AB)(k B:Y)(w:Ad)(hG:Env w)(hs:Sl w B A (NB l)):
 Bm eD 129 [.slice A (Alz l) k] w fun v w'=>v=.tuple #[str (Nq l).1,Bb (((Nq l).2:Y):H)]/\Be w w':=by
 refine Bw func129 Z ntmps129 Bi Z ?_;refine(O 16)<|Lc (fun(wr:Ad)=>(l.all (fun p=>MB p.key)=Af/\Be w wr,[(0,.slice A (Alz l) k),(4,Bb ((0:Y):H))],wr)) ?_ ?_
 .refine(O 1)<|Lo (fun((i,wr):Y×Ad)=>(i<=Alz l/\(l.take i).all (fun p=>MB p.key)=Af/\Be w wr,[(0,.slice A (Alz l) k),(4,Bb ((0:Y):H)),(12,.slice A (Alz l) k),(13,Bb ((Alz l:Y):H)),(14,Bb i)],wr,Alz l-i)) (0,w) ?_ ?_
  .exact⟨X,Z,Be.refl _⟩
  .rintro⟨i,wr⟩⟨hi,j,t⟩;refine(O 5)<|Zi (fun a=>?_) fun a=>?_
   .obtain⟨b,o,rfl,_,f⟩:=(hs.a t).flat (c:=2) (fun _=>rfl) Bc a;have a0:l.take (i+1)=l.take i++[l[i]]:=(CX a).symm;refine(O 6∘Zv (Dj ((l[i]).cells) f)∘Zn) ?_;rintro T w1 W a5 G;refine(Zs a5 (hlt:=Bq _)) ?_;rintro Q I a9;refine(O 2) ?_;replace I:Bk Q T 174 (l[i]).cells:=I;have x2:Be w Q:=Bp (t.trans G) a9 (t.trans G).size (fun k hk=>by simp at hk;have:=t.size;omega)
    have no:MB (l[i]).key=Ai->Nq l=([],170):=fun h=>by
     unfold Nq;grind
    refine(O 3∘Zv (by exact HJ (r:=[]) Z Z)∘O 1)<|Zd 21 (fun h1=>?_) fun h1=>?_
    .refine(O 11∘BF) ?_;rw[no (by unfold MB;grind)];exact⟨Z,x2⟩
    .refine(O 2∘Zc (tQ (l[i]).key Q)) ?_;rintro _ _⟨rfl,rfl⟩;refine(O 2)<|Zi (fun h2=>?_) fun h2=>?_
     .refine(O 5∘BF) ?_;rw[no (by unfold MB;grind)];exact⟨Z,x2⟩
     .refine(O 6)<|Lb ((i+1),Q) ?_;refine⟨X,?_,x2⟩;rw[a0,List.all_append,j];have:MB (l[i]).key=Af:=(Aaa _).2 Bf;grind
   .obtain rfl:i=Alz l:=X;rw[DY]at j;refine(O 1∘Lm wr) ?_;grind
 .rintro wr⟨j,t⟩;have e0:Nq l=Lv l 0 []:=by unfold Nq;rw[Aj j]
  rw[e0];refine(O 2∘Zn) ?_;rintro bb w1 W bf G;refine(O 9) ?_;have P:=Bd.new (B:=w.heap.size) (by have:=t.size;omega) bf;have x1:=t.trans G;refine Lo (fun((i,n,g,wr):Y×Y×(Bg)×Ad)=>(i<=Alz l/\n<=262144/\Alz g<=n/\Lv (l.drop i) n g=Lv l 0 []/\Bd wr w.heap.size bb g/\Be w wr,[(4,Bb n),(7,.pointer (J ⟨bb,0,Aa⟩)),(27,.slice A (Alz l) k),(28,Bb ((Alz l:Y):H)),(29,Bb i)],wr,Alz l-i)) (0,0,([]),w1) ?_ ?_
  .grind
  .rintro⟨i,n,g,wr⟩⟨hi,hn,bq,x,P,t⟩;refine(O 5)<|Zi (fun a=>?_) fun a=>?_
   .obtain⟨b,o,rfl,_,f⟩:=(hs.a t).flat (c:=2) (fun _=>rfl) Bc a;have bc:l.drop i=l[i]::l.drop (i+1):=DD a;have hp:=a6 l[i] (BL a);have a3:(l[i]).cells=[str (l[i]).key,str (l[i]).val]:=rfl;rw[bc,vf]at x;generalize l[i]=p at hp x f a3;refine(O 6∘Zv (Dj p.cells f)∘Zn) ?_;rintro T Q bh I E;refine(Zs I (hlt:=Bq _)) ?_;rintro w3 N a8;refine(O 4) ?_;replace N:Bk w3 T 174 p.cells:=N;have x3:Be wr w3:=Bp E a8 E.size (fun k hk=>by grind);refine(O 17) ?_;have hr:((Alz p.key:Y):H)+((Alz p.val:Y):H)+3=((rest p:Y):H):=by unfold rest;omega
    have bn:rest p<=2000000000003:=by unfold rest;omega
    refine(Ct 10 (Bb (((rest p):Y):H)) (e:=by exact AF (Value.int .i64) (by unfold rest;omega))∘Ct 11 (Bb (((rest p+1):Y):H)) (e:=by exact AF (Value.int .i64) (by unfold rest;omega)))<|Lo (fun((z,wq):Y×Ad)=>(rest p+1<=z/\z<=rest p+20/\z<=dl z+rest p/\(∀d,1<=d->d+rest p<z->dl (d+rest p)≠d)/\Be w3 wq,[(4,Bb n),(7,.pointer (J ⟨bb,0,Aa⟩)),(9,.pointer (J ⟨T,0,Aa⟩)),(10,Bb (((rest p):Y):H)),(11,Bb z),(27,.slice (J ⟨b,o,Aa⟩) (Alz l) k),(28,Bb ((Alz l:Y):H)),(29,Bb i)],wq,rest p+21-z)) ((rest p+1),w3) ?_ ?_
    .exact⟨X,X,by have:=gD (rest p+1);omega,fun d h1 h2=>by omega,Be.refl _⟩
    .rintro⟨z,wq⟩⟨bm,bl,ao,al,C⟩;have bj:dl z<=19:=uS X;have xq:=(t.trans x3).trans C;have c1:=Yj z X wq (hG.a xq);have ba:Alz (Lib.decDigits z)=dl z:=rfl;generalize hD:Lib.decDigits z=D at c1 ba;refine(O 4∘Zc c1) ?_;rintro _ S⟨rfl,m⟩;refine(O 6)<|Zi (fun a7=>?_) fun a7=>?_
     .have c2:=Yj z X S (hG.a (xq.trans m));rw[hD]at c2;refine(O 4∘Zc c2) ?_;rintro _ w5⟨rfl,y⟩;refine(O 6∘Ct 11 (Bb (((dl z+rest p):Y):H)) (e:=by exact AF (Value.int .i64) X))<|Lb ((dl z+rest p),w5) ?_;refine⟨X,X,?_,?_,(C.trans m).trans y⟩
      .have:=gC z (dl z+rest p) ao;omega
      .intro d h1 h2 h3;by_cases h4:d+rest p<z
       .grind
       .have:=gC z (d+rest p) X;omega
     .have aj:dl z+rest p=z:=X
      have hd:IsD (rest p) (dl z):=by
       refine⟨gD z,X,Bf,fun d' h1 h2=>al d' h1 X⟩
      have bd:=yl hd;have V:Dk p=z:=by unfold Dk;rw[<-bd];exact aj
      have a1:=Acb (p:=p) Bf;have a2:DA p=D++[32]++p.key++[61]++p.val++[10]:=by unfold DA;rw[V,hD]
      rw[V]at a1 x;refine(O 14)<|Zi (fun ab=>?_) fun ab=>?_
      .rw[Aj X]at x;refine(O 5∘BF) ?_;rw[<-x];exact⟨Z,xq.trans m⟩
      .rw[Ag X]at x;have a4:=(N.a C).a m;have ai:=((P.a x3).a C).a m;have x4:=xq.trans m;have c3:=Yj z X S.drew (hG.a (x4.trans (Be.drew S)));rw[hD]at c3;refine(O 1∘Yr 12 (fun w'=>Bk w' T 174 p.cells) a4.drew) fun hS=>(Gv [0,3,4,7,8]∘Yc 1 c3) ?_;rintro _ w5⟨rfl,y⟩;refine⟨hS.a y,fun hS=>?_⟩;refine(Yw 2 (he:=by exact fun _ _=>Kd (r:=[32]) Z Z (by first|omega|(simp only[Bx,CF,ET,BW,CA,Cn];omega)))∘Gv [5]∘Yw 6 (he:=by exact fun _ _=>Kd (r:=[61]) Z Z (by first|omega|(simp only[Bx,CF,ET,BW,CA,Cn];omega)))∘Gv [9]∘Yw 10 (he:=by exact fun _ _=>Kd (r:=[10]) Z Z (by first|omega|(simp only[Bx,CF,ET,BW,CA,Cn];omega)))) ?_;have af:=(ai.a (Be.drew S)).a y;have x5:=(x4.trans (Be.drew S)).trans y;refine(Yc 11 (Wj w.heap.size bb g (D++[32]++p.key++[61]++p.val++[10]) w5 af Bh Bf x5.size)) ?_;rintro _ w6⟨⟨q,rfl⟩,L,bi,K⟩;refine⟨K.bk hS Bc,fun hS=>?_⟩;refine(Yd∘O 5) ?_;rw[<-a2]at L;refine(Ct 4 (Bb (((n+z):Y):H)) (e:=by exact AF (Value.int .i64) X))<|Lb ((i+1),(n+z),(g++DA p),w6) ?_;refine⟨X,X,Bf,x,L,Tm.below x5 K x5.size (Bq _)⟩
   .obtain rfl:i=Alz l:=X;rw[IS]at x;have e2:Lv l 0 []=(g,0):=x.symm;rw[e2];refine(O 3∘Zc (UA w.heap.size bb g wr P X t.size)) ?_;rintro _ Q⟨rfl,E⟩;refine(O 3∘BF) ?_;exact⟨Z,Below.trans t E⟩
end
section
attribute [local irreducible] EX
open Fld Ust Pax Pth Tar
def _root_.Go.Proofs.YtkmlafmjaeeanaaGreatDoor.Tar.En.cells(x:En):Bl:=[str x.g,str x.data]
abbrev Df(l:Ae En):Bl:=l.flatMap En.cells
def vI(n:Y)(h:n<=9007199254740992)(w:Ad):Bm eD 167 [Bb ((n:Y):H)] w fun v w'=>v=Bb ((GP n:Y):H)/\w=w':=by
 refine Bw func167 Z ntmps167 (by rfl) Z ?_;refine(O 13∘Bu) ?_;exact⟨Z,Z⟩
def xI{p:Bg}{k n:Y}(hp:Alz p<=1000000)(hk:k<=255)(hn:n<=9007199254740992):(Dg p k n).q:=
 ⟨hk,by show Alz p<=_;omega,by show(0:Y)<=_;omega,by show(0:Y)<=_;omega,by show(0:Y)<=_;omega,by unfold Ki Dg;simp only;omega,by unfold Ki Dg;simp only;omega,by unfold Ki Dg;simp only;omega,by unfold Ki Dg;simp only;omega,by unfold Ki Dg;simp only;omega⟩
def aZ(p:Bg)(k:Y)(d:Bg)(g:Tar.Good p k (Alz d))(m:Alz p<=1000000)(hk:k<=255)(x:Alz d<=1000000)(w:Ad):
 Bm eD 128 [str p,.int .u8 (k:H),str d] w fun v w'=>v=.tuple #[str (GV p k d),Bb ((0:Y):H)]/\Be w w':=by
 have f:=Aiv (Dg p k (Alz d)) (xI m hk X) w;rw[g.enc]at f;have i:Alz (Dr (Dg p k (Alz d)))=512:=g.len;have t:=YI (Alz d);have q:=SA (Alz d);unfold GV;generalize Dr (Dg p k (Alz d))=h at f i;refine Bw func128 Z ntmps128 Bi Z ?_;refine(O 12∘Zc f) ?_;rintro _ l⟨rfl,e⟩;refine(O 12∘Ci 20∘O 9∘Zc (vI (Alz d) X l)) ?_;rintro _ _⟨rfl,rfl⟩;refine(O 3∘Gc) ?_;rintro b r o j a;rw[<-XC]at j;have n:=Vp (GP (Alz d)-Alz d);refine(Zv (DR j.sl (hl:=Vp _))∘O 4∘BF) ?_;exact⟨Z,e.trans a⟩
def gM(x:En)(t:Alz x.g<=1000000000000)(hd:Alz x.data<=140737488355328)(w:Ad)(hG:Env w):
 Bm eD 99 [.agg x.cells.toArray] w fun v w'=>v=.tuple #[str (JQ x).1,Bb (((JQ x).2:Y):H)]/\Be w w':=by
 refine Bw func99 Z ntmps99 Bi Z ?_;refine(O 2) ?_;refine Dq Z Z Z ?_;rintro P T ab i D;refine(O 7) ?_;replace i:Bk T P 64 x.cells:=i;refine(O 1∘Zc (OA x.g t T)) ?_;rintro _ w2⟨rfl,q⟩;refine(O 7) ?_;have x2:=D.trans q;have L:=i.a q;refine Zi (fun G=>?_) fun G=>?_
 .have e:JQ x=([],140):=by unfold JQ;rw[Aj X]
  have a4:Cw x.g=140:=by unfold Cw at G ⊢;split at G;(· omega);(· grind)
  refine(O 6∘BF) ?_;grind
 .have h:Cw x.g=0:=X;obtain⟨a3,aj,a,hz⟩:=Qq h;refine(O 9)<|Zi (fun B=>?_) fun B=>?_
  .have e:JQ x=([],3):=by unfold JQ;rw[Ag X,Aj X]
   refine(O 5∘BF) ?_;grind
  .have A:Alz x.data<=262144:=X;have e:JQ x=(JR x,0):=by unfold JQ;rw[Ag X,Ag X]
   refine(O 6∘Zc (mn x.g X w2)) ?_;rintro _ w3⟨r,rfl,hr,o⟩;refine(O 12) ?_;obtain rfl:=oh hr;have S:=x2.trans o;have K:=L.a o;rcases hs:(BO x.g).2.2 with _|_
   .refine(O 5) ?_;have y:¬(BO x.g).2.2=Af:=by rw[hs];decide
    have N:JR x=GV IF 120 (DA ⟨ED,x.g⟩)++GV (x.g.take 100) 48 x.data:=by unfold JR;rw[Ag y]
    have E:=zA y;have ai:=aH (Ph a);have a0:=SC _ (Ph a);have af:Dk ⟨ED,x.g⟩<=300:=by unfold Dk;have:=Ph a;omega
    have g1:=YX (n:=Alz (DA ⟨ED,x.g⟩)) X;have g2:=YV h A;have ao:=aY g1;have al:=aY g2;have a2:=SA (Alz (DA ⟨ED,x.g⟩));have a1:=SA (Alz x.data);refine(O 2) ?_;refine Mc 1 ([[str ED,str x.g]]) Z Z underlying170 oS Z Bc Z Z Z Bh Bc ?_;rintro V C W f d;replace f:Bk C V 174 (NB [⟨ED,x.g⟩]):=f;have Q:=S.trans d;have c1:=Aaz [⟨ED,x.g⟩] Bh (by intro p t;simp only[Cp]at t;subst t;exact⟨by show Alz ED<=_;decide,t⟩) (J ⟨V,0,Aa⟩) 1 _ C (hG.a Q) (Sl.Akk f f.lt);rw[Aaw a]at c1;refine(Zc c1) ?_;rintro _ w5⟨rfl,m⟩;refine(O 9) ?_;have c2:=aZ IF 120 (DA ⟨ED,x.g⟩) g1 Bc Bc X w5;refine(Zc c2) ?_;rintro _ w6⟨rfl,l⟩;refine(O 7) ?_;have I:=((K.a d).a m).a l;have x6:=(Q.trans m).trans l;refine(Yr 11 (fun w'=>Bk w' P 64 x.cells) I.drew) fun hS=>(Gv [0,1]∘Yw 2 (he:=by exact fun _ _=>Kf (j:=100) eT Z Z X)∘Gv [3,4]) ?_;have c3:=fun w=>aZ (x.g.take 100) 48 x.data g2 Bf Bc X w;refine(Yc 5 (c3 _)) ?_;rintro _ w7⟨rfl,k⟩;refine⟨hS.a k,fun hS=>?_⟩;refine(Gv [6,7,8,9,10]∘Yd∘O 9∘BF) ?_;rw[e,N];exact⟨Z,(x6.trans (Be.drew w6)).trans k⟩
   .refine(O 4) ?_;have N:JR x=GV x.g 48 x.data:=by unfold JR;rw[Aj hs]
    have g:=YW h A hs;refine(O 3∘Zc (aZ x.g 48 x.data g X Bc X w3)) ?_;rintro _ C⟨rfl,d⟩;refine(O 5∘BF) ?_;rw[e,N];exact⟨Z,S.trans d⟩
end
section
open Fld Ust Pax Pth Tar
def ua(s:Bg)(c:AI):Alz (CI s c).2.1<=Alz s:=by
 unfold CI;split
 .have h:=(List.dropWhile_suffix (l:=s) (fun x=>x !=c)).length_le;grind
 .simp
def uX{s:Bg}{p:Pr}{n:Y}(h:Jd s=J (p,n)):Alz p.val<=Alz s:=by
 unfold Jd at h;simp only at h;split at h
 .split at h
  .simp only[Qf.injEq,Prod.mk.injEq]at h;obtain⟨rfl,_⟩:=h;refine BA (ua _ _) ?_;grind
  .cases h
 .cases h
def gi:∀(f:Y) (s:Bg) (out:Ae Pr) (M:Y),Alz s<=M->(∀p∈out,Alz p.val<=M)->∀p∈(Ew f s out).1,Alz p.val<=M
 |0,s,out,M,hs,ho,p,hp=>by simp[Ew]at hp
 |f+1,s,out,M,hs,ho,p,hp=>by
  rw[Ew]at hp;split at hp
  .grind
  .split at hp
   .rename_i q n hq;refine gi f _ _ M Bf (fun r hr=>?_) p hp;rcases CW.1 hr with hr|hr
    .grind
    .simp only[Cp]at hr;subst hr;have:=uX hq;omega
   .grind
def uv(s:Bg):∀p∈(Ex s).1,Alz p.val<=Alz s:=by
 unfold Ex;split
 .simp
 .exact gi _ _ _ _ (Bq _) Bh
end

namespace Rec
open Go.Proofs.YtkmlafmjaeeanaaGreatDoor
def be:Y->Y->Bg
 |0,_=>[]
 |w+1,n=>be w (n/256)++[BV (n%256)]
def Eb:∀w n,Alz (be w n)=w
 |0,_=>rfl
 |w+1,n=>by simp[be,Eb]
def nb(s:Bg):Y:=s.foldl (fun v c=>v*256+c.toNat) 0
def ZQ(s:Bg)(c:AI):nb (s++[c])=nb s*256+c.toNat:=by simp[nb]
def SJ:∀(k:Y) (s:Bg),Alz s=k->nb s<256 ^ k
 |0,s,h=>by rw[Im h];decide
 |k+1,s,h=>by
  have hne:s≠[]:=by intro e;subst e;simp at h
  rw[<-List.dropLast_concat_getLast hne,ZQ];have a:=SJ k s.dropLast Bf;have d:=(s.getLast hne).toNat_lt;omega
def Pb:∀w n,n<256 ^ w->nb (be w n)=n
 |0,n,h=>by simp at h;subst h;rfl
 |w+1,n,h=>by
  simp only[be,ZQ];rw[Pb w _ X];simp;omega
def body(kind gen index:Y)(data:Bg):Bg:=[75,73,83,84]++[BV kind]++be 8 gen++be 4 index++be 2 (Alz data)++(data++BH (489-Alz data) 0)
def eZ(e gen d:Y)(a:Bg)(h:Alz a<=486):Alz (body e gen d a)=508:=by
 simp[body,Eb];omega
def text(kind gen index:Y)(data:Bg):Bg:=body kind gen index data++be 4 (Ff (body kind gen index data))
def VY(e gen d:Y)(a:Bg)(h:Alz a<=486):Alz (text e gen d a)=512:=by
 unfold text;rw[Bx,eZ _ _ _ _ h,Eb]
def bad(kind:Y)(gen index:H)(data:Bg):Prop:=kind=0∨gen<0∨4611686018427387904<gen∨index<0∨2147483647<index∨486<Alz data
instance(kind:Y)(gen index:H)(data:Bg):Decidable (bad kind gen index data):=by unfold bad;infer_instance
def Fa(kind:Y)(gen index:H)(data:Bg):Bg×Y:=if bad kind gen index data then([],200)else(text kind gen.toNat index.toNat data,0)
structure R where
 kind:Y
 gen:H
 index:H
 data:Bg
 deriving DecidableEq
def R0:R:=⟨0,0,0,[]⟩
def HE(s:Bg):H:=if nb s<9223372036854775808 then nb s else(nb s:H)-18446744073709551616
def DH(s:Bg):R:=⟨(s.getD 4 0).toNat,HE ((s.drop 5).take 8),HE ((s.drop 13).take 4),(s.drop 19).take (nb ((s.drop 17).take 2))⟩
def Cu(s:Bg):R×Y:=
 if Alz s=512/\nb ((s.drop 17).take 2)<=486/\Fa (DH s).kind (DH s).gen (DH s).index (DH s).data=(s,0)then(DH s,0)else(R0,200)
end Rec

section
attribute [local irreducible] EX
def u8_lt(c:AI):c.toNat<256:=c.toNat_lt
def Zo(s:Bg)(C:Alz s<=9223372036854775807)(w:Ad):
 Bm eD 62 [str s] w fun v w'=>v=.int .u32 (Ff s:Y)/\Be w w':=by
 refine Bw Bh Z ntmps62 (by rfl) Z ?_;refine(O 6∘Zc (oE w)) ?_;rintro _ r⟨rfl,d⟩;refine(Zv (by exact EX.alloc (l:=NT) NO Z)) ?_;have o:=Bk.new r 178 NT;have f:=d.trans (Be.alloc _ (.cells NT.toArray 178));refine Xk Z NO Z Z Rr (TL.2 fun v y=>by obtain⟨_,_,rfl⟩:=Cr.1 y;rfl) o Cn ?_;intro q B j;refine(O 13) ?_;have t:=f.grown j (fun g j=>by cases j;exact d.size);refine Lo (fun((k,x))=>(k<=Alz s/\x<4294967296/\x=Sj (s.take k),[(0,str (s)),(3,.pointer (J ⟨r.heap.size,0,Aa⟩)),(4,.int .u32 x),(8,Bb (Alz s:H)),(9,Bb k)],q,Alz s-k)) (0,4294967295) ?_ ?_
 .exact⟨X,X,Z⟩
 .rintro⟨k,x⟩⟨D,d,a⟩;refine(O 5)<|Zi (fun h=>?_) fun h=>?_
  .have E:=u8_lt s[k];have i:=Aio s[k].toNat;have e:x/16777216 ^^^ Jt 8 _ 0<256:=Ou (n:=8) X i;have A:=XU (x/16777216 ^^^ Jt 8 s[k].toNat 0);refine(O 10) ?_;refine OW.val Z Z (by first|exact Hv _ _ _ _ _ _|exact IN (p:=256) (m:=4294967296) Z Z Bc Bc Z Bc)<|(O 1∘Zv (by exact IP (p:=16777216) Z Z Bc Bc)∘O 5∘Zc (pj s[k].toNat 8 X X _)) ?_;rintro _ _⟨rfl,rfl⟩;refine(O 1∘Zv (by exact Jy (m:=255) Z Z Z X)∘O 1∘Zv (Bo B (hi:=bD _ e))∘Zv (by exact Jy (m:=4294967295) Z Z Z X)∘O 7)<|Lb ((k+1),(OD x _)) ?_;exact⟨X,XQ _ _,by rw[bG s k h,tn,<-a]⟩
  .refine(O 4∘Zv (by exact cY (m:=4294967295) Z Z Z X)∘Zc (pj (4294967295-x) 32 X X q)) ?_;rintro _ _⟨rfl,rfl⟩;refine(O 2∘Bu) ?_;rw[Dh X]at a;exact⟨by rw[a];rfl,t⟩
end
section
open Rec
def Abm(k:Y):2 ^ (8*k)=256 ^ k:=by rw[Nat.pow_mul]
def HX(n d:Y)(I:n<18446744073709551616)(E:1<=d/\d<=8)(w:Ad):
 Bm eD 141 [.int .u64 (n:H),Bb (d:H)] w fun v w'=>v=str (be d n)/\Be w w':=by
 refine Bw func141 Z ntmps141 (by rfl) Z ?_;refine(O 7∘Gc) ?_;rintro o r C N A;refine OW.val Z Z (HI Z) ?_;refine OW.nil ?_;refine El (El (KW.region ?_));refine OW.val Z Z (EX.move Z) ?_;refine OW.val Z Z (PN im Z) ?_;refine OW.val Z Z (EX.move Z) ?_;refine OW.nil ?_;refine KW.block ?_;refine rj (fun(i:Y) (wr:Ad)=>i<=d/\Bk wr o 5 (BI (be i (n/256 ^ (d-i)))++BH (d-i) (.int .u8 0))/\Be w wr) (fun(i:Y) (wr:Ad)=>[(0,.int .u64 ((n:Y):H)),(1,Bb ((d:Y):H)),(5,.slice (J ⟨o,0,Aa⟩) d d),(10,Bb ((d:Y):H)),(11,Bb ((i:Y):H))]) (fun(i:Y) (wr:Ad)=>wr) (fun(i:Y) (wr:Ad)=>d-i) (0) (r) ⟨Z,Z,Z,Z,Z,Ay⟩ Z ?_ ?_
 .exact⟨X,Ck,A⟩
 .rintro i wr⟨L,j,f⟩;refine El (KW.region ?_);refine OW.val Z Z (by first|exact cT Z Z|exact cU Z Z) ?_;refine OW.nil ?_;refine El ?_;refine TK Z (fun h=>?_) (fun h=>?_)
  .have B:n/256 ^ (d-1-i)/256=n/256 ^ (d-i):=by
    rw[show d-i=(d-1-i)+1 by omega,Kr,Xb]
   have G:n/256 ^ (d-1-i)<=n:=On _ _;refine KW.skip (El (KW.block (El (KW.region ?_))));refine OW.val Z Z (EX.move Z) ?_;refine OW.val Z Z (HI Z) ?_;refine OW.nil ?_;refine KW.region ?_;refine OW.val Z Z (EX.move Z) ?_;refine OW.val Z Z (EX.move Z) ?_;refine OW.val Z Z (EX.move Z) ?_;refine OW.val Z Z (EX.move Z) ?_;refine OW.val Z Z (by first|exact Kg (b:=1) (m:=9223372036854775807) Z Z Z X|exact RH (m:=9223372036854775807) Z Z Z Z X) ?_;refine OW.val Z Z (EX.move Z) ?_;refine OW.val Z Z (by first|exact Kg (m:=9223372036854775807) Z Z Z X|exact RH (m:=9223372036854775807) Z Z Z Z X) ?_;refine OW.val Z Z (by first|exact Ww (a:=8) (m:=9223372036854775807) Z Z Z X|exact EX.mulZ (m:=9223372036854775807) Z Z Z Z X) ?_;refine OW.val Z Z (by first|exact RF (m:=18446744073709551615) io iJ Z Z X|exact RG (m:=18446744073709551616) io iJ Z Z Bc|exact EX.convZ io iJ Z) ?_;refine OW.val Z Z (IP (s:=8*(d-1-i)) (p:=256 ^ (d-1-i)) Z Z (Abm _) (by show _<=64;omega)) ?_;refine OW.val Z Z (by first|exact RF (m:=255) iw iB Z Z X|exact RG (m:=256) iw iB Z Z Bc|exact EX.convZ iw iB Z) ?_;refine OW.val Z Z (by first|exact KV im CE Z Z X|exact KX im CE Z Z X) ?_;refine Un Z CE Z Z (by rfl) (j) (by simp[BI,Eb];omega) ?_;rintro q D g;refine OW.nil ?_;refine dE (KW.region ?_);refine OW.val Z Z (by first|exact Tz (b:=1) (m:=9223372036854775807) Z Z Z X|exact TA (m:=9223372036854775807) Z Z Z Z X) ?_;refine OW.val Z Z (EX.move Z) ?_;refine OW.nil ?_;refine qZ (i+1) (q) ⟨Z,Z,Z,Z,Z,Ay⟩ Z ?_ X;refine⟨X,?_,Bp f g f.size (fun k K=>by grind)⟩
   have e:be (i+1) (n/256 ^ (d-(i+1)))=be i (n/256 ^ (d-i))++[BV (n/256 ^ (d-1-i)%256)]:=by
    rw[show d-(i+1)=d-1-i by omega];simp only[be];rw[B]
   have Q:(BI (be i (n/256 ^ (d-i)))++BH (d-i) (Value.int .u8 0)).set i (.int .u8 ((n/256 ^ (d-1-i)%256:Y):H))=BI (be (i+1) (n/256 ^ (d-(i+1))))++BH (d-(i+1)) (.int .u8 0):=by
    rw[e,LX _ _ (by simp[BI,Eb])];have l:Alz (BI (be i (n/256 ^ (d-i))))=i:=by simp[BI,Eb]
    rw[l,EY,show d-i=(d-(i+1))+1 by omega,JC,IW];simp[BI]
   grind
  .obtain rfl:i=d:=X;rw[EY,TY,List.append_nil,Nat.pow_zero,Nat.div_one]at j;refine(O 4∘Zv (DR j.sl (hl:=Eb _ _))∘O 2∘Bu) ?_;grind
def zk(s:Bg){i:Y}(h:i<Alz s):nb (s.take (i+1))=nb (s.take i)*256+s[i].toNat:=by
 rw[LY,BQ h];exact ZQ _ _
def Re(d n:Y)(s:Bg)(T:Aw)(w:Ad)(a:Bk w d T [str s])(j:n<=1000000000000)(i:Alz s<=1000000000000):
 Bm eD 105 [.pointer (J ⟨d,0,Aa⟩),Bb (n:H)] w fun v w'=>v=str (s.take n)/\Bk w' d T [str (s.drop n)]/\Mo w w' [d]:=by
 refine Bw func105 Z ntmps105 (by rfl) Z ?_;refine El (KW.region ?_);refine OW.val Z Z (HI Z) ?_;refine OW.nil ?_;refine El (El (KW.region ?_));refine OW.val Z Z (EX.move Z) ?_;refine OW.val Z Z (EX.move Z) ?_;refine OW.val Z Z (DU Z) ?_;refine OW.val Z Z (Dw (off:=0) iE Z Z Ii Z Z) ?_;refine OW.val Z Z (CV eT Z Z (a.I Z)) ?_;refine OW.val Z Z (Wv eT Z) ?_;refine OW.val Z Z (by first|exact cR Z Z|exact cS Z Z) ?_;refine OW.nil ?_;refine TK Z (fun h=>?_) (fun h=>?_)
 .have l:s.take n=s:=Dh X;have k:s.drop n=[]:=Of X;refine KW.region ?_;refine OW.val Z Z (EX.move Z) ?_;refine OW.val Z Z (DU Z) ?_;refine OW.val Z Z (Dw (off:=0) iE Z Z Ii Z Z) ?_;refine OW.val Z Z (CV eT Z Z (a.I Z)) ?_;refine OW.val Z Z (Wv eT Z) ?_;refine OW.val Z Z (HI Z) ?_;refine OW.nil ?_;refine El (KW.region ?_);refine OW.val Z Z (EX.move Z) ?_;refine OW.val Z Z (DU Z) ?_;refine OW.val Z Z (Dw (off:=0) iE Z Z Ii Z Z) ?_;refine OW.val Z Z (CV eT Z Z (a.I Z)) ?_;refine OW.val Z Z (EX.move Z) ?_;refine OW.val Z Z (Kf eT Z Z X) ?_;refine OW.val Z Z (HI Z) ?_;refine OW.nil ?_;refine El (KW.region ?_);refine OW.val Z Z (EX.move Z) ?_;refine OW.val Z Z (EX.move Z) ?_;refine OW.val Z Z (DU Z) ?_;refine OW.val Z Z (Dw (off:=0) iE Z Z Ii Z Z) ?_;refine OW.val Z Z (CV eT Z Z (a.I Z)) ?_;refine OW.val Z Z (EX.move Z) ?_;refine OW.val Z Z (LR eT Z Z X) ?_;refine OW.val Z Z (DU Z) ?_;refine OW.val Z Z (Dw (off:=0) iE Z Z Ii Z Z) ?_;refine Un Z Ii Z Z (by first|rfl|assumption|exact Bn.one Ck) (a) Bh ?_;rintro g f e;refine(O 6∘Bu) ?_;grind
 .refine KW.skip (El (KW.region ?_));refine OW.val Z Z (EX.move Z) ?_;refine OW.val Z Z (DU Z) ?_;refine OW.val Z Z (Dw (off:=0) iE Z Z Ii Z Z) ?_;refine OW.val Z Z (CV eT Z Z (a.I Z)) ?_;refine OW.val Z Z (EX.move Z) ?_;refine OW.val Z Z (Kf eT Z Z X) ?_;refine OW.val Z Z (HI Z) ?_;refine OW.nil ?_;refine El (KW.region ?_);refine OW.val Z Z (EX.move Z) ?_;refine OW.val Z Z (EX.move Z) ?_;refine OW.val Z Z (DU Z) ?_;refine OW.val Z Z (Dw (off:=0) iE Z Z Ii Z Z) ?_;refine OW.val Z Z (CV eT Z Z (a.I Z)) ?_;refine OW.val Z Z (EX.move Z) ?_;refine OW.val Z Z (LR eT Z Z X) ?_;refine OW.val Z Z (DU Z) ?_;refine OW.val Z Z (Dw (off:=0) iE Z Z Ii Z Z) ?_;refine Un Z Ii Z Z (by first|rfl|assumption|exact Bn.one Ck) (a) Bh ?_;rintro g f e;refine(O 6∘Bu) ?_;grind
def bZ(n:Y)(h:n<18446744073709551616):IntKind.i64.wrap (n:H)=if n<9223372036854775808 then(n:H)else(n:H)-18446744073709551616:=by
 have e:IntKind.i64.wrap (n:H)=if(n:H)%18446744073709551616≥9223372036854775808 then(n:H)%18446744073709551616-18446744073709551616 else(n:H)%18446744073709551616:=by
  unfold IntKind.wrap;simp[IntKind.bits,IntKind.signed]
 omega
def Ajr(s:Bg)(h:nb s<18446744073709551616):IntKind.i64.wrap (nb s:H)=HE s:=by rw[bZ _ h];rfl
def zU(n:Y)(h:n<18446744073709551616):(BitVec.ofInt 64 (IntKind.i64.wrap (n:H))).toNat=n:=by
 rw[bZ n h,BitVec.toNat_ofInt];omega
section
variable{P:AC}{n:Y}{U:BG}{w:Ad}{x y:AD}{t t' ty:Aw}
def qw{s p:Y}{c:H}{k k':AK}(hx:ev U x=J (.int k c))(hy:ev U y=J (.int k' (s:H)))(hp:2 ^ s=p)(hs:s<=k.bits):
 EX P n U (.binOp .shl t x y t') ty w (.int k (k.wrap (c*(p:H)))) w:=
 FP hx hy (by rfl) (by
  subst hp;have hn:¬(s:H)<0:=X;simp[binOp,Op.shift,hn,Hi hs])
def qu{a b:Y}{c:H}(hx:ev U x=J (Bb c))(hc:c=IntKind.i64.wrap ((a*256:Y):H))(hy:ev U y=J (Bb (b:H)))(hb:b<256)(ha:a<72057594037927936)(hor:a*256|||b=a*256+b):
 EX P n U (.binOp .or t x y t') ty w (Bb (IntKind.i64.wrap ((a*256+b:Y):H))) w:=
 Fv hx hy (by
  have e3:(binOp .or t (Bb c) (Bb (b:H))).run P w=.ok (Bb (IntKind.i64.wrap ((BitVec.ofInt 64 c|||BitVec.ofInt 64 (b:H)).toNat:H))) w:=rfl;have hf:(BitVec.ofInt 64 (b:H)).toNat=b:=lF (k:=.i64) (by simp only[_root_.Go.Proofs.YtkmlafmjaeeanaaGreatDoor.maxN];omega);rw[e3,BitVec.toNat_or,hc,zU _ X,hf,hor])
attribute [local irreducible] EX
end
def Aad(m b:Y)(h:b<256):m*256|||b=m*256+b:=by
 have:=Nat.two_pow_add_eq_or_of_lt (i:=8) h m;grind
def Jg(f n:Y)(s:Bg)(T:Aw)(w:Ad)(L:Bk w f T [str s])(Q:n<=8)(E:Alz s<=1000000000000):
 Bm eD 106 [.pointer (J ⟨f,0,Aa⟩),Bb (n:H)] w fun v w'=>v=Bb (HE (s.take n))/\Bk w' f T [str (s.drop n)]/\Mo w w' [f]:=by
 have h:Alz (s.take n)<=8:=by rw[BW];omega
 have e:nb (s.take n)<18446744073709551616:=Kq (SJ _ _ Z) (Gb Bc h);refine Bw func106 Z ntmps106 (by rfl) Z ?_;refine(O 15∘Zc (Re f n s T w L X E)) ?_;rintro _ C⟨rfl,r,l⟩;generalize N:s.take n=q at h e;refine OW.bytesOf Z Z eT im iB Z X ?_;rintro A D B m V G S g;refine(O 4)<|Lo (fun((i,z):Y×H)=>(i<=Alz q/\z=IntKind.i64.wrap ((nb (q.take i):Y):H),[(5,Bb (z:H)),(13,.slice (J ⟨C.heap.size,0,Aa⟩) (Alz q) A),(14,Bb ((Alz q:Y):H)),(15,Bb i)],B,Alz q-i)) (0,0) ?_ ?_
 .exact⟨X,by rfl⟩
 .rintro⟨i,z⟩⟨I,j⟩;refine(O 5)<|Zi (fun d=>?_) fun d=>?_
  .have k:nb (q.take i)<72057594037927936:=Kq (SJ i _ Bf) (Gb Bc (show i<=7 by omega));have K:=(q[i]).toNat_lt;obtain rfl:z=((nb (q.take i):Y):H):=by rw[j,bZ _ X,Aj X]
   have o:(BI q++D)[i]? =J (.int .u8 ((q[i].toNat:Y):H)):=by
    rw[FR (by simpa[BI]using d)];simp[BI,d]
   refine(O 6∘Zv (Bo m (hi:=o))∘O 4∘Zv (by exact qw (s:=8) (p:=256) Z Z Z Bc)∘O 2∘Zv (by exact qu (a:=nb (q.take i)) Z Bh Z X k (Aad _ _ X))∘O 7)<|Lb ((i+1),(IntKind.i64.wrap ((nb (q.take i)*256+q[i].toNat:Y):H))) ?_;exact⟨X,by rw[zk q d]⟩
  .obtain rfl:i=Alz q:=X;rw[DY]at j;refine(O 6∘Bu) ?_;refine⟨by rw[j,Ajr _ e],r.a g,l.trans (Mo.Akj g _)⟩
end
section
attribute [local irreducible] EX
open Rec
def QQ{w:Ad}{b k:Y}{T:Aw}(h:Bk w b T [.int .u8 (k:H)])(hk:k<=255):Sl w w.heap.size (J ⟨b,0,Aa⟩) (BI [BV k]):=by
 have e:BI [BV k]=[.int .u8 (k:H)]:=by
  have:(BV k).toNat=k:=Bv;simp[BI,this]
 rw[e];exact h.sl
def Acl(n:Y)(d:n<=1000)(w:Ad):Bm eD 138 [str [0],Bb (n:H)] w fun v w'=>v=str (BH n 0)/\Be w w':=by
 have a:(!(f138.name== "runtime.NumGoroutine") && f138.body.isSome)=Af:=Bi;have h:=nN ⟨#[0]⟩ n w X (by show 1*n<=_;omega)
 have e:Go.Lib.repeatL (⟨#[0]⟩:ByteArray).data.toList n=BH n 0:=by
  show Go.Lib.repeatL [0] n=_;clear h d
  induction n with
  |zero=>rfl
  |succ n ih=>rw[JC,<-ih];rfl
 rw[e]at h;exact Hj func138 a h
def tp(s:Bg):Ff s<4294967296:=bS _ _ _ Bh
def head(kind gen index:Y)(n:Y):Bg:=[75,73,83,84]++[BV kind]++be 8 gen++be 4 index++be 2 n
def xQ(d gen a n:Y):Alz (head d gen a n)=19:=by rfl
def US(d:Y)(hk:d<=255)(gen i:H)(a:Bg)(hd:Alz a<=140737488355328)(w:Ad):
 Bm eD 107 [.int .u8 (d:H),Bb gen,Bb i,str a] w fun v w'=>v=.tuple #[str (Fa d gen i a).1,Bb (((Fa d gen i a).2:Y):H)]/\Be w w':=by
 have B:bad d gen i a->Fa d gen i a=([],200):=fun h=>by unfold Fa;grind
 refine Bw func107 Z ntmps107 Bi Z ?_;refine(O 11)<|Zd 13 (fun S=>?_) fun S=>?_
 .refine(O 27∘BF) ?_;rw[B (.inl S)];exact⟨Z,Be.refl _⟩
 .refine(O 4)<|Zd 17 (fun Q=>?_) fun Q=>?_
  .refine(O 23∘BF) ?_;rw[B (.inr (.inl Q))];exact⟨Z,Be.refl _⟩
  .refine(O 4)<|Zd 21 (fun P=>?_) fun P=>?_
   .refine(O 19∘BF) ?_;rw[B (.inr (.inr (.inl P)))];exact⟨Z,Be.refl _⟩
   .refine(O 4)<|Zd 25 (fun N=>?_) fun N=>?_
    .refine(O 15∘BF) ?_;rw[B (.inr (.inr (.inr (.inl N))))];exact⟨Z,Be.refl _⟩
    .refine(O 4)<|Zd 29 (fun L=>?_) fun L=>?_
     .refine(O 11∘BF) ?_;rw[B (.inr (.inr (.inr (.inr (.inl L)))))];exact⟨Z,Be.refl _⟩
     .refine(O 5)<|Zi (fun K=>?_) fun K=>?_
      .refine(O 5∘BF) ?_;rw[B (.inr (.inr (.inr (.inr (.inr K)))))];exact⟨Z,Be.refl _⟩
      .refine(O 2) ?_;have e:Fa d gen i a=(text d gen.toNat i.toNat a,0):=by unfold Fa;rw[Ag];rintro(h|h|h|h|h|h)<;>omega
       rw[e];obtain⟨g,rfl⟩:=ES (show 0<=gen by omega);obtain⟨o,rfl⟩:=ES (show 0<=i by omega);have l8:=Eb 8 g;have l4:=Eb 4 o;have l2:=Eb 2 (Alz a);refine Lc (fun(wr:Ad)=>(Be w wr,[(3,str (a)),(10,str (head d g o (Alz a)))],wr)) ?_ ?_
       .skip
        refine(Yr 18 (fun w'=>Be w w') (Be.drew w)) fun f=>(Gv [0,4,5,8,9,12,13,14])<|Ye 1 6 ?_ ?_
        .refine JA 1 1 Z Z Z im CE Z Z Z Z Z Bc ?_;rintro t q r A l;refine⟨f.trans l,fun f=>?_⟩;refine JB (fun w'=>Be w w'/\Bk w' t 5 [.int .u8 (d:H)]) (fun _ h=>h.1) ?_;replace f:=(⟨f,A⟩:(fun w'=>Be w w'/\Bk w' t 5 [.int .u8 (d:H)]) q);refine(Yw 2 (he:=by exact fun _ m=>DR (QQ m.2 hk))∘Yw 3 (he:=by exact fun _ _=>Kd (s:=[75,73,83,84]) Z Z (by first|omega|(simp only[Bx,CF,ET,BW,CA,Cn];omega)))∘Yc 6 (HX g 8 X Bc q)) ?_;rintro _ C⟨rfl,x⟩;refine⟨⟨f.1.trans x,f.2.a x⟩,fun f=>?_⟩;refine(Gv [7]∘Yc 10 (HX o 4 X Bc C)) ?_;rintro _ p⟨rfl,k⟩;refine⟨⟨f.1.trans k,f.2.a k⟩,fun f=>?_⟩;refine(Gv [11]∘Yc 15 (HX (Alz a) 2 X Bc p)) ?_;rintro _ n⟨rfl,j⟩;refine⟨⟨f.1.trans j,f.2.a j⟩,fun f=>?_⟩;refine(Gv [16,17]∘Yd∘Lm n) ?_;exact f.1
        .refine(Jc 6 (HX g 8 X Bc w.drew)) ?_;rintro _ C⟨rfl,x⟩;refine⟨f.trans x,fun f=>?_⟩;refine Ye 1 10 ?_ ?_
         .refine JA 1 1 Z Z Z im CE Z Z Z Z Z Bc ?_;rintro t q r A l;refine⟨f.trans l,fun f=>?_⟩;refine JB (fun w'=>Be w w'/\Bk w' t 5 [.int .u8 (d:H)]) (fun _ h=>h.1) ?_;replace f:=(⟨f,A⟩:(fun w'=>Be w w'/\Bk w' t 5 [.int .u8 (d:H)]) q);refine(Yw 2 (he:=by exact fun _ m=>DR (QQ m.2 hk))∘Yw 3 (he:=by exact fun _ _=>Kd (s:=[75,73,83,84]) Z Z (by first|omega|(simp only[Bx,CF,ET,BW,CA,Cn];omega)))∘Gv [7]∘Yc 10 (HX o 4 X Bc q)) ?_;rintro _ p⟨rfl,k⟩;refine⟨⟨f.1.trans k,f.2.a k⟩,fun f=>?_⟩;refine(Gv [11]∘Yc 15 (HX (Alz a) 2 X Bc p)) ?_;rintro _ n⟨rfl,j⟩;refine⟨⟨f.1.trans j,f.2.a j⟩,fun f=>?_⟩;refine(Gv [16,17]∘Yd∘Lm n) ?_;exact f.1
         .refine(Jc 10 (HX o 4 X Bc C)) ?_;rintro _ p⟨rfl,k⟩;refine⟨f.trans k,fun f=>?_⟩;refine Ye 1 15 ?_ ?_
          .refine JA 1 1 Z Z Z im CE Z Z Z Z Z Bc ?_;rintro t q r A l;refine⟨f.trans l,fun f=>?_⟩;refine JB (fun w'=>Be w w'/\Bk w' t 5 [.int .u8 (d:H)]) (fun _ h=>h.1) ?_;replace f:=(⟨f,A⟩:(fun w'=>Be w w'/\Bk w' t 5 [.int .u8 (d:H)]) q);refine(Yw 2 (he:=by exact fun _ m=>DR (QQ m.2 hk))∘Yw 3 (he:=by exact fun _ _=>Kd (s:=[75,73,83,84]) Z Z (by first|omega|(simp only[Bx,CF,ET,BW,CA,Cn];omega)))∘Gv [7,11]∘Yc 15 (HX (Alz a) 2 X Bc q)) ?_;rintro _ n⟨rfl,j⟩;refine⟨⟨f.1.trans j,f.2.a j⟩,fun f=>?_⟩;refine(Gv [16,17]∘Yd∘Lm n) ?_;exact f.1
          .refine(Jc 15 (HX (Alz a) 2 X Bc p)) ?_;rintro _ n⟨rfl,j⟩;refine⟨f.trans j,fun f=>?_⟩;refine PP 1 1 Z Bi Z Z im CE Z Z Z Z Z Bc ?_;rintro t q r A l;refine⟨f.trans l,fun f=>?_⟩;refine JB (fun w'=>Be w w'/\Bk w' t 5 [.int .u8 (d:H)]) (fun _ h=>h.1) ?_;replace f:=(⟨f,A⟩:(fun w'=>Be w w'/\Bk w' t 5 [.int .u8 (d:H)]) q);refine(Yw 2 (he:=by exact fun _ m=>DR (QQ m.2 hk))∘Yw 3 (he:=by exact fun _ _=>Kd (s:=[75,73,83,84]) Z Z (by first|omega|(simp only[Bx,CF,ET,BW,CA,Cn];omega)))∘Gv [7,11,16,17]∘Yd∘Lm q) ?_;exact f.1
       .rintro wr D;have hh:=xQ d g o (Alz a);refine(O 7∘Zc (Acl (489-Alz a) X wr)) ?_;rintro _ V⟨rfl,I⟩;refine(O 8) ?_;have y:head d g o (Alz a)++(a++BH (489-Alz a) 0)=body d g o a:=rfl;rw[y];have ab:=eZ d g o a X;have W:=tp (body d g o a);have lc:=Eb 4 (Ff (body d g o a));refine(Zc (Zo (body d g o a) X V)) ?_;rintro _ T⟨rfl,G⟩;refine(O 1∘Zc (HX (Ff (body d g o a)) 4 X Bc T)) ?_;rintro _ w4⟨rfl,E⟩;refine(O 4∘BF) ?_;exact⟨Z,((D.trans I).trans G).trans E⟩
def _root_.Go.Proofs.YtkmlafmjaeeanaaGreatDoor.Rec.R.cells(x:R):Bl:=[.int .u8 (x.kind:H),Bb x.gen,Bb x.index,str x.data]
def Vq(s:Bg)(h:Alz s<=4):HE s=(nb s:H):=by
 have a:nb s<256 ^ 4:=Kq (SJ _ s Z) (Gb Bh h);unfold HE;omega
def gu{s:Bg}(h:¬(Alz s=512/\nb ((s.drop 17).take 2)<=486/\Fa (DH s).kind (DH s).gen (DH s).index (DH s).data=(s,0))):Cu s=(R0,200):=by
 unfold Cu;grind
def uJ{s:Bg}(h:Alz s=512/\nb ((s.drop 17).take 2)<=486/\Fa (DH s).kind (DH s).gen (DH s).index (DH s).data=(s,0)):Cu s=(DH s,0):=by
 unfold Cu;grind
def vh{k:Y}{g i:H}{d s:Bg}(h:Fa k g i d=(s,0)):s.take 4=[75,73,83,84]:=by
 unfold Fa at h;split at h
 .grind
 .simp only[Prod.mk.injEq,and_true]at h;rw[<-h];rfl
def gx(s:Bg)(w:Ad):
 Bm eD 77 [str s] w fun v w'=>v=.tuple #[.agg (Cu s).1.cells.toArray,Bb (((Cu s).2:Y):H)]/\Be w w':=by
 refine Bw func77 Z ntmps77 Bi Z ?_;refine(O 2∘Zn) ?_;rintro cb w1 bx bb aj;refine(O 9)<|Zi (fun a1=>?_) fun a1=>?_
 .have e:=gu (s:=s) (fun h=>a1 X);refine(O 3∘Zs bb) ?_;rintro w2 bn bf;refine(O 2∘Dx bn) ?_;rw[e];exact⟨Z,Bp aj bf aj.size (fun k p=>by simp at p;omega)⟩
 .have hl:Alz s=512:=X;refine(O 5∘Zv (by exact LO (pl:=[(0,1)]) (ks:=[0]) (zs:=[str []]) rt bN Bi Z Z Z)) ?_;refine Dq Z Z Z ?_;rintro T w3 bs a7 a6;refine(O 7) ?_;have ba:=bb.a a6;have x3:=aj.trans a6;have b0:w.heap.size<=T:=by have:=aj.size;omega
  refine(Zc (Re T 4 s _ w3 a7 X X)) ?_;rintro _ w4⟨rfl,N,a8⟩;refine(O 3) ?_;have a:=ba.j a8 (by simp;exact ba.ne a7 Bc);have x4:Be w w4:=Bp x3 a8 x3.size (fun k p=>by simp at p;omega);have k4:((s.drop 4).take 1)[0]? =J (s.getD 4 0):=by simp[TQ,List.getD,hl]
  have d5:(s.drop 4).drop 1=s.drop 5:=by rw[Gj]
  have a5:(s.drop 5).drop 8=s.drop 13:=by rw[Gj]
  have a0:(s.drop 13).drop 4=s.drop 17:=by rw[Gj]
  have bq:(s.drop 17).drop 2=s.drop 19:=by rw[Gj]
  have ln:∀j,Alz (s.drop j)<=1000000000000:=fun j=>by grind
  refine Lc (fun((K,wr):Y×Ad)=>(Be w wr/\w.heap.size<=K/\Bk wr T 194 [str (s.drop 17)]/\Bk wr cb 144 R0.cells/\Bk wr K 144 [.int .u8 (((s.getD 4 0).toNat:Y):H),Bb (HE ((s.drop 5).take 8)),Bb (HE ((s.drop 13).take 4)),str []]/\K≠cb,[(0,str (s)),(2,.pointer (J ⟨cb,0,Aa⟩)),(4,.pointer (J ⟨T,0,Aa⟩)),(5,str ((s.take 4))),(6,.pointer (J ⟨K,0,Aa⟩))],wr)) ?_ ?_
  .skip
   refine(Yr 12 (fun w'=>Be w w') (x4.trans (Be.drew w4))) fun f=>?_;have N:=N.a (Be.drew _);have a:=a.a (Be.drew _);refine(Gv [0,1,2,5,7])<|Ye 3 10 ?_ ?_
   .refine(Jc 3 (Re T 1 (s.drop 4) _ w4.drew N X (ln 4))) ?_;rintro _ w3⟨rfl,C,af⟩;have a:=a.j af (by simp;exact a.ne N Bc);refine⟨Bp f af f.size (fun k p=>by simp at p;omega),fun f=>?_⟩;rw[d5]at C;refine(Yw 4 (he:=by exact fun _ _=>FQ (i:=0) eT Z Z k4))<|Ye 6 10 ?_ ?_
    .refine(Jc 6 (Jg T 8 (s.drop 5) _ w3 C X (ln 5))) ?_;rintro _ w6⟨rfl,o,A⟩;have a:=a.j A (by simp;exact a.ne C Bc);refine⟨Bp f A f.size (fun k p=>by simp at p;omega),fun f=>?_⟩;rw[a5]at o;refine Ye 8 10 ?_ ?_
     .refine(Jc 8 (Jg T 4 (s.drop 13) _ w6 o X (ln 13))) ?_;rintro _ w8⟨rfl,m,x⟩;have a:=a.j x (by simp;exact a.ne o Bc);refine⟨Bp f x f.size (fun k p=>by simp at p;omega),fun f=>?_⟩;rw[a0]at m;refine(Gv [9]∘Yn 10) ?_;rintro K L W d g;have B:K≠cb:=fun q=>(by have:=a.lt;omega);have D:w.heap.size<=K:=(by have:=f.size;omega);refine⟨f.trans g,fun f=>?_⟩;have a:=a.a g;have m:=m.a g;refine(Ys 11 d) ?_;rintro S G l;refine⟨Bp f l f.size (fun k p=>by simp at p;omega),fun f=>?_⟩;have a:=a.j l (by simp;exact Ne.symm B);have E:=m.j l (by simp;exact m.ne d Bc);refine(Yd∘Lm (K,S)) ?_;exact⟨f,D,E,a,G,B⟩
     .refine(Jn 10) ?_;rintro K L W d g;have B:K≠cb:=fun q=>(by have:=a.lt;omega);have D:w.heap.size<=K:=(by have:=f.size;omega);refine⟨f.trans g,fun f=>?_⟩;have a:=a.a g;have o:=o.a g;refine(Yc 8 (Jg T 4 (s.drop 13) _ L o X (ln 13))) ?_;rintro _ w8⟨rfl,m,x⟩;have a:=a.j x (by simp;exact a.ne o Bc);have d:=d.j x (by simp;exact d.ne o Bc);refine⟨Bp f x f.size (fun k p=>by simp at p;omega),fun f=>?_⟩;rw[a0]at m;refine(Gv [9]∘Ys 11 d) ?_;rintro S G l;refine⟨Bp f l f.size (fun k p=>by simp at p;omega),fun f=>?_⟩;have a:=a.j l (by simp;exact Ne.symm B);have E:=m.j l (by simp;exact m.ne d Bc);refine(Yd∘Lm (K,S)) ?_;exact⟨f,D,E,a,G,B⟩
    .refine(Jn 10) ?_;rintro K L W d g;have B:K≠cb:=fun q=>(by have:=a.lt;omega);have D:w.heap.size<=K:=(by have:=f.size;omega);refine⟨f.trans g,fun f=>?_⟩;have a:=a.a g;have C:=C.a g;refine(Yc 6 (Jg T 8 (s.drop 5) _ L C X (ln 5))) ?_;rintro _ w6⟨rfl,o,A⟩;have a:=a.j A (by simp;exact a.ne C Bc);have d:=d.j A (by simp;exact d.ne C Bc);refine⟨Bp f A f.size (fun k p=>by simp at p;omega),fun f=>?_⟩;rw[a5]at o;refine(Yc 8 (Jg T 4 (s.drop 13) _ w6 o X (ln 13))) ?_;rintro _ w8⟨rfl,m,x⟩;have a:=a.j x (by simp;exact a.ne o Bc);have d:=d.j x (by simp;exact d.ne o Bc);refine⟨Bp f x f.size (fun k p=>by simp at p;omega),fun f=>?_⟩;rw[a0]at m;refine(Gv [9]∘Ys 11 d) ?_;rintro S G l;refine⟨Bp f l f.size (fun k p=>by simp at p;omega),fun f=>?_⟩;have a:=a.j l (by simp;exact Ne.symm B);have E:=m.j l (by simp;exact m.ne d Bc);refine(Yd∘Lm (K,S)) ?_;exact⟨f,D,E,a,G,B⟩
   .refine(Jn 10) ?_;rintro K L W d g;have B:K≠cb:=fun q=>(by have:=a.lt;omega);have D:w.heap.size<=K:=(by have:=f.size;omega);refine⟨f.trans g,fun f=>?_⟩;have a:=a.a g;have N:=N.a g;refine(Yc 3 (Re T 1 (s.drop 4) _ L N X (ln 4))) ?_;rintro _ w3⟨rfl,C,af⟩;have a:=a.j af (by simp;exact a.ne N Bc);have d:=d.j af (by simp;exact d.ne N Bc);refine⟨Bp f af f.size (fun k p=>by simp at p;omega),fun f=>?_⟩;rw[d5]at C;refine(Yw 4 (he:=by exact fun _ _=>FQ (i:=0) eT Z Z k4)∘Yc 6 (Jg T 8 (s.drop 5) _ w3 C X (ln 5))) ?_;rintro _ w6⟨rfl,o,A⟩;have a:=a.j A (by simp;exact a.ne C Bc);have d:=d.j A (by simp;exact d.ne C Bc);refine⟨Bp f A f.size (fun k p=>by simp at p;omega),fun f=>?_⟩;rw[a5]at o;refine(Yc 8 (Jg T 4 (s.drop 13) _ w6 o X (ln 13))) ?_;rintro _ w8⟨rfl,m,x⟩;have a:=a.j x (by simp;exact a.ne o Bc);have d:=d.j x (by simp;exact d.ne o Bc);refine⟨Bp f x f.size (fun k p=>by simp at p;omega),fun f=>?_⟩;rw[a0]at m;refine(Gv [9]∘Ys 11 d) ?_;rintro S G l;refine⟨Bp f l f.size (fun k p=>by simp at p;omega),fun f=>?_⟩;have a:=a.j l (by simp;exact Ne.symm B);have E:=m.j l (by simp;exact m.ne d Bc);refine(Yd∘Lm (K,S)) ?_;exact⟨f,D,E,a,G,B⟩
  .rintro⟨K,wr⟩⟨x5,D,a3,a9,bc,B⟩;have bd:HE ((s.drop 17).take 2)=((nb ((s.drop 17).take 2):Y):H):=Vq _ (by rw[BW];omega);have bh:=ln 19;refine(O 3∘Zc (Jg T 2 (s.drop 17) _ wr a3 X (ln 17))) ?_;rintro _ w6⟨rfl,al,A⟩;refine(O 4) ?_;rw[bq]at al;rw[bd];have ao:=a9.j A (by simp;exact a9.ne a3 Bc);have o:=bc.j A (by simp;exact bc.ne a3 Bc);have x6:Be w w6:=Bp x5 A x5.size (fun k p=>by simp at p;omega);generalize hn:nb ((s.drop 17).take 2)=n
   have y:¬(Alz s=512/\n<=486/\Fa (DH s).kind (DH s).gen (DH s).index (DH s).data=(s,0))->∀w7,Bk w7 cb 144 R0.cells->Be w w7->(Value.tuple #[.agg R0.cells.toArray,Bb ((200:Y):H)]=Value.tuple #[.agg (Cu s).1.cells.toArray,Bb (((Cu s).2:Y):H)]/\Be w w7):=fun h w7 _ hx=>by
    rw[gu Bf];grind
   have P:∀w7 w8,Be w w7->Mo w7 w8 [cb]->Be w w8:=fun w7 w8 h1 h2=>Bp h1 h2 h1.size (fun k p=>by simp at p;omega);refine(O 2∘Zv (by exact MV (r:=[75,73,83,84]) Z Z)∘O 1)<|Zd 36 (fun b1=>?_) fun b1=>?_
   .refine(O 8∘Zs ao) ?_;rintro w7 ab V;refine(O 2∘Dx ab) ?_;exact y (fun h=>b1 (vh h.2.2)) _ ab (P _ _ x6 V)
   .refine(O 4)<|Zi (fun b2=>?_) fun b2=>?_
    .refine(O 3∘Zs ao) ?_;rintro w7 ab V;refine(O 2∘Dx ab) ?_;exact y (fun h=>by omega) _ ab (P _ _ x6 V)
    .refine(O 7∘Zc (Re T n (s.drop 19) _ w6 al X (ln 19))) ?_;rintro _ w7⟨rfl,b3,V⟩;refine(O 1) ?_;have bl:=ao.j V (by simp;exact ao.ne al Bc);have ab:=o.j V (by simp;exact o.ne al Bc);have x7:Be w w7:=Bp x6 V x6.size (fun k p=>by simp at p;omega);refine(Zt ab) ?_;rintro w8 m x;refine(O 5) ?_;have bj:=bl.j x (by simp;exact Ne.symm B);have x8:Be w w8:=Bp x7 x x7.size (fun k p=>by simp at p;omega);have ai:DH s=⟨(s.getD 4 0).toNat,HE ((s.drop 5).take 8),HE ((s.drop 13).take 4),(s.drop 19).take n⟩:=by unfold DH;rw[hn]
     replace m:Bk w8 K 144 (DH s).cells:=by rw[ai];exact m
     refine(O 7) ?_;have p:(DH s).kind<=255:=by rw[ai];have:=(s.getD 4 0).toNat_lt;show(s.getD 4 0).toNat<=255;omega
     have bi:(DH s).data.length<=140737488355328:=by rw[ai];show Alz ((s.drop 19).take n)<=_;rw[BW];omega
     refine(Zc (US (DH s).kind p (DH s).gen (DH s).index (DH s).data bi w8)) ?_;rintro _ w9⟨rfl,a2⟩;refine(O 7) ?_;have a4:=bj.a a2;have bm:=m.a a2;have x9:=x8.trans a2;rcases he:Fa (DH s).kind (DH s).gen (DH s).index (DH s).data with⟨t,e⟩;rw[he]at y;refine(O 4)<|Zd 61 (fun g1=>?_) fun g1=>?_
     .refine(O 9∘Zs a4) ?_;rintro L I Q;refine(O 2∘Dx I) ?_;exact y (fun h=>by grind) _ I (P _ _ x9 Q)
     .refine(O 5)<|Zi (fun g2=>?_) fun g2=>?_
      .refine(O 3∘Zs a4) ?_;rintro L I Q;refine(O 2∘Dx I) ?_;exact y (fun h=>by grind) _ I (P _ _ x9 Q)
      .refine(O 3∘Zv (BX bm)∘Zs a4 (hlt:=Bq _)) ?_;rintro L I Q;refine(O 2∘Dx I) ?_;rw[uJ ⟨hl,X,Bf⟩];exact⟨Z,P _ _ x9 Q⟩
end

namespace Rec
open Go.Proofs.YtkmlafmjaeeanaaGreatDoor Pth
section
variable(k g i:Y)(d:Bg)
def tl(k g i:Y)(d:Bg):Bg:=BH (489-Alz d) 0++be 4 (Ff (body k g i d))
def Aig:text k g i d=[75,73,83,84]++([BV k]++(be 8 g++(be 4 i++(be 2 (Alz d)++(d++tl k g i d))))):=by
 unfold text tl;rw[show body k g i d=[75,73,83,84]++[BV k]++be 8 g++be 4 i++be 2 _++(d++BH _ 0)from Z];simp
def oQ:(text k g i d).drop 5=be 8 g++(be 4 i++(be 2 (Alz d)++(d++tl k g i d))):=by rw[Aig];rfl
def Np{a b:Bg}{s:Bg}{n m j:Y}(h:s.drop n=a++b)(f:Alz a=m)(e:n+m=j):s.drop j=b:=by
 rw[<-e,<-Gj,h,RN f]
def oO:(text k g i d).drop 13=be 4 i++(be 2 (Alz d)++(d++tl k g i d)):=Np (oQ k g i d) (Eb 8 g) Z
def oP:(text k g i d).drop 17=be 2 (Alz d)++(d++tl k g i d):=Np (oO k g i d) (Eb 4 i) Z
def Aif:(text k g i d).drop 19=d++tl k g i d:=Np (oP k g i d) (Eb 2 _) Z
def Aih:(text k g i d).getD 4 0=BV k:=by rfl
end
def ly{w n:Y}(h:n<256 ^ w)(h2:n<9223372036854775808):HE (be w n)=n:=by
 unfold HE;rw[Pb w n h,Aj h2]
def lp{k:Y}{g i:H}{d:Bg}(h:¬bad k g i d):k≠0/\0<=g/\g<=4611686018427387904/\0<=i/\i<=2147483647/\Alz d<=486:=by
 unfold bad at h;omega
def uw{k:Y}{g i:H}{d:Bg}(hk:k<=255)(h:¬bad k g i d):DH (text k g.toNat i.toNat d)=⟨k,g,i,d⟩/\nb (((text k g.toNat i.toNat d).drop 17).take 2)=Alz d:=by
 obtain⟨_,p,o,n,m,l⟩:=lp h;have j:((text k g.toNat i.toNat d).getD 4 0).toNat=k:=by rw[Aih];simp;omega
 have f:HE (((text k g.toNat i.toNat d).drop 5).take 8)=g:=by
  rw[oQ,Hy (Eb _ _),ly X X];omega
 have e:HE (((text k g.toNat i.toNat d).drop 13).take 4)=i:=by
  rw[oO,Hy (Eb _ _),ly X X];omega
 have a:nb (((text k g.toNat i.toNat d).drop 17).take 2)=Alz d:=by
  rw[oP,Hy (Eb _ _),Pb _ _ X]
 refine⟨?_,a⟩;unfold DH;rw[j,f,e,a,Aif,Hy Z]
def Nn{k:Y}{g i:H}{d t:Bg}(hk:k<=255)(h:Fa k g i d=(t,0)):Cu t=(⟨k,g,i,d⟩,0):=by
 unfold Fa at h;split at h
 .grind
 .rename_i a;simp at h;subst h;obtain⟨j,f⟩:=uw hk a;have e:=(lp a).2.2.2.2.2;unfold Cu;rw[j,f,Aj];refine⟨VY _ _ _ _ e,e,?_⟩;unfold Fa;grind
structure M where
 g:Bg
 start:H
 p:H
 size:H
 sum:Y
 deriving DecidableEq
def Ds(m:M):Prop:=Cw m.g=0/\30<=m.start/\1<=m.p/\m.p<=4096/\m.start+m.p<=4096/\0<=m.size/\m.size<=8192
instance(m:M):Decidable (Ds m):=by unfold Ds;infer_instance
def Mg(m:M):Y:=if Ds m then 0 else 200
def Ep(m:M):Bg:=be 1 (Alz m.g)++m.g++be 2 m.start.toNat++be 2 m.p.toNat++be 2 m.size.toNat++be 4 m.sum
def Ny(m:M):Bg×Y:=if Ds m then(Ep m,0)else([],200)
def JU{m:M}(h:Ds m):Alz m.g<=120/\m.g≠[]:=by
 have a:=h.1;unfold Cw at a;split at a
 .rename_i e;unfold GK at e;grind
 .omega
def sw(n:Y)(h:n<=255):be 1 n=[BV n]:=by
 simp only[be,EW];grind
end Rec
section
attribute [local irreducible] EX
open Rec Pth
def _root_.Go.Proofs.YtkmlafmjaeeanaaGreatDoor.Rec.M.cells(m:M):Bl:=[str m.g,Bb m.start,Bb m.p,Bb m.size,.int .u32 (m.sum:H)]
structure _root_.Go.Proofs.YtkmlafmjaeeanaaGreatDoor.Rec.M.q(m:M):Prop where
 g:Alz m.g<=1000000000000
 sum:m.sum<=4294967295
def Mh{m:M}(h:¬Ds m):Mg m=200:=by unfold Mg;grind
def XI{m:M}(h:Ds m):Mg m=0:=by unfold Mg;grind
def UE(s:Bg):Cw s=0∨Cw s=140:=by unfold Cw;grind
def XH(m:M)(hm:m.q)(w:Ad):Bm eD 81 [.agg m.cells.toArray] w fun v w'=>v=Bb ((Mg m:Y):H)/\Be w w':=by
 refine Bw Bh Z ntmps81 (by rfl) Z ?_;refine(O 2) ?_;refine Dq Z Z Z ?_;rintro E D o n d;refine(O 4) ?_;refine(O 3∘Zc (OA _ hm.g _)) ?_;rintro _ C⟨rfl,a⟩;refine(O 2) ?_;have p:=n.a a;refine Zd 7 (fun B=>?_) fun B=>?_
 .refine(O 38∘Bu) ?_;rw[Mh (fun h=>by obtain⟨l,k,j,i,g,f,e⟩:=h;omega)];exact⟨Z,d.trans a⟩
 .refine(O 5)<|Zd 12 (fun A=>?_) fun A=>?_
  .refine(O 33∘Bu) ?_;rw[Mh (fun h=>by obtain⟨l,k,j,i,g,f,e⟩:=h;omega)];exact⟨Z,d.trans a⟩
  .refine(O 5)<|Zd 17 (fun y=>?_) fun y=>?_
   .refine(O 28∘Bu) ?_;rw[Mh (fun h=>by obtain⟨l,k,j,i,g,f,e⟩:=h;omega)];exact⟨Z,d.trans a⟩
   .refine(O 5)<|Zd 22 (fun x=>?_) fun x=>?_
    .refine(O 23∘Bu) ?_;rw[Mh (fun h=>by obtain⟨l,k,j,i,g,f,e⟩:=h;omega)];exact⟨Z,d.trans a⟩
    .refine(O 8)<|Zd 30 (fun t=>?_) fun t=>?_
     .refine(O 15∘Bu) ?_;rw[Mh (fun h=>by obtain⟨l,k,j,i,g,f,e⟩:=h;omega)];exact⟨Z,d.trans a⟩
     .refine(O 5)<|Zd 35 (fun r=>?_) fun r=>?_
      .refine(O 10∘Bu) ?_;rw[Mh (fun h=>by obtain⟨l,k,j,i,g,f,e⟩:=h;omega)];exact⟨Z,d.trans a⟩
      .refine(O 5)<|Zi (fun q=>?_) fun q=>?_
       .refine(O 4∘Bu) ?_;rw[Mh (fun h=>by obtain⟨l,k,j,i,g,f,e⟩:=h;omega)];exact⟨Z,d.trans a⟩
       .refine(O 5∘Bu) ?_;rw[XI ⟨X,X,X,X,X,X,X⟩];exact⟨Z,d.trans a⟩
end
section
attribute [local irreducible] EX
open Fld Ust Pax Pth Tar
def Acj(n:Y):Go.Lib.repeatL [0] n=Cx n:=by
 unfold Cx
 induction n with
 |zero=>rfl
 |succ n ih=>simp_all[Go.Lib.repeatL,JC]
def Ack(n:Y)(d:n<=140737488355328)(w:Ad):Bm eD 138 [str [0],Bb (n:H)] w fun v w'=>v=str (Cx n)/\Be w w':=by
 have h:=nN ⟨#[0]⟩ n w X (by show 1*n<=_;omega);refine(Hj func138 (by rfl) (h.mono fun e w' q=>⟨q.1,q.2⟩)).mono ?_;rintro v w'⟨rfl,a⟩;exact⟨by rw[show(⟨#[0]⟩:ByteArray).data.toList=[0]from Z,Acj],a⟩
def nD(s:Bg)(f:Alz s<=1000000000)(w:Ad):Bm eD 101 [str s] w fun v w'=>v=str (Iy s)/\Be w w':=by
 refine Bw func101 Z ntmps101 (by rfl) Z ?_;refine(O 17) ?_;have d:Alz (Cx ((512-Alz s%512)%512))=(512-Alz s%512)%512:=Cn;refine(Zc (Ack ((512-Alz s%512)%512) X w)) ?_;rintro _ e⟨rfl,a⟩;refine(O 3∘Bu) ?_;refine⟨?_,a⟩;unfold Iy;rw[show GP (Alz s)-Alz s=(512-Alz s%512)%512 by unfold GP;omega]
def nW(x:En)(m:Alz x.g<=1000000000000)(y:Alz x.data<=140737488355328)(w:Ad)(A:Env w):
 Bm eD 72 [str x.g,str x.data] w fun v w'=>v=.tuple #[str (Hn x).1,Bb (((Hn x).2:Y):H)]/\Be w w':=by
 obtain⟨p,d⟩:=x;simp only at m y;show Bm _ _ [str p,str d] _ _;refine Bw func72 Z ntmps72 Bi Z ?_;refine(O 12)<|Zi (fun S=>?_) fun S=>?_
 .refine(O 5∘Zc (gM ⟨p,[]⟩ m Bh w A)) ?_;rintro _ i⟨rfl,a⟩;refine(O 11) ?_
  have q:(JQ ⟨p,[]⟩).2=Cw p:=by
   have:=UE p;unfold JQ;split
   .grind
   .grind
  have o:Hn ⟨p,d⟩=if Cw p≠0 then([],140)else([],3):=by
   unfold Hn;split
   .rfl
   .rfl
  rw[q,o];have B:=UE p;refine Zi (fun t=>?_) fun t=>?_
  .rw[Aj (show Cw p≠0 by omega)];refine(O 6∘BF) ?_;grind
  .rw[Ag (show ¬Cw p≠0 by omega)];refine(O 6∘BF) ?_;exact⟨Z,a⟩
 .have q:JQ ⟨p,d⟩=if Cw p≠0 then([],140)else(JR ⟨p,d⟩,0):=by
   unfold JQ;split
   .rfl
   .grind
  have o:Hn ⟨p,d⟩=if Cw p≠0 then([],140)else(BU ⟨p,d⟩,0):=by
   unfold Hn;split
   .rfl
   .rfl
  have e:=gM ⟨p,d⟩ m y w A;rw[q]at e;rw[o];refine(O 6) ?_;by_cases g:Cw p≠0
  .rw[Aj g]at e;rw[Aj g];refine(Zc e) ?_;rintro _ i⟨rfl,a⟩;refine(O 12∘EF 31∘O 7∘BF) ?_;exact⟨Z,a⟩
  .rw[Ag g]at e;rw[Ag g];simp only at e;have P:Fits ⟨p,d⟩:=⟨Bf,Bf⟩;have G:=Zf P;have f:=vr ⟨p,d⟩;have E:=ar (s:=d) X;have Q:BU ⟨p,d⟩=Lx ⟨p,d⟩++Iy (Bz.packS d (CY d)):=rfl;have N:=UV d;have K:=UV (Bz.packS d (CY d));have n:Alz (JR ⟨p,d⟩)=Alz (Lx ⟨p,d⟩)+Alz (Iy d):=by rw[f,Bx]
   have V:Alz (Lx ⟨p,d⟩)<=1536:=by split at G<;>omega
   have L:=SA (Alz d);have I:=SA (Alz (Bz.packS d (CY d)))
   have D:(JR ⟨p,d⟩).take (Alz (JR ⟨p,d⟩)-Alz (Iy d))=Lx ⟨p,d⟩:=by
    rw[n,RV,f];exact Hy Z
   refine(Zc e) ?_;rintro _ i⟨rfl,a⟩;refine(O 12∘Ci 31∘O 5∘Zc (Aan d X i)) ?_;rintro _ r⟨rfl,l⟩;refine(O 12∘Ci 39∘O 3∘Yr 13 (fun w'=>Be w w') ((a.trans l).trans (Be.drew r))) fun h=>(Gv [0,1,2,3,8]∘Yc 4 (nD d X r.drew)) ?_;rintro _ C⟨rfl,k⟩;refine⟨h.trans k,fun h=>?_⟩;refine(Gv [5,6]∘Yw 7 (he:=by exact fun _ _=>Kf eT Z Z X)∘Yc 9 (nD (Bz.packS d (CY d)) X C)) ?_;rintro _ T⟨rfl,j⟩;refine⟨h.trans j,fun h=>?_⟩;refine(Gv [10,11,12]∘Yd∘BF) ?_;grind
def Agp(s:Bg)(k:Y)(hk:k<=255)(hs:Alz s<=140737488355328)(w:Ad):Bm eD 90 [str s,.int .u8 (k:H)] w fun v w'=>v=.tuple #[.agg (DN s k).1.cells.toArray,.bool (DN s k).2]/\Be w w':=by
 refine Bw func90 Z ntmps90 Bi Z ?_;refine(O 2∘Zn) ?_;rintro W N D m a;refine(O 9)<|Zi (fun A=>?_) fun A=>?_
 .have e:DN s k=(HU,Ai):=Aj A;rw[e];refine(O 3∘Zs m (hlt:=Bq _)) ?_;rintro L t x;refine(O 2∘Dx t) ?_;exact⟨Z,Bp a x a.size Bv⟩
 .have e:DN s k=((GN (s.take 512)).1,decide ((GN (s.take 512)).2=0) && decide ((GN (s.take 512)).1.kind=k)):=Ag A;rw[e];refine(O 4∘Zv (by exact Kf (j:=512) eT Z Z X)∘Zc (Aiu (s.take 512) Bf N)) ?_;rintro _ L⟨rfl,i⟩;refine(O 3) ?_;generalize(GN (s.take 512)).1=h;generalize(GN (s.take 512)).2=e;refine(Zn) ?_;rintro G V C y g;refine(Zs y (hlt:=Bq _)) ?_;rintro q o n;refine(O 3) ?_;replace o:Bk q G 167 h.cells:=o;have T:=a.size;have S:=i.size;have Q:=g.size;have P:=n.size;have lt:=m.lt;have I:Be w q:=Bp ((a.trans i).trans g) n ((a.trans i).trans g).size Bv;have f:Be w q.drew:=I.trans (Be.drew q);have p:=(((m.a i).a g).j n Bv).drew;refine(Yr 11 (fun w'=>Bk w' G 167 h.cells) o.drew) fun r=>(Yw 0 (he:=by exact fun _ B=>BX B)∘Gv [1,2,3]) ?_;refine Kh 21 Z (fun E=>?_) (fun E=>?_)
  .refine(Gv [4,5,6,7,8]∘Ys 9 p (hlt:=Bq _)) ?_;rintro K l d;refine⟨r.j d Bv,fun r=>?_⟩;refine(Gv [10]∘Yd∘Dx l) ?_;refine⟨?_,Bp f d f.size Bv⟩;rw[AM (show e=0 by omega),Hu];rfl
  .refine(Gv [4,5,6,7,8]∘Ys 9 p (hlt:=Bq _)) ?_;rintro K l d;refine⟨r.j d Bv,fun r=>?_⟩;refine(Gv [10]∘Yd∘Dx l) ?_;refine⟨?_,Bp f d f.size Bv⟩;rw[AN (show ¬e=0 by omega),Bool.false_and];rfl
end
section
open Fld Ust Pax Pth Tar
def lA(s:Bg):(Fld.num s).1<=9007199254740992:=by
 unfold Fld.num;simp only;split
 .exact BC _
 .split
  .exact BC _
  .exact Nat.le_of_not_lt Ck
def Ss(s:Bg)(k n:Y):Alz (cut (sl s k n))<=n:=by
 have h:=(List.takeWhile_prefix (p:=(· !=(0:AI))) (l:=sl s k n)).length_le;unfold sl at h;rw[BW]at h;exact BA h (Nat.min_le_left _ _)
def jG(s:Bg)(k:Y):∃n:Y,(DN s k).1.size=(n:H)/\n<=9007199254740992/\(DN s k).1.g.length<=256:=by
 unfold DN;split
 .exact⟨0,Z,BC _,BC _⟩
 .unfold GN;split
  .refine⟨_,Z,lA _,?_⟩;show Alz (JW _)<=256;unfold JW;have d:=Ss (s.take 512) 345 155;have a:=Ss (s.take 512) 0 100;split
   .rw[Bx,Bx,CL];omega
   .omega
  .exact⟨0,Z,BC _,BC _⟩
def Ox(s:Bg):Av (Y×Bg):=
 if(DN s 120).2=Af then
  if 512<(DN s 120).1.size∨Alz s<1024∨(Alz s:H)-512<(DN s 120).1.size then Aa
  else if(Ex ((s.drop 512).take (DN s 120).1.size.toNat)).2≠0∨Alz (Ex ((s.drop 512).take (DN s 120).1.size.toNat)).1≠1 then Aa
  else J (1024,((Ex ((s.drop 512).take (DN s 120).1.size.toNat)).1.map Pr.val).headD [])
 else J (0,[])
noncomputable def QI(s p d:Bg):Av En:=if(Hn ⟨p,d⟩).2≠0∨(Hn ⟨p,d⟩).1.isPrefixOf s=Ai then Aa else J ⟨p,d⟩
noncomputable def Hq(s:Bg):Av En:=match Ox s with
 |none=>Aa
 |some (a,p)=>if(DN (s.drop a) 48).2=Ai then Aa
  else match Bz.takeS s (a+512)with
   |none=>Aa
   |some r=>QI s (if p=[]then(DN (s.drop a) 48).1.g else p) r.1
def vv{x:En}(hx:Fits x):(BU x=Dr (Dg x.g 48 (Alz x.data))++Iy (Bz.packS x.data (CY x.data))/\Tar.Good x.g 48 (Alz x.data))∨
 (BU x=GV IF 120 (DA ⟨ED,x.g⟩)++(Dr (Dg (x.g.take 100) 48 (Alz x.data))++Iy (Bz.packS x.data (CY x.data)))/\Tar.Good (x.g.take 100) 48 (Alz x.data)):=by
 have a:Alz x.data<=262144:=by have:=hx.data;omega
 unfold BU Lx;split
 .rename_i q;exact .inl ⟨Z,YW hx.g a q⟩
 .exact .inr ⟨by rw[Cq],YV hx.g a⟩
def mE{x:En}(hx:Fits x)(suf:Bg):Hq (BU x++suf)=J x:=by
 obtain⟨_,v,a,N⟩:=Qq hx.g;have w:=kC hx
 have k:(BU x).isPrefixOf (BU x++suf)=Af:=by
  rw[List.isPrefixOf_iff_prefix];exact List.prefix_append _ _
 have t:=mH a;have j:=lT a;obtain⟨q,hq⟩:∃q,q=Iy (Bz.packS x.data (CY x.data))++suf:=⟨_,Z⟩
 have d:∀(pre:Bg) (f p:Bg),BU x++suf=pre++(Dr (Dg f 48 (Alz x.data))++q)->Tar.Good f 48 (Alz x.data)->(if p=[]then f else p)=x.g->Ox (BU x++suf)=J (Alz pre,p)->Hq (BU x++suf)=J x:=fun pre f p e g E G=>by
  have y:(BU x++suf).drop (Alz pre)=Dr (Dg f 48 (Alz x.data))++q:=by rw[e];exact RN Z
  have l:DN ((BU x++suf).drop (Alz pre)) 48=(Dg f 48 (Alz x.data),Af):=by rw[y,Zg g];rfl
  have i:∃n,Bz.takeS (BU x++suf) (Alz pre+512)=J (x.data,n):=by
   have h:=Aia (pre:=pre++Dr (Dg f 48 (Alz x.data))) (suf:=Cx (GP (Alz (Bz.packS x.data (CY x.data)))-Alz (Bz.packS x.data (CY x.data)))++suf) (s:=x.data) hx.data
   have L:pre++Dr (Dg f 48 (Alz x.data))++Bz.packS x.data (CY x.data)++(Cx (GP (Alz (Bz.packS x.data (CY x.data)))-Alz (Bz.packS x.data (CY x.data)))++suf)=BU x++suf:=by
    rw[e,hq];unfold Iy;simp only[Cq]
   rw[L,Bx,g.len]at h;exact⟨_,h⟩
  obtain⟨n,i⟩:=i;unfold Hq;simp only[G,l,i];rw[Ag Bc];unfold QI;have K:(if p=[]then(Dg f 48 (Alz x.data)).g else p)=x.g:=E;rw[K];have I:Hn ⟨x.g,x.data⟩=(BU x,0):=w;rw[I,Ag (fun z=>z.elim (fun z=>z Z) fun z=>by rw[show(BU x,0).1.isPrefixOf (BU x++suf)=Af from k]at z;cases z)]
 rcases vv hx with⟨e,g⟩|⟨e,g⟩
 .refine d [] x.g [] ?_ g (Aj Z) ?_
  .rw[e,hq,Cq];rfl
  .have l:DN (BU x++suf) 120=(Dg x.g 48 (Alz x.data),Ai):=by
    rw[e,Cq,Zg g];rfl
   unfold Ox;rw[l];rfl
 .have o:BU x++suf=GV IF 120 (DA ⟨ED,x.g⟩)++(Dr (Dg (x.g.take 100) 48 (Alz x.data))++q):=by rw[e,hq];simp only[Cq]
  refine d _ _ x.g o g (Ag v) ?_;rw[j];obtain⟨R,hR⟩:∃R,R=DA ⟨ED,x.g⟩:=⟨_,Z⟩;rw[<-hR]at t j o;have B:Tar.Good IF 120 (Alz R):=YX X;have C:GV IF 120 R=Dr (Dg IF 120 (Alz R))++(R++Cx (GP (Alz R)-Alz R)):=by unfold GV;rw[Cq]
  have l:DN (BU x++suf) 120=(Dg IF 120 (Alz R),Af):=by
   rw[o,C,Cq,Zg B];rfl
  have A:((BU x++suf).drop 512).take (Alz R)=R:=by
   rw[o,C,Cq,RN B.len,Cq,Hy Z]
  have D:1024+512<=Alz (BU x++suf):=by
   rw[o,Bx,Bx,j,g.len];omega
  have m:Ex R=([⟨ED,x.g⟩],0):=by rw[hR];exact Aav a
  have r:(Dg IF 120 (Alz R)).size=(Alz R:H):=rfl;unfold Ox;rw[l];simp only[r,Oc,A,m];rw[Aj Ay,Ag X,Ag Bh];rfl
end
section
attribute [local irreducible] EX OR KR
open Bz
abbrev Mr(e:Y):Ah:=.iface 296 (.agg #[Bb (e:H)])
structure Hd4(w:Ad)(a1 a2 a3 a4:Y)(v1 v2 v3 v4:Ah):Prop where
 c1:Bk w a1 58 [v1]
 c2:Bk w a2 3 [v2]
 c3:Bk w a3 3 [v3]
 c4:Bk w a4 34 [v4]
def xL(m a1 a2 g j e:Y)(v1 v2 v3 v4:Ah)(S:a2≠g)(w:Ad)(h:Hd4 w a1 a2 g j v1 v2 v3 v4):CallsDIn Fence.wide m eD 195 #[.pointer (J ⟨a1,0,Aa⟩),.pointer (J ⟨a2,0,Aa⟩),.pointer (J ⟨g,0,Aa⟩),.pointer (J ⟨j,0,Aa⟩)] (.panicking [{ v:=Mr e,recovered:=Ai }]) w fun x u' w'=>x=.returned (.tuple #[])/\u'=.panicking [{ v:=Mr e,recovered:=Af }]/\Hd4 w' a1 a2 g j (.int .u32 ((0:Y):H)) (Bb ((0:Y):H)) (Bb ((0:Y):H)) (Bb (e:H))/\∃v,Be w v/\Mo v w' [a1,a2,g,j]:=by
 refine callsDIn_of_wpSIn func195 Z Ay fun W cs hu=>?_;have A:recoverD (W::cs)=J (Mr e,{ W with mode:=.panicking [{ v:=Mr e,recovered:=Af }] }::cs):=by simp[recoverD,hu]
 have V:Fr 20 (IY 0 [.pointer (J ⟨a1,0,Aa⟩),.pointer (J ⟨a2,0,Aa⟩),.pointer (J ⟨g,0,Aa⟩),.pointer (J ⟨j,0,Aa⟩)]) _:=Fr.start [_,_,_,_] 16;refine wpSIn_seq (wpSIn_region ?_);refine Ajh Z A ?_;refine Wh (V.put Z _) Z (HI Z) ?_;have f1:=(V.put (d:=7) Z (Mr e)).put (d:=4) Z (Mr e);refine qU f1<|(O 3∘Rv (by exact qm (fun d=>by simp[Op.equalIn,run_underlying mp,Sem.run_bind]) Z)∘O 5∘Rv (by exact pM mo Z Z)∘O 3∘Ra) ?_;rintro B w1 ab T Q;refine Xf Z oV Z Z Z (by first|rfl|(simp;repeat (first|assumption|exact Bn.one _|constructor))) (T) (Bq _) ?_;rintro w2 K I;refine(O 8) ?_;refine(O 2) ?_;have l1:=h.c1.lt;have l2:=h.c2.lt;have l3:=h.c3.lt;have l4:=h.c4.lt;have x2:Be w _:=Bp Q I Q.size Bf;have f:=x2.trans (Be.drew _);have E:=h.c1.a f;have P:=h.c2.a f;have L:=h.c3.a f;have D:=h.c4.a f;have C:B≠a1/\B≠a2/\B≠g/\B≠j:=X;have G:=E.ne P Bc;have p:=E.ne L Bc;have o:=E.ne D Bc;have n:=P.ne D Bc;have l:=L.ne D Bc;refine WH (N:=6) (fun w'=>Bk w' B 296 [Bb e]) Bi Z ?_;have i:=K.drew;refine(Gv [0,1]∘Yt 2 E (hlt:=Bq _)) ?_;rintro w3 k1 y;refine⟨i.j y (by simpa using C.1),fun i=>?_⟩;refine(Yt 3 (P.j y (by simpa using X)) (hlt:=Bq _)) ?_;rintro w4 k2 t;refine⟨i.j t (by simpa using C.2.1),fun i=>?_⟩;refine(Yt 4 ((L.j y (by simpa using p.symm)).j t (by simpa using S.symm)) (hlt:=Bq _)) ?_;rintro w5 k3 r;refine⟨i.j r (by simpa using C.2.2.1),fun i=>?_⟩;refine(Yt 5 (((D.j y (by simpa using o.symm)).j t (by simpa using n.symm)).j r (by simpa using l.symm)) (hlt:=Bq _)) ?_;rintro w6 k4 q;refine⟨i.j q (by simpa using C.2.2.2),fun i=>?_⟩;refine(Yd) ?_;refine KQ<|KR.done ?_;have sub:∀{b:Y},b∈[a1,a2,g,j]->∀k∈[b],k∈[a1,a2,g,j]:=fun T k hk=>by rwa[Cp.1 hk]
 exact fun a ha=>⟨ha.df,_,Z,.tuple #[],results_none (by rfl) _ _ _,Z,Z,⟨((k1.j t (by simpa using G)).j r (by simpa using p)).j q (by simpa using o),(k2.j r (by simpa using S)).j q (by simpa using n),k3.j q (by simpa using l),k4⟩,_,f,
  ((y.mono (sub Bh)).trans (t.mono (sub Bh))).trans ((r.mono (sub Bh)).trans (q.mono (sub Bh)))⟩
def Zl(d a D:Y)(s:Bg)(p n:Y)(j:n<=64)(i:p<=8*Alz s)(h:8*Alz s<p+n)(m:Alz s<=1000000000)(w:Ad)(o:Bk w d 253 [.pointer (J ⟨a,0,Aa⟩)])(g:RdAt w D a s p):
 Mqy eD 196 [Bb (n:H),.pointer (J ⟨d,0,Aa⟩)] w (fun _ _=>False) fun x w'=>x=Mr 10/\Tm w w' D Ia:=by
 have f:=LJ D _ s p n j i X w g;have e:HZ s p n=(0,10,p):=Aj h;rw[e]at f;refine Mqy.Aks 3 Bh Z ntmps196 Bi Z ?_;refine(O 8∘Rc f) ?_;rintro _ l⟨rfl,q,k⟩;refine(O 12) ?_;refine KR.as 13 (.bool Af) Z Bh<|(O 4∘Rv (by exact dm mo Z Z)) ?_;refine OR.panic Z Z ?_;exact lQ Z Z ⟨Z,k⟩
def zg(w:Ad):Mqy eD 197 [.bool Ai] w (fun _ _=>False) fun x w'=>x=Mr 120/\w'=w:=by
 refine Mqy.Aks 3 Bh Z ntmps197 Bi Z ?_;refine(O 8∘Rv (by exact dm mo Z Z)) ?_;refine OR.panic Z Z ?_;exact lQ Z Z ⟨Z,Z⟩
def Hd4.a{w w':Ad}{a1 a2 a3 a4:Y}{v1 v2 v3 v4:Ah}(h:Hd4 w a1 a2 a3 a4 v1 v2 v3 v4)(hx:Be w w'):Hd4 w' a1 a2 a3 a4 v1 v2 v3 v4:=⟨h.c1.a hx,h.c2.a hx,h.c3.a hx,h.c4.a hx⟩
def Hd4.tm{w w':Ad}{a1 a2 a3 a4 D:Y}{v1 v2 v3 v4:Ah}(h:Hd4 w a1 a2 a3 a4 v1 v2 v3 v4)(t:Tm w w' D Ia):Hd4 w' a1 a2 a3 a4 v1 v2 v3 v4:=⟨t.bk h.c1 Z,t.bk h.c2 Z,t.bk h.c3 Z,t.bk h.c4 Z⟩
def UZ{fn:Func}{R:RP}{n m:Y}{U:BG}{Q:Ah->Ad->Prop}{w W:Ad}{a1 a2 a3 a4 e:Y}{v1 v2 v3 v4:Ah}(hp:R.post=bodyPostM Fence.wide m eD fn (fun e w'=>∃v,e=.returned v/\Q v w'))(hds:R.ds=[{ target:=.fn (.func 195) #[.pointer (J ⟨a1,0,Aa⟩),.pointer (J ⟨a2,0,Aa⟩),.pointer (J ⟨a3,0,Aa⟩),.pointer (J ⟨a4,0,Aa⟩)],args:=#[] }])
 (hs:fn.results=#[.cell 4 58,.cell 5 3,.cell 6 3,.cell 7 34]) (s1:lk U 4=J (.pointer (J ⟨a1,0,Aa⟩))) (s2:lk U 5=J (.pointer (J ⟨a2,0,Aa⟩))) (s3:lk U 6=J (.pointer (J ⟨a3,0,Aa⟩))) (s4:lk U 7=J (.pointer (J ⟨a4,0,Aa⟩))) (hn:a2≠a3) (h:Hd4 W a1 a2 a3 a4 v1 v2 v3 v4) (hx:Be w W) (hge:w.heap.size<=a1/\w.heap.size<=a2/\w.heap.size<=a3/\w.heap.size<=a4)
 (hq:∀w',Be w w'->Q (.tuple #[.int .u32 ((0:Y):H),Bb ((0:Y):H),Bb ((0:Y):H),Bb (e:H)]) w'):∀a,FrD R n U a->R.post (.panic [{ v:=Mr e,recovered:=Ai }]) a W:=
 Aaq func195 Z hds hp (xL _ a1 a2 a3 a4 e v1 v2 v3 v4 hn W h) fun w'⟨k,v,xv,mv⟩a ha=>⟨_,nj hs iN Z io Z io Z iW Z s1 s2 s3 s4 k.c1 k.c2 k.c3 k.c4 a ha,hq w' (Bp (hx.trans xv) mv (hx.trans xv).size Bf)⟩
def xP(s:Bg)(p:Y)(hp:p+48<=8*Alz s)(K:Alz s<=1000000000)(h1:num (BT s p 48)=54156738319193)(w:Ad):
 Bm eD 159 [str s,Bb (p:H)] w fun v w'=>(∃a b c e:Y,v=.tuple #[.int .u32 (a:H),Bb (b:H),Bb (c:H),Bb (e:H)]/\(e=0/\(p+105<=8*Alz s/\Cj s (p+80)=Ai)/\a=num (BT s (p+48) 32)/\b=num (BT s (p+81) 24)/\c=p+105∨ER e/\¬(p+105<=8*Alz s/\Cj s (p+80)=Ai)))/\Be w w':=by
 have bad:∀e,ER e->¬(p+105<=8*Alz s/\Cj s (p+80)=Ai)->∀w',Be w w'->(∃a b c e':Y,Value.tuple _=.tuple #[.int .u32 a,Bb b,Bb c,Bb e']/\(e'=0/\(p+105<=8*Alz s/\Cj s (p+80)=Ai)/\a=num (BT s (p+48) 32)/\b=num (BT s (p+81) 24)/\c=p+105∨ER e'/\¬(p+105<=8*Alz s/\Cj s (p+80)=Ai)))/\Be w _:=fun e he hn w' hx=>⟨⟨0,0,0,e,Z,Bf⟩,hx⟩;have T:ER 10:=⟨Bc,Bc⟩;refine Bm.Aks 3 Bh Z ntmps159 Bi Z ?_;refine(O 2∘Rm) ?_;rintro a1 w1 ca bd bh;refine(Rm) ?_;rintro a2 w2 b9 bc al;refine(Rm) ?_;rintro a3 w3 b8 ba I;refine(Rm) ?_;rintro a4 G b7 b1 y;refine(O 3∘Rv (by exact FZ Z Z)) ?_;refine rp Z Z Z<|(O 5) ?_;have B:=((bh.trans al).trans I).trans y;have d4:Hd4 _ _ _ _ _ _ _ _ _:=⟨((bd.a al).a I).a y,(bc.a I).a y,ba.a y,b1⟩;have l1:=bd.lt;have l2:=bc.lt;have l3:=ba.lt;have A:w.heap.size<=a1/\w.heap.size<=a2/\w.heap.size<=a3/\w.heap.size<=a4:=X;have r:a2≠a3:=X;refine(Rc (Pc s p X X _)) ?_;rintro _ w5⟨C,rfl,L,bf⟩;refine(Rm) ?_;rintro V w6 b6 b0 aj;refine(Rt b0) ?_;rintro w7 a9 bm;refine(O 4) ?_;have af:Be _ _:=Bp aj bm aj.size Bv;have ai:=bf.trans af;have x7:=B.trans ai;have d7:=d4.a ai;have bl:=L.a af;refine(O 7∘Rv (by exact FZ Z Z)∘O 10∘Qh (Va _ _ _ s p 48 Bc X K _ a9 bl)) ?_;rintro _ w8⟨rfl,a5,t8⟩;refine(O 1) ?_;refine OR.as 23 (.bool Af) Z Bf<|(Qh (kX _)) ?_;rintro _ _⟨rfl,rfl⟩;refine(O 4) ?_;have x8:Be w w8:=t8.below x7 x7.size B.size;have d8:=d7.tm t8;have S:=t8.bk a9 Z;have cc:=Ky s (p+48) 32;rcases CM (8*Alz s) (p+48+32)with hq|hq
 .refine Um Z Z Z Z Z (Zl V C G.heap.size s (p+48) 32 Bc hp hq K w8 S a5) (fun x w'⟨ex,t⟩=>by(subst ex;exact UZ Z Z Z Z Z Z Z r (d8.tm t) (t.below x8 x8.size B.size) A (bad 10 T X))) (fun _ _ h=>h.elim)
 .refine(Qh (Va V C G.heap.size s (p+48) 32 Bc hq K w8 S a5)) ?_;rintro _ w9⟨rfl,bj,t9⟩;refine(O 1) ?_;have x9:Be w w9:=t9.below x8 x8.size B.size;have d9:=d8.tm t9;have a8:=t9.bk S Z;refine(Rt d9.c1) ?_;rintro wa b2 i;refine(O 5) ?_;have da:Hd4 wa a1 a2 a3 a4 _ _ _ _:=⟨b2,d9.c2.j i Bv,d9.c3.j i Bv,d9.c4.j i Bv⟩;have Q:=a8.j i (by simpa using a8.ne d9.c1 Bc);have a0:=bj.tm (Tm.set d9.c1 i (BC a1)) Z Z;have xa:Be w wa:=Bp x9 i x9.size Bv;have ce:BT s (p+48+32) 1=BT s (p+80) 1:=rfl;rcases CM (8*Alz s) (p+48+32+1)with hq2|hq2
  .refine Um Z Z Z Z Z (Zl V C G.heap.size s (p+48+32) 1 Bc hq hq2 K wa Q a0) (fun x w'⟨ex,t⟩=>by(subst ex;exact UZ Z Z Z Z Z Z Z r (da.tm t) (t.below xa xa.size B.size) A (bad 10 T X))) (fun _ _ h=>h.elim)
  .obtain⟨bb,o⟩:∃b,Cj s (p+80)=b:=⟨_,Z⟩
   have b5:num (BT s (p+48+32) 1)=bb.toNat:=by
    have:=SX (s:=s) (p:=p+48+32) X;rw[SV hq2]at this;injection this with this _;rw[this,<-o]
   refine(Qh (Va V C G.heap.size s (p+48+32) 1 Bc hq2 K wa Q a0)) ?_;rintro _ wb⟨rfl,ao,tb⟩;refine(O 1) ?_;have xb:Be w wb:=tb.below xa xa.size B.size;have db:=da.tm tb;have P:=tb.bk Q Z;rw[b5];rcases bb with _|_
   .refine OR.as 31 (.bool Af) Z (AF Value.bool (AM (Z)))<|(Qh (kX wb)) ?_;rintro _ _⟨rfl,rfl⟩;refine(O 4) ?_;have cd:=Ky s (p+48+32+1) 24;rcases CM (8*Alz s) (p+48+32+1+24)with hq3|hq3
    .refine Um Z Z Z Z Z (Zl V C G.heap.size s (p+48+32+1) 24 Bc hq2 hq3 K wb P ao) (fun x w'⟨ex,t⟩=>by(subst ex;exact UZ Z Z Z Z Z Z Z r (db.tm t) (t.below xb xb.size B.size) A (bad 10 T X))) (fun _ _ h=>h.elim)
    .refine(Qh (Va V C G.heap.size s (p+48+32+1) 24 Bc hq3 K wb P ao)) ?_;rintro _ wc⟨rfl,bi,tc⟩;refine(O 1) ?_;have xc:Be w wc:=tc.below xb xb.size B.size;have W:=db.tm tc;have a7:=tc.bk P Z;refine(Rt W.c2) ?_;rintro wd f g;refine(O 2) ?_;replace f:Bk wd a2 3 [Bb ((num (BT s (p+48+32+1) 24):Y):H)]:=f;have q:=W.c1.j g Bv;have n:=a7.j g (by simpa using a7.ne W.c2 Bc);have E:=W.c3.j g Bv;have D:=W.c4.j g Bv;have L:=bi.tm (Tm.set W.c2 g (BC a2)) Z Z;refine WH (N:=8) (fun w'=>Bk w' a1 58 [.int .u32 ((num (BT s (p+48) 32):Y):H)]/\Bk w' a2 3 [Bb ((num (BT s (p+48+32+1) 24):Y):H)]/\Bk w' V 253 [.pointer (J ⟨C,0,Aa⟩)]) Bi Z ?_;have d:=Il q.drew (Il f.drew n.drew);refine(Gv [0,1,2]∘Yc 3 (SU G.heap.size C s _ _ (L.a (Be.drew wd)))) ?_;rintro _ _⟨rfl,rfl⟩;refine⟨d,fun d=>?_⟩;refine(Yt 4 q.drew) ?_;rintro we bx m;refine⟨⟨bx,d.2.1.j m Bv,d.2.2.j m (by simpa using n.ne q Bc)⟩,fun d=>?_⟩;refine(Yt 5 d.2.1) ?_;rintro wf bs l;refine⟨⟨d.1.j l Bv,bs,d.2.2.j l (by simpa using n.ne f Bc)⟩,fun d=>?_⟩;have b4:=(E.drew.j m Bv).j l Bv;refine(Yt 6 b4) ?_;rintro wg bq k;refine⟨⟨d.1.j k Bv,d.2.1.j k Bv,d.2.2.j k (by simpa using n.ne E Bc)⟩,fun d=>?_⟩;have b3:=((D.drew.j m Bv).j l Bv).j k Bv;refine(Yt 7 b3) ?_;rintro wh bn j;refine⟨⟨d.1.j j Bv,d.2.1.j j Bv,d.2.2.j j (by simpa using n.ne D Bc)⟩,fun d=>?_⟩;refine(Yd) ?_;refine KQ ?_;have a6:=bq.j j Bv;refine IR<|Acr func195 Z (.inr Z) Z Z (fun a ha=>nj Z iN Z io Z io Z iW Z Z Z Z Z d.1 d.2.1 a6 bn a ha) (xK _ _ _ _ _ _) ?_;have xd:Be w wd:=Bp xc g xc.size Bv;have ab:=xd.trans (Be.drew wd);have xe:Be w we:=Bp ab m ab.size Bv;have xf:Be w wf:=Bp xe l xe.size Bv;have xg:Be w wg:=Bp xf k xf.size Bv;exact⟨⟨_,_,_,0,Z,.inl ⟨Z,⟨X,o⟩,Z,by rw[show p+48+32+1=p+81 by omega],X⟩⟩,Bp xg j xg.size Bv⟩
   .refine OR.as 31 (.bool Ai) Z (AF Value.bool (AN (Bc)))<|Um Z Z Z Z Z (zg wb) (fun x w'⟨ex,e⟩=>by(subst ex e;exact UZ Z Z Z Z Z Z Z r db xb A (bad 120 ⟨Bc,Bc⟩ (fun z=>by rw[o]at z;exact AH z.2 Bc)))) (fun _ _ h=>h.elim)
end
namespace Bz
def Yb:∀(l:By) (same:Y) (out:By),(dec same out l).2=0->Alz out<=Alz (dec same out l).1
 |[],same,out,h=>by
  rw[dec]at h ⊢;split
  .rename_i q;rw[Aj q]at h;cases h
  .exact Bq _
 |x::r,same,out,h=>by
  rw[dec]at h ⊢;split
  .rename_i q;rw[Aj q]at h;split
   .rename_i q2;rw[Aj q2]at h;cases h
   .rename_i q2;rw[Ag q2]at h;have:=Yb r _ _ h;rw[Bx]at this;omega
  .rename_i q;rw[Ag q]at h;split
   .rename_i q2;rw[Aj q2]at h;cases h
   .rename_i q2;rw[Ag q2]at h;have:=Yb r _ _ h;rw[Bx]at this;omega
def uI{l:By}(h0:l≠[])(h:(dec 0 [] l).2=0):1<=Alz (dec 0 [] l).1:=by
 cases l with
 |nil=>exact AH Z h0
 |cons x r=>
  rw[dec,Ag Bc,Ag Bh]at h ⊢;have:=Yb r _ _ h;rw[Bx,CL]at this;omega
def Ajb{u t:By}{l:Bj}{row most:Y}(h:IK u l row most=J t):1<=Alz t:=by
 unfold IK at h;split at h
 .cases h
 split at h
 .cases h
 split at h
 .rename_i q;split at h
  .rename_i a;injection h with h;rw[<-h];refine uI (fun e=>?_) a;have:=AF DQ e;unfold back at this;rw[Uy]at this;rw[ET]at this;omega
  .cases h
 .cases h
end Bz
section
attribute [local irreducible] EX
open Bz
def Aho{s:Bg}{p most:Y}(f:p+48<=8*Alz s)(h1:num (BT s p 48)=54156738319193):MM s p most=if p+105<=8*Alz s/\Cj s (p+80)=Ai then match KO s (p+105)with
 |none=>Aa
 |some (u,q)=>match MN s q (Alz u+2)with
  |none=>Aa
  |some (pl,q2)=>match HB pl.v s (Alz u+1) pl.C q2 []with
   |none=>Aa
   |some (l,q3)=>match IK u l (num (BT s (p+81) 24)) most with
    |none=>Aa
    |some t=>if Fe t=num (BT s (p+48) 32)then J (t,Fe t,q3)else Aa
 else Aa:=by
 unfold MM;rw[Ag X,Ag (fun z=>z h1)];by_cases e:p+105<=8*Alz s/\Cj s (p+80)=Ai
 .rw[Aj e,Ag X,Ag X,Ag (by rw[e.2];decide),Ag X];rfl
 .rw[Ag e];split
  .rfl
  split
  .rfl
  split
  .rfl
  split
  .rfl
  rename_i a b c d;exact AH ⟨X,by simpa using c⟩ e
def sS(s:Bg)(p most:Y)(hm:1<=most/\most<=262144)(hp:p+48<=8*Alz s)(I:Alz s<=1000000000)(h1:num (BT s p 48)=54156738319193)(w:Ad):
 Bm eD 118 [str s,Bb (p:H),Bb (most:H)] w fun v w'=>(∃t,∃c q e:Y,v=.tuple #[str t,.int .u32 (c:H),Bb (q:H),Bb (e:H)]/\((e=0/\MM s p most=J (t,c,q)/\c<4294967296/\q<=8*Alz s/\1<=Alz t/\Alz t<=262144)∨(ER e/\t=[]/\MM s p most=Aa)))/\Be w w':=by
 have g:=Aho (most:=most) hp h1;obtain⟨m1,m2⟩:=hm;refine Bw func118 Z ntmps118 Bi Z ?_;refine(O 13)<|Zd 19 (fun o=>?_) fun o=>?_
 .omega
 .refine(O 4∘Ci 22∘O 6∘Zc (xP s p hp I h1 w)) ?_;rintro _ Q⟨⟨a,b,c,e,rfl,hh⟩,k⟩;refine(O 16) ?_;rcases hh with⟨rfl,K,rfl,rfl,rfl⟩|⟨i,K⟩
  .rw[Aj K]at g;refine(Ci 32∘O 6) ?_
   have cs:Bm eD 160 [str s,Bb ((p+105:Y):H)] Q fun v w'=>(∃u,∃q e:Y,v=.tuple #[str u,Bb (q:H),Bb (e:H)]/\(e=0/\KO s (p+105)=J (u,q)∨ER e/\KO s (p+105)=Aa))/\Be Q w':=(Agy s (p+105) K.1 I Q).mono fun v w'⟨h,x⟩=>by
    refine⟨?_,x⟩;rcases h with⟨u,q,a,b⟩|⟨a,e,i,b⟩
    .exact⟨u,q,0,b,.inl ⟨Z,a⟩⟩
    .exact⟨[],0,e,b,.inr ⟨i,a⟩⟩
   refine(Zc cs) ?_;rintro _ w2⟨⟨u,q,e,rfl,hh⟩,B⟩;refine(O 14) ?_;rcases hh with⟨rfl,L⟩|⟨i,L⟩
   .simp only[L]at g;obtain⟨f1,f2,f3⟩:=Ahw L;refine(Ci 42∘O 9) ?_;have ai:1<=Alz u:=Oh.2 f1.1;refine(Zc (xG s q (Alz u+2) f3 ⟨X,X⟩ I w2)) ?_;rintro _ w3⟨⟨cs,T,e,rfl,d⟩,af⟩;refine(O 4) ?_
    have C:∃A1 W o A2 V N,cs=[.slice A1 W o,.slice A2 V N]:=by
     rcases d with⟨_,n,_,_,⟨A1,o,A2,N,vs,e,_⟩,_⟩|⟨_,_,e⟩
     .exact⟨_,_,_,_,_,_,e⟩
     .exact⟨_,_,_,_,_,_,e⟩
    obtain⟨A1,W,o,A2,V,N,rfl⟩:=C;refine(Zn) ?_;rintro pb w4 a5 a4 A;refine(Zs a4) ?_;rintro G l a2;refine(O 9) ?_;replace l:Bk G pb 260 [.slice A1 W o,.slice A2 V N]:=l;have j:Be w3 G:=Bp A a2 A.size Bv;have P:Be w G:=((k.trans B).trans af).trans j;rcases d with⟨rfl,n,e2,ok,a1,a0⟩|⟨i,e2,_⟩
    .simp only[e2]at g;refine(Ci 55∘O 4∘Zv (BX l)∘O 2∘Zc (get_s n (Alz u+2) ok _ _ s I T a0 G (a1.a j) j.size)) ?_;rintro _ w6⟨⟨lv,l',q4,e,rfl,ol,d⟩,y⟩;refine(O 14) ?_;rcases d with⟨rfl,m,a7,a3,ao⟩|⟨i,m⟩
     .have m:HB n.v s (Alz u+1) n.C T []=J (l',q4):=m;simp only[m]at g;obtain⟨Al,cl,rfl,_,S⟩:=ol.sl;have a6:=Ky s (p+81) 24;refine(Ci 66∘O 8∘Zc (Ajc u ⟨ai,f2⟩ f1 l' X (fun x hx=>by have:=a3 x hx;omega) (num (BT s (p+81) 24)) most X m2 Al cl _ w6 S)) ?_;rintro _ w7⟨⟨t,e,rfl,d⟩,ab⟩;refine(O 8) ?_;have x7:Be w w7:=(P.trans y).trans ab;rcases d with⟨rfl,E⟩|⟨i,E⟩
      .simp only[E]at g;have al:=Aiz E;have aj:=Ajb E;have cz:=Qp t;refine(O 4∘Zoa 78 (e:=Z)∘O 1∘Zc (UD t X w7)) ?_;rintro _ w8⟨rfl,r⟩;refine(O 4)<|Zi (fun f=>?_) fun f=>?_
       .rw[Ag f]at g;refine(O 9∘EF 85∘O 9) ?_;refine DC<|Pp Z Z Z Z Z ?_;exact⟨⟨[],0,0,121,Z,.inr ⟨⟨Bc,Bc⟩,Z,g⟩⟩,x7.trans r⟩
       .have f:Fe t=num (BT s (p+48) 32):=Dd.1 f;rw[Aj f,f]at g;refine(O 7∘Ci 85∘O 12) ?_;refine DC<|Pp Z Z Z Z Z ?_;exact⟨⟨t,_,q4,0,Z,.inl ⟨Z,g,X,ao,aj,al⟩⟩,x7.trans r⟩
      .simp only[E]at g;have D:e≠0:=by have:=i.1;omega
       refine(O 4∘Kw 78 (e:=D)∘O 14∘EF 85 (e:=D)∘O 9) ?_;refine DC<|Pp Z Z Z Z Z ?_;exact⟨⟨[],0,0,e,Z,.inr ⟨i,Z,g⟩⟩,x7⟩
     .have m:HB n.v s (Alz u+1) n.C T []=Aa:=m;simp only[m]at g;refine(EF 66 (e:=by have:=i.1;omega)∘O 9) ?_;refine DC<|Pp Z Z Z Z Z ?_;exact⟨⟨[],0,0,e,Z,.inr ⟨i,Z,g⟩⟩,P.trans y⟩
    .simp only[e2]at g;refine(EF 55 (e:=by have:=i.1;omega)∘O 9) ?_;refine DC<|Pp Z Z Z Z Z ?_;exact⟨⟨[],0,0,e,Z,.inr ⟨i,Z,g⟩⟩,P⟩
   .simp only[L]at g;refine(EF 42 (e:=by have:=i.1;omega)∘O 9) ?_;refine DC<|Pp Z Z Z Z Z ?_;exact⟨⟨[],0,0,e,Z,.inr ⟨i,Z,g⟩⟩,k.trans B⟩
  .rw[Ag K]at g;refine(EF 32 (e:=by have:=i.1;omega)∘O 9) ?_;refine DC<|Pp Z Z Z Z Z ?_;exact⟨⟨[],0,0,e,Z,.inr ⟨i,Z,g⟩⟩,k⟩
def nX(s:Bg)(p n:Y)(q:n<=64)(i:p<=8*Alz s)(A:Alz s<=1000000000)(w:Ad):
 Bm eD 117 [str s,Bb (p:H),Bb (n:H)] w fun v w'=>(∃x e:Y,v=.tuple #[.int .u64 (x:H),Bb (e:H)]/\(e=0/\p+n<=8*Alz s/\x=num (BT s p n)∨ER e/\8*Alz s<p+n))/\Be w w':=by
 obtain⟨l,r,y,f,g⟩:=LG s p n;refine Bw func117 Z ntmps117 Bi Z ?_;refine(O 9∘Zc (Pc s p i X w)) ?_;rintro _ k⟨o,rfl,d,a⟩;refine(O 6) ?_;have j:=LJ w.heap.size o s p n q i X k d;rw[f]at j;refine(Zc j) ?_;rintro _ t⟨rfl,_,m⟩;refine(O 5∘BF) ?_;refine⟨⟨l,r,Z,?_⟩,m.below a a.size (Bq _)⟩;rcases g with⟨h,_,rfl,_⟩|⟨h,rfl,rfl,_⟩
 .exact .inr ⟨⟨Bc,Bc⟩,h⟩
 .exact .inl ⟨Z,h,Z⟩
def OM(s:Bg)(p j:Y):Prop:=(j<3->s.getD (p+j) 0=([66,90,104]:Bg).getD j 0)/\(j=3->49<=(s.getD (p+j) 0).toNat/\(s.getD (p+j) 0).toNat<=57)
def jH{s:Bg}{p j:Y}(g:j<4)(h:¬(p+j<Alz s/\OM s p j)):Bz.headT s p=Aa:=by
 cases e:Bz.headT s p with
 |none=>rfl
 |some k=>
  exfalso;obtain⟨n,f,d,a,m,l,i⟩:=jI e;refine h ⟨X,fun q=>?_,fun q=>?_⟩
  .rcases(by omega:j=0∨j=1∨j=2)with rfl|rfl|rfl
   .exact f
   .exact d
   .exact a
  .subst q;omega
def xM{s:Bg}{p:Y}(h0:p+4<=Alz s)(h:∀j,j<4->OM s p j):Bz.headT s p=J ((s.getD (p+3) 0).toNat-48)/\49<=(s.getD (p+3) 0).toNat/\(s.getD (p+3) 0).toNat<=57:=by
 have a:=(h 3 Bc).2 Z;refine⟨?_,a⟩;unfold Bz.headT;exact Aj ⟨h0,(h 0 Bc).1 Bc,(h 1 Bc).1 Bc,(h 2 Bc).1 Bc,a⟩
def Aeu(s:Bg)(p:Y)(L:p<=Alz s)(K:Alz s<=1000000000)(w:Ad):
 Bm eD 116 [str s,Bb (p:H)] w fun v w'=>(∃k e:Y,v=.tuple #[Bb (k:H),Bb (e:H)]/\(e=0/\Bz.headT s p=J k∨ER e/\Bz.headT s p=Aa))/\w=w':=by
 refine Bw func116 Z ntmps116 Bi Z ?_;refine(O 11)<|Lo (fun(i:Y)=>((i<=4/\p+i<=Alz s/\∀j,j<i->OM s p j),[(0,str (s)),(1,Bb p),(8,Bb i)],w,4-i)) 0 ?_ ?_
 .exact⟨BC _,X,fun j o=>absurd o (Uj j)⟩
 .rintro i⟨N,g,t⟩;refine(O 5)<|Zi (fun n=>?_) fun n=>?_
  .refine(O 18)<|Zi (fun C=>?_) fun C=>?_
   .refine(O 5∘BF) ?_;exact⟨⟨0,10,Z,.inr ⟨⟨Bc,Bc⟩,jH n (fun z=>by omega)⟩⟩,Z⟩
   .have l:p+i<Alz s:=X;have a:=eI l;refine(O 15) ?_;generalize B:s[p+i]=c at a;have f:¬OM s p i->Bz.headT s p=Aa:=fun z=>jH n (fun y=>z y.2)
    have up:OM s p i->∀j,j<i+1->OM s p j:=fun z j o=>by
     rcases(by omega:j<i∨j=i)with q|rfl
     .exact t j q
     .exact z
    refine Zd 24 (fun d=>?_) fun d=>?_
    .have r:([66,90,104]:Bg)[i]=([66,90,104]:Bg).getD i 0:=by
      rw[Cd,BQ (by simpa using d)];rfl
     refine(O 2∘Zv (by exact FQ (s:=[66,90,104]) eT Z Z (BQ X))∘O 3)<|Zd 30 (fun A=>?_) fun A=>?_
     .refine(O 18∘BF) ?_;refine⟨⟨0,130,Z,.inr ⟨⟨Bc,Bc⟩,f fun z=>A ?_⟩⟩,Z⟩;rw[r,<-z.1 d,a]
     .have h:OM s p i:=⟨fun _=>by rw[a,<-r];exact Ku.1 X,fun q=>by omega⟩;refine(O 3∘Kw 33∘O 16)<|Lb (i+1) ?_;exact⟨X,X,up h⟩
    .obtain rfl:i=3:=X;refine(O 9∘Zoa 33 (e:=Z)∘O 3)<|Zd 36 (fun I=>?_) fun I=>?_
     .refine(O 12∘BF) ?_;exact⟨⟨0,130,Z,.inr ⟨⟨Bc,Bc⟩,f fun z=>by have:=(z.2 Z).1;rw[a]at this;omega⟩⟩,Z⟩
     .refine(O 6)<|Zi (fun G=>?_) fun G=>?_
      .refine(O 5∘BF) ?_;exact⟨⟨0,130,Z,.inr ⟨⟨Bc,Bc⟩,f fun z=>by have:=(z.2 Z).2;rw[a]at this;omega⟩⟩,Z⟩
      .refine(O 6)<|Lb 4 ?_;exact⟨X,X,up ⟨fun q=>absurd q d,fun _=>by rw[a];omega⟩⟩
  .obtain rfl:i=4:=X;obtain⟨x,E,D⟩:=xM g t;rw[eI X]at x E D;refine(O 7∘Zv (by exact Kg (b:=48) (m:=255) Z Z Z X)∘O 4∘BF) ?_;exact⟨⟨_,0,Z,.inl ⟨Z,x⟩⟩,Z⟩
def NP{s:Bg}{room g:Y}{out:Bg}{i:Bj}{r:Bg×Y}(h:∃f,IH s room f g out i=J r):g+48<=8*Alz s/\
 ((num (BT s g 48)=25779555029136/\g+80<=8*Alz s/\num (BT s (g+48) 32)=GL i/\r=(out,(g+87)/8))∨
  (num (BT s g 48)=54156738319193/\∃x,MM s g room=J x/\Alz out+Alz x.1<=262144/\∃f,IH s room f x.2.2 (out++x.1) (i++[x.2.1])=J r)):=by
 obtain⟨f,h⟩:=h;cases f with
 |zero=>rw[Ahr]at h;cases h
 |succ f=>
  obtain⟨a,b|⟨b,x,c,d,e⟩⟩:=Ahq h
  .exact⟨a,.inl b⟩
  .exact⟨a,.inr ⟨b,x,c,d,f,e⟩⟩
def Ahv(s:Bg)(p:Y)(hp:p<=Alz s)(hs:Alz s<=1000000000)(w:Ad):
 Bm eD 92 [str s,Bb (p:H)] w fun v w'=>(∃t,∃q e:Y,v=.tuple #[str t,Bb (q:H),Bb (e:H)]/\Alz t<=262144/\∀r,takeS s p=J r->e=0/\t=r.1)/\Be w w':=by
 have bad:∀e:Y,(∀r,takeS s p=J r->False)->∀w',Be w w'->(∃t,∃q e':Y,Value.tuple #[str [],Bb ((0:Y):H),Bb (e:H)]=.tuple #[str t,Bb (q:H),Bb (e':H)]/\Alz t<=262144/\∀r,takeS s p=J r->e'=0/\t=r.1)/\Be w w':=fun e h w' P=>⟨⟨[],0,e,Z,BC _,fun r d=>(h r d).elim⟩,P⟩;refine Bw func92 Z ntmps92 Bi Z ?_;refine(O 13)<|Zd 21 (fun c1=>?_) fun c1=>?_
 .omega
 .refine(O 6∘Ci 26∘O 6∘Zc (Aeu s p hp hs w)) ?_;rintro _ _⟨⟨k,e,rfl,E⟩,rfl⟩;refine(O 12) ?_;rcases E with⟨rfl,hk⟩|⟨m,hk⟩
  .obtain⟨h1,_,_,_,_,k1,k9⟩:=jI hk;have C:1<=min (k*100000) 262144/\min (k*100000) 262144<=262144:=X;have hS:takeS s p=IH s (min (k*100000) 262144) (8*Alz s+1) (8*(p+4)) [] []:=by unfold takeS;rw[hk]
   refine(Ci 34∘O 21)<|Lo (fun((i,g,a,vo,vs,wr):Y×(Bg)×(Bj)×Ah×Ah×Ad)=>((∀r,takeS s p=J r->∃f,IH s (min (k*100000) 262144) f i g a=J r)/\i<=8*Alz s/\Bn wr w.heap.size 5 1 vo (Alz g) (BI g)/\Bn wr w.heap.size 58 1 vs (Alz a) (BD .u32 a)/\(∀x∈a,x<4294967296)/\Alz a<=Alz g/\Alz g<=262144/\Be w wr,[(0,str (s)),(7,Bb k),(8,Bb ((0:Y):H)),(9,vo),(10,vs),(11,Bb i)],wr,262144-Alz g)) ((8*(p+4)),([]),([]),(.slice Aa 0 0),(.slice Aa 0 0),w) ?_ ?_
   .exact⟨fun r d=>⟨_,by rw[<-hS];exact d⟩,X,Bn.nil _ _ _ _,Bn.nil _ _ _ _,(fun x P=>by cases P),Bq _,Bh,Be.refl _⟩
   .rintro⟨i,g,a,vo,vs,wr⟩⟨n,W,ho,Q,D,a7,ao,P⟩;have a2:=Ky s i 48;refine(O 5∘Zc (nX s i 48 Bc W hs wr)) ?_;rintro _ I⟨⟨x,e,rfl,E⟩,l⟩;refine(O 12) ?_;have x1:=P.trans l;rcases E with⟨rfl,q1,rfl⟩|⟨m,q1⟩
    .refine(Ci 46∘O 12)<|Zi (fun e1=>?_) fun e1=>?_
     .obtain⟨As,cs,rfl,_,af⟩:=Q.slice;have ba:=UH a D;have a3:=Ky s (i+48) 32;refine(O 6∘Zc (nX s (i+48) 32 Bc X hs I)) ?_;rintro _ G⟨⟨y,e,rfl,E⟩,j⟩;refine(O 8) ?_;have A:=x1.trans j;rcases E with⟨rfl,q2,rfl⟩|⟨m,q2⟩
      .refine(O 4∘Zoa 93 (e:=Z)∘O 3∘Zc (ou a As cs D X G _ ((af.a l).a j))) ?_;rintro _ _⟨rfl,rfl⟩;refine(O 3)<|Zi (fun o=>?_) fun o=>?_
       .refine(O 9∘EF 101∘O 8∘Cy) ?_
        exact bad 121 (fun r d=>by
         obtain⟨_,⟨_,_,z,_⟩|⟨z,_⟩⟩:=NP (n r d)
         .exact o z
         .omega) G A
       .refine(O 7∘Ci 101∘O 5) ?_;obtain⟨Ao,co,rfl,_,K⟩:=ho.slice;refine(Zv (DR ((K.a l).a j))∘O 8∘Cy) ?_
        exact⟨⟨g,_,0,Z,ao,fun r d=>by
         obtain⟨_,⟨_,_,_,z⟩|⟨z,_⟩⟩:=NP (n r d)
         .exact⟨Z,by rw[z]⟩
         .omega⟩,A⟩
      .refine(O 4∘Kw 93 (e:=by have:=m.1;omega)∘O 15∘EF 101 (e:=by have:=m.1;omega)∘O 8∘Cy) ?_
       exact bad e (fun r d=>by
        obtain⟨_,⟨_,z,_⟩|⟨z,_⟩⟩:=NP (n r d)
        .omega
        .omega) G A
     .refine(O 5)<|Zi (fun e2=>?_) fun e2=>?_
      .refine(O 5∘Zc (mR k X I)) ?_;rintro _ _⟨rfl,rfl⟩;refine(Zc (sS s i (min (k*100000) 262144) C q1 hs e2 I)) ?_;rintro _ G⟨⟨t,c,q,e,rfl,E⟩,j⟩;refine(O 12) ?_;have A:=x1.trans j;have T:=(ho.a l).a j;have al:=(Q.a l).a j;obtain⟨Ao,co,rfl,a9,K⟩:=ho.slice;have a8:Alz (BI t)=Alz t:=by simp[BI]
       rcases E with⟨rfl,eb,V,hq,a6,a5⟩|⟨m,rfl,eb⟩
       .refine(O 4∘Zoa 65 (e:=Z)∘O 8)<|Zi (fun ab=>?_) fun ab=>?_
        .refine(O 9∘EF 74∘O 8∘Cy) ?_
         exact bad 3 (fun r d=>by
          obtain⟨_,⟨z,_⟩|⟨_,x,z,y,_⟩⟩:=NP (n r d)
          .omega
          .rw[eb]at z;cases z;have y:Alz g+Alz t<=262144:=y;omega) G A
        .refine(O 7∘Ci 74∘O 5) ?_;refine HM Z Z im CE Z Bc Z Z (A) (T) (Src.Aky eT t) CB X ?_;rintro v3 w3 N aj a1 a4;refine(O 2) ?_;have S:=Bn.apart al T Bc a1;refine(Hk aj S) ?_;rintro _ v4 w4 L ai a0 _;refine(O 7) ?_;have B:=Bn.apart N S Bc a0;refine Lb (q,(g++t),(a++[c]),v3,v4,w4) ?_ (hm:=by dsimp only;rw[Bx];omega);refine⟨fun r d=>?_,hq,?_,?_,fun y hy=>?_,by rw[Bx,Bx,CL];omega,by rw[Bx];omega,ai⟩
         .obtain⟨_,⟨z,_⟩|⟨_,x,z,_,y⟩⟩:=NP (n r d)
          .omega
          .rw[eb]at z;cases z;exact y
         .rw[Bx,XB];exact B
         .rw[Bx,<-KG];exact L
         .rcases CW.1 hy with z|z
          .exact D y z
          .rw[Cp.1 z];exact V
       .refine(O 4∘Kw 65 (e:=by have:=m.1;omega)∘O 16∘EF 74 (e:=by have:=m.1;omega)∘O 8∘Cy) ?_
        exact bad e (fun r d=>by
         obtain⟨_,⟨z,_⟩|⟨_,x,z,_⟩⟩:=NP (n r d)
         .omega
         .rw[eb]at z;cases z) G A
      .refine(O 6∘Cy) ?_
       exact bad 130 (fun r d=>by
        obtain⟨_,⟨z,_⟩|⟨z,_⟩⟩:=NP (n r d)
        .exact e1 z
        .exact e2 z) I x1
    .refine(EF 46 (e:=by have:=m.1;omega)∘O 8∘Cy) ?_
     exact bad e (fun r d=>by
      have:=(NP (n r d)).1;omega) I x1
  .refine(EF 34 (e:=by have:=m.1;omega)∘O 8∘Cy) ?_
   exact bad e (fun r d=>by
    unfold takeS at d;rw[hk]at d;cases d) w (Be.refl _)
end
namespace Pth
open Go.Lib
def bu:∀(k:Y) (s:Bg),count s [47]=k->splitK [47] 0 k s=BN s
 |0,s,hk=>by
  have hn:∀c∈s,c≠47:=by
   intro c p e;subst e;have o:=index_one s 47;rcases Int.lt_or_le (index s [47]) 0 with h|h
   .have:=index_ge s [47];have n:indexByte s 47=-1:=X;obtain⟨j,f⟩:=List.getElem?_of_mem p;exact indexByte_none n j f
   .obtain⟨i,g⟩:=ES h;have:=count_hit Bh g;omega
  rw[splitK,ax s hn]
 |k+1,s,hk=>by
  have t:¬index s _=-1:=fun h=>by rw[count_miss h]at hk;omega
  have v:=index_ge s [47];obtain⟨i,o⟩:=ES (show 0<=index s [47] by omega);have p:=count_hit Bh o;have w:indexByte s 47=i:=by rwa[<-index_one]
  obtain⟨n,x⟩:=indexByte_some w;have a:i<Alz s:=Bf
  have r:s=s.take i++47::s.drop (i+1):=by
   have e:=Hx i s;rw[DD a]at e
   have y:s[i]=47:=by
    have:=BQ a;rw[this]at n;grind
   rw[y]at e;exact e.symm
  have hn:∀c∈s.take i,c≠47:=by
   intro c l e;subst e;obtain⟨j,f⟩:=List.getElem?_of_mem l
   have d:j<i:=by
    have:=(Li.1 f).1;rw[BW]at this;omega
   rw[List.getElem?_take_of_lt d]at f;exact x j d f
  have m:¬(index s [47]==-1)=Af:=Bf;rw[splitK,Ag m,show(index s _).toNat=i by omega,JD];have q:=bu k (s.drop (i+1)) Bf;rw[show i+Alz [(47:AI)]=i+1 from Z,q]
  conv=>rhs;rw[r]
  rw[aw _ _ hn]
def DG:Cl->Cl->H
 |[],[]=>0
 |[],_::_=>-1
 |_::_,[]=>1
 |x::xs,y::ys=>if x=y then DG xs ys else compareBytes x y
def Gd(a b:Bg):H:=DG (BN a) (BN b)
def XE:∀x y:Bg,compareBytes x y=0↔x=y
 |[],[]=>by simp[compareBytes]
 |[],_::_=>by simp[compareBytes]
 |_::_,[]=>by simp[compareBytes]
 |a::x,b::y=>by
  have ih:=XE x y;unfold compareBytes;grind
def fj:∀x y:Bg,compareBytes x y=-1∨compareBytes x y=0∨compareBytes x y=1
 |[],[]=>by simp[compareBytes]
 |[],_::_=>by simp[compareBytes]
 |_::_,[]=>by simp[compareBytes]
 |a::x,b::y=>by
  unfold compareBytes;split
  .simp
  .split
   .simp
   .exact fj x y
def XF:∀x y:Bg,compareBytes y x=-compareBytes x y
 |[],[]=>by simp[compareBytes]
 |[],_::_=>by simp[compareBytes]
 |_::_,[]=>by simp[compareBytes]
 |a::x,b::y=>by
  have ih:=XF x y;unfold compareBytes;grind
def fh:∀x y z:Bg,compareBytes x y<=0->compareBytes y z<=0->compareBytes x z<=0
 |[],y,[],_,_=>by simp[compareBytes]
 |[],y,_::_,_,_=>by simp[compareBytes]
 |a::x,[],z,h,_=>by simp[compareBytes]at h
 |a::x,b::y,[],_,h=>by simp[compareBytes]at h
 |a::x,b::y,c::z,h1,h2=>by
  have ih:=fh x y z;unfold compareBytes at h1 h2 ⊢;grind
def fG:∀x y:Cl,DG x y=-1∨DG x y=0∨DG x y=1
 |[],[]=>by simp[DG]
 |[],_::_=>by simp[DG]
 |_::_,[]=>by simp[DG]
 |a::x,b::y=>by
  unfold DG;split
  .exact fG x y
  .exact fj a b
def fD:∀x y:Cl,DG x y=0↔x=y
 |[],[]=>by simp[DG]
 |[],_::_=>by simp[DG]
 |_::_,[]=>by simp[DG]
 |a::x,b::y=>by
  unfold DG;split
  .rename_i h;rw[fD];simp[h]
  .rename_i h;rw[XE];simp[h]
def fE:∀x y:Cl,DG y x=-DG x y
 |[],[]=>by simp[DG]
 |[],_::_=>by simp[DG]
 |_::_,[]=>by simp[DG]
 |a::x,b::y=>by
  unfold DG;by_cases h:a=b
  .rw[Aj h.symm,Aj h];exact fE x y
  .rw[Ag Bf,Ag h];exact XF a b
def fF:∀x y z:Cl,DG x y<=0->DG y z<=0->DG x z<=0
 |[],y,[],_,_=>by simp[DG]
 |[],y,_::_,_,_=>by simp[DG]
 |a::x,[],z,h,_=>by simp[DG]at h
 |a::x,b::y,[],_,h=>by simp[DG]at h
 |a::x,b::y,c::z,h1,h2=>by
  have ih:=fF x y z;unfold DG at h1 h2 ⊢;by_cases e1:a=b
  .grind
  .rw[Ag e1]at h1;by_cases e2:b=c
   .grind
   .rw[Ag e2]at h2;have h3:=fh a b c h1 h2;by_cases e3:a=c
    .subst e3;have h4:=XF a b;have h5:compareBytes a b=0:=X;exact AH ((XE a b).1 h5) e1
    .grind
def SE:Cl->Bg
 |[]=>[]
 |[x]=>x
 |x::y::l=>x++47::SE (y::l)
def YT:∀s,SE (BN s)=s
 |[]=>rfl
 |c::s=>by
  have ih:=YT s;rw[au];split
  .rename_i h;subst h;rcases hp:BN s with _|⟨p,r⟩
   .exact AH hp (Vv s)
   .rw[hp]at ih;simp[SE,ih]
  .rcases hp:BN s with _|⟨p,r⟩
   .exact AH hp (Vv s)
   .rw[hp]at ih;cases r with
    |nil=>simp[SE]at ih ⊢;exact ih
    |cons q r=>simp[SE]at ih ⊢;exact ih
def tJ(a b:Bg):Gd a b=0↔a=b:=by
 unfold Gd;rw[fD];constructor
 .intro h;rw[<-YT a,<-YT b,h]
 .grind
end Pth
namespace Srt
open Pth
abbrev By:=Bg
section
variable{α:Type}(key:α->By)
def Cg(a b:α):H:=Gd (key a) (key b)
def OC(a b:α):Cg key a b=-1∨Cg key a b=0∨Cg key a b=1:=fG _ _
def Mj(a b:α):Cg key b a=-Cg key a b:=fE _ _
def JK(a b:α):Cg key a b=0↔key a=key b:=tJ _ _
def XO{a b c:α}(h1:Cg key a b<=0)(h2:Cg key b c<=0):Cg key a c<=0:=fF _ _ _ h1 h2
def Sn{a b c:α}(h1:Cg key a b=-1)(h2:Cg key b c<=0):Cg key a c=-1:=by
 have g:=XO key (show Cg key a b<=0 by omega) h2;rcases OC key a c with h|h|h
 .omega
 .exfalso;have e:=(JK _ a c).1 h
  have f:Cg key b a<=0:=by
   have:Cg key b a=Cg key b c:=by unfold Cg;rw[e]
   omega
  have d:=Mj key a b;omega
 .omega
def fz{a b c:α}(h1:Cg key a b<=0)(h2:Cg key b c=-1):Cg key a c=-1:=by
 have g:=XO key h1 (show Cg key b c<=0 by omega);rcases OC key a c with h|h|h
 .omega
 .exfalso;have e:=(JK _ a c).1 h
  have f:Cg key c b<=0:=by
   have:Cg key c b=Cg key a b:=by unfold Cg;rw[e]
   omega
  have d:=Mj key b c;omega
 .omega
def De(l:Ae α):Prop:=l.Pairwise (fun a b=>Cg key a b=-1)
def aO:∀{a b:Ae α},De key a->De key b->(∀x,x∈a↔x∈b)->a=b
 |[],[],_,_,_=>rfl
 |[],y::b,_,_,h=>absurd ((h y).2 Bh) Bh
 |x::a,[],_,_,h=>absurd ((h x).1 Bh) Bh
 |x::a,y::b,ha,hb,h=>by
  have ha':=Iq.1 ha;have hb':=Iq.1 hb
  have irr:∀z,Cg key z z≠-1:=fun z q=>by
   have:=(JK key z z).2 Z;omega
  have d:x=y:=by
   rcases List.mem_cons.1 ((h x).1 Bh)with q|q
   .exact q
   .have g:=hb'.1 x q;rcases List.mem_cons.1 ((h y).2 Bh)with q2|q2
    .grind
    .have f:=ha'.1 y q2;have:=Mj key x y;omega
  subst d;have e:∀z,z∈a↔z∈b:=Bf;rw[aO ha'.2 hb'.2 e]
structure IsMap(m:By->Av α)(out:Ae α):Prop where
 P:De key out
 mem:∀x,x∈out↔m (key x)=J x
def IsMap.one{key:α->By}{m:By->Av α}{a b:Ae α}(h1:IsMap key m a)(h2:IsMap key m b):a=b:=aO key h1.P h2.P fun x=>(h1.mem x).trans (h2.mem x).symm
def Vn:By->Av α:=fun _=>Aa
def FO(m:By->Av α)(p:By)(v:Av α):By->Av α:=fun q=>if q=p then v else m q
def Cc(x:α):Ae α->Ae α
 |[]=>[x]
 |y::ys=>if Cg key x y=-1 then x::y::ys else if Cg key x y=0 then x::ys else y::Cc x ys
def Mv(x:α):∀{ys:Ae α},De key ys->∀z,z∈Cc key x ys↔z=x∨(z∈ys/\key z≠key x)
 |[],_,z=>by simp[Cc]
 |y::ys,h,z=>by
  have h':=Iq.1 h;have ih:=Mv x h'.2 z;unfold Cc;by_cases c1:Cg key x y=-1
  .have hne:∀u∈y::ys,key u≠key x:=fun u a e=>by
    have g:Cg key x u=-1:=by
     rcases List.mem_cons.1 a with rfl|a
     .omega
     .exact Sn _ c1 Bf
    have f:=(JK _ x u).2 e.symm;omega
   grind
  .rw[Ag c1];by_cases d:Cg key x y=0
   .have j:=(JK _ x y).1 d
    have hne:∀u∈ys,key u≠key x:=fun u a e=>by
     have g:=h'.1 u a;have f:=(JK key y u).2 Bf;omega
    grind
   .rw[Ag d];simp only[List.mem_cons,ih];constructor
    .rintro(q|q|⟨q,i⟩)
     .subst q;exact .inr ⟨Bh,fun e=>d ((JK _ x z).2 e.symm)⟩
     .exact .inl q
     .grind
    .grind
def MI(x:α):∀{ys:Ae α},De key ys->De key (Cc key x ys)
 |[],_=>by simp[Cc,De]
 |y::ys,h=>by
  have h':=Iq.1 h;have ih:=MI x h'.2;unfold Cc;by_cases c1:Cg key x y=-1
  .rw[Aj c1];refine Iq.2 ⟨fun u hu=>?_,h⟩;rcases List.mem_cons.1 hu with rfl|hu
   .omega
   .exact Sn _ c1 Bf
  .rw[Ag c1];by_cases c2:Cg key x y=0
   .rw[Aj c2];refine Iq.2 ⟨fun u hu=>?_,h'.2⟩;exact fz _ X (h'.1 u hu)
   .rw[Ag c2];refine Iq.2 ⟨fun u hu=>?_,ih⟩;rcases(Mv key x h'.2 u).1 hu with q|⟨q,_⟩
    .subst q;have h1:=Mj key u y;have h2:=OC key u y;omega
    .grind
def IsMap.put{m:By->Av α}{a:Ae α}(h:IsMap key m a)(x:α):IsMap key (FO m (key x) (J x)) (Cc key x a):=by
 refine⟨MI _ x h.P,fun z=>?_⟩;rw[Mv _ x h.P z];unfold FO;by_cases e:key z=key x
 .grind
 .rw[Ag e,<-h.mem];grind
def IsMap.del{m:By->Av α}{a:Ae α}(h:IsMap key m a)(p:By):IsMap key (FO m p Aa) (a.filter fun y=>decide (key y≠p)):=by
 refine⟨HK.filter _ h.P,fun z=>?_⟩;rw[Km,h.mem,decide_eq_true_eq];unfold FO;grind
def Jr(x:α)(s:Ae α×Ar)(y:α):Ae α×Ar:=
 let n:=if Cg key x y<=0/\s.2=Ai then s.1++[x]else s.1
 (if Cg key x y≠0 then n++[y]else n,s.2||decide (Cg key x y<=0))
def SB(x:α)(r:Ae α×Ar):Ae α:=if r.2=Af then r.1 else r.1++[x]
def insF(x:α)(l:Ae α):Ae α:=SB x (l.foldl (Jr key x) ([],Ai))
def YP(x:α):∀(ys out:Ae α),(∀y∈ys,Cg key x y≠0)->ys.foldl (Jr key x) (out,Af)=(out++ys,Af)
 |[],out,_=>by simp
 |y::ys,out,h=>by
  have h1:=h y Bh;rw[Lf];have e:Jr key x (out,Af) y=(out++[y],Af):=by simp[Jr,h1]
  rw[e,YP x _ _ Bf];simp
def jk(x:α):∀(ys out:Ae α),De key ys->SB x (ys.foldl (Jr key x) (out,Ai))=out++Cc key x ys
 |[],out,_=>by rfl
 |y::ys,out,h=>by
  have h':=Iq.1 h;rw[Lf];unfold Cc;by_cases c1:Cg key x y=-1
  .have e:Jr key x (out,Ai) y=(out++[x]++[y],Af):=by simp[Jr,c1]
   rw[Aj c1,e,YP key x ys _ (fun z d=>by have:=Sn key c1 (show Cg key y z<=0 by grind);omega)];simp[SB]
  .rw[Ag c1];by_cases a:Cg key x y=0
   .have e:Jr key x (out,Ai) y=(out++[x],Af):=by simp[Jr,a]
    rw[Aj a,e,YP key x ys _ (fun z d=>by have:=fz key (show Cg key x y<=0 by omega) (h'.1 z d);omega)];simp[SB]
   .have g:=OC key x y
    have e:Jr key x (out,Ai) y=(out++[y],Ai):=by
     have f:¬Cg key x y<=0:=X;simp[Jr,f,a]
    rw[Ag a,e];rw[jk x _ _ h'.2];simp
def xZ{x:α}{a:Ae α}(h:De key a):insF key x a=Cc key x a:=by
 have:=jk _ x _ [] h;assumption
def LA(l:Ae α):By->Av α:=l.foldl (fun m x=>FO m (key x) (J x)) Vn
def yx(l:Ae α)(x:α):LA key (l++[x])=FO (LA key l) (key x) (J x):=by simp[LA]
def ke{l:Ae α}{p:By}{z:α}(h:LA key l p=J z):key z=p:=by
 have a:∀(l:Ae _) (m:By->Av _),(∀p z,m p=J z->key z=p)->∀p z,(l.foldl (fun m x=>FO m (key x) (J x)) m) p=J z->key z=p:=by
  intro l
  induction l with
  |nil=>simp
  |cons x l ih=>
   intro m h;refine ih _ fun q y d=>?_;simp only[FO]at d;grind
 exact a l _ (fun p z q=>by cases q) p z h
def Zy{l:Ae α}{p:By}{z:α}(h:LA key l p=J z):z∈l:=by
 have a:∀(l:Ae _) (m:By->Av _),∀p z,(l.foldl (fun m x=>FO m (key x) (J x)) m) p=J z->z∈l∨m p=J z:=by
  intro l
  induction l with
  |nil=>simp
  |cons x l ih=>
   intro m p z h;rcases ih _ p z h with q|q
   .grind
   .simp[FO]at q;grind
 rcases a l _ p z h with q|q
 .omega
 .cases q
def yw{l:Ae α}{p:By}:LA key l p=Aa↔∀x∈l,key x≠p:=by
 have a:∀(l:Ae _) (m:By->Av _),∀p,(l.foldl (fun m x=>FO m (key x) (J x)) m) p=Aa↔(∀x∈l,key x≠p)/\m p=Aa:=by
  intro l
  induction l with
  |nil=>simp
  |cons x l ih=>
   intro m p;rw[Lf,ih];unfold FO;grind
 exact(a l Vn p).trans ⟨fun h=>h.1,fun h=>⟨h,Z⟩⟩
def jT{l:Ae α}(h:De key l):IsMap key (LA key l) l:=by
 refine⟨h,fun x=>?_⟩
 have r:∀a∈l,∀b∈l,key a=key b->a=b:=by
  intro a n b m e;obtain⟨i,k,rfl⟩:=Hw.1 n;obtain⟨j,g,rfl⟩:=Hw.1 m;have f:=Ir.1 h;have t:=(JK _ _ _).2 e;rcases Ui i j with q|q|q
  .grind
  .grind
  .have p:=f j i g k q;have o:=Mj key l[i] l[j];omega
 constructor
 .intro d;cases hz:LA _ l _ with
  |none=>exact AH Z ((yw _).1 hz x d)
  |some z=>
   have p:=ke _ hz;have o:=Zy _ hz;grind
 .exact fun d=>Zy _ d
def Acy{l:Ae α}(d:∀i j (hi:i<Alz l) (hj:j<Alz l),i<j->¬Cg key l[j] l[i]<0)(f:(l.map key).Nodup):De key l:=by
 unfold De;rw[Ir];intro i j hi hj a;have o:=d i j hi hj a;have n:=Mj key l[i] l[j];have m:=OC key l[i] l[j]
 have k:Cg _ _ _≠0:=fun e=>by
  have h:=(JK _ _ _).1 e;have g:(l.map key)[i]'Bf=(l.map key)[j]'Bf:=by simpa using h
  have:=(MZ f).1 g;omega
 omega
def swo:Go.Sort.SWO (fun a b:α=>decide (Cg key a b<0)) where
 irrefl x:=by
  have:=(JK key x x).2 Z;grind
 trans x y z h1 h2:=by
  simp at*;have:=Sn key (show Cg key x y=-1 by have:=OC key x y;omega) (show Cg key y z<=0 by omega);omega
 ntrans x y z h1 h2:=by
  simp only[decide_eq_false_iff_not]at*;have f:=Mj key x y;have e:=Mj key y z;have d:=Mj key x z;have:=XO key (show Cg key z y<=0 by omega) (show Cg key y x<=0 by omega);omega
end
end Srt
section
attribute [local irreducible] EX
open Rec Pth
def kN{m:M}(h:¬Ds m):Ny m=([],200):=by unfold Ny;grind
def kO{m:M}(h:Ds m):Ny m=(Ep m,0):=by unfold Ny;grind
def kR(m:M)(hm:m.q)(w:Ad):Bm eD 110 [.agg m.cells.toArray] w fun v w'=>v=.tuple #[str (Ny m).1,Bb (((Ny m).2:Y):H)]/\Be w w':=by
 refine Bw Bh Z ntmps110 Bi Z ?_;refine(O 2) ?_;refine Dq Z Z Z ?_;rintro Q W L d D;refine(O 6) ?_;replace d:=d;refine(Zv (BX d)∘Zc (XH m hm _)) ?_;rintro _ I⟨rfl,p⟩;refine(O 7) ?_;have q:=d.a p;have N:=D.trans p;by_cases h:Ds m
 .rw[XI h];refine Zi (fun G=>?_) fun G=>?_
  .omega
  .obtain⟨S,_⟩:=JU h;have T:=h;obtain⟨_,h2,h3,h4,h5,h6,h7⟩:=h;obtain⟨l,t⟩:=ES (show 0<=m.start by omega);obtain⟨n,x⟩:=ES (show 0<=m.p by omega);obtain⟨k,r⟩:=ES (show 0<=m.size by omega);have K:=hm.sum;have e:m.cells=[str m.g,Bb (l:H),Bb (n:H),Bb (k:H),.int .u32 (m.sum:H)]:=by unfold M.cells;rw[t,x,r]
   have E:Ep m=be 1 (Alz m.g)++m.g++be 2 l++be 2 n++be 2 k++be 4 m.sum:=by unfold Ep;rw[t,x,r];rfl
   rw[e]at q;have l1:=Eb 1 (Alz m.g);have l2:=Eb 2 l;have l3:=Eb 2 n;have l4:=Eb 2 k;have l5:=Eb 4 m.sum;rw[kO T,E];refine(O 2)<|Lc (fun(wr:Ad)=>(Be w wr,[(2,str (be 1 (Alz m.g)++m.g++be 2 l++be 2 n++be 2 k++be 4 m.sum)),(3,Bb ((0:Y):H))],wr)) ?_ ?_
   .skip
    refine(Yr 30 (fun w'=>Be w w'/\Bk w' Q 60 [str m.g,Bb (l:H),Bb (n:H),Bb (k:H),.int .u32 (m.sum:H)]) ⟨N.trans (Be.drew I),q.drew⟩) fun a=>(Gv [0,1,2,3,5,6,8,9,10,13,14,15,18,19,20,23,24,25]∘Yc 4 (HX (Alz m.g) 1 X Bc I.drew)) ?_;rintro _ P⟨rfl,o⟩;refine⟨⟨a.1.trans o,a.2.a o⟩,fun a=>?_⟩;refine(Gv [7]∘Yc 11 (HX l 2 X Bc P)) ?_;rintro _ C⟨rfl,j⟩;refine⟨⟨a.1.trans j,a.2.a j⟩,fun a=>?_⟩;refine(Gv [12]∘Yc 16 (HX n 2 X Bc C)) ?_;rintro _ B⟨rfl,i⟩;refine⟨⟨a.1.trans i,a.2.a i⟩,fun a=>?_⟩;refine(Gv [17]∘Yc 21 (HX k 2 X Bc B)) ?_;rintro _ A⟨rfl,g⟩;refine⟨⟨a.1.trans g,a.2.a g⟩,fun a=>?_⟩;refine(Gv [22]∘Yc 26 (HX m.sum 4 X Bc A)) ?_;rintro _ y⟨rfl,f⟩;refine⟨⟨a.1.trans f,a.2.a f⟩,fun a=>?_⟩;refine(Gv [27,28,29]∘Yd∘Lm y) ?_;grind
   .rintro wr V;refine(BF) ?_;grind
 .rw[Mh h,kN h];refine Zi (fun G=>?_) fun G=>?_
  .refine(O 6∘BF) ?_;grind
  .omega
end
section
attribute [local irreducible] EX
open Rec
def first(s:Bg):Y:=(s.getD 0 0).toNat
def Je(s:Bg):M:=
 ⟨(s.drop 1).take (first s),nb ((s.drop (1+first s)).take 2),nb ((s.drop (3+first s)).take 2),nb ((s.drop (5+first s)).take 2),nb ((s.drop (7+first s)).take 4)⟩
def EA:Y->Bg->Ae M->Ae M×Y
 |0,_,out=>(out,0)
 |f+1,s,out=>if s=[]then(out,0)else if Alz s<first s+11 then([],200)else if Ds (Je s)then EA f (s.drop (11+first s)) (out++[Je s])else([],200)
def Dz(l:Ae M):Bl:=l.flatMap M.cells
def kU(l:Ae M)(m:M):Dz (l++[m])=Dz l++m.cells:=by simp[Dz]
def Vm(s:Bg)(k:Y)(h:k<=4):nb (s.take k)<=4294967295:=by
 have a:nb (s.take k)<256 ^ 4:=Kq (SJ _ _ Z) (Gb Bh Bf);omega
def yL(s:Bg)(h:Alz s<=1000000000):(Je s).q:=⟨by show Alz ((s.drop 1).take (first s))<=_;grind,Vm _ 4 X⟩
def vO{s:Bg}(h:s≠[]):HE (s.take 1)=((first s:Y):H):=by
 rw[Vq _ Bf]
 match s,h with
 |c::s,_=>simp[nb,first]
def vN(s:Bg):first s<256:=(s.getD 0 0).toNat_lt
def kS(s:Bg)(hs:Alz s<=1000000000)(w:Ad):
 Bm eD 104 [str s] w fun v w'=>∃vs,v=.tuple #[vs,Bb (((EA (Alz s+1) s []).2:Y):H)]/\Bn w' w.heap.size 60 5 vs (Alz (EA (Alz s+1) s []).1) (Dz (EA (Alz s+1) s []).1)/\Be w w':=by
 generalize ab:EA (Alz s+1) s []=res;refine Bw func104 Z ntmps104 Bi Z ?_;refine(O 13∘Zv (by exact LO (pl:=[(0,1)]) (ks:=[0]) (zs:=[str []]) rt bN Bi Z Z Z)) ?_;refine Dq Z Z Z ?_;rintro l w1 a6 a9 a7;refine(O 4) ?_;have ca:w.heap.size<=l:=a6;refine Lo (fun((f,q,i,v,wr):Y×(Bg)×(Ae M)×Ah×Ad)=>(Alz q<f/\Alz q<=1000000000/\Alz i+f<=Alz s+1/\EA f q i=res/\Bk wr l 194 [str q]/\Bn wr w.heap.size 60 5 v (Alz i) (Dz i)/\Be w wr,[(4,v),(5,.pointer (J ⟨l,0,Aa⟩))],wr,Alz q)) ((Alz s+1),s,([]),(.slice Aa 0 0),w1) ?_ ?_
 .exact⟨X,hs,Bh,ab,a9,Bn.nil _ _ _ _,a7⟩
 .rintro⟨f,q,i,v,wr⟩⟨cc,ba,cd,B,hr,I,hx⟩;refine(O 8∘Zv (by exact MV (r:=[]) Z Z)∘O 1)<|Zi (fun T=>?_) fun T=>?_
  .obtain⟨f,rfl⟩:∃g,f=g+1:=⟨f-1,X⟩;have x:q≠[]:=by simpa using T
   have b7:0<Alz q:=Oh.2 x;have bs:=vN q;rw[EA,Ag x]at B;generalize hn:first q=n at B bs;have d1:(q.drop 1).drop n=q.drop (1+n):=Gj ..;have d3:(q.drop (1+n)).drop 2=q.drop (3+n):=by rw[Gj];congr 1;omega
   have d5:(q.drop (3+n)).drop 2=q.drop (5+n):=by rw[Gj];congr 1;omega
   have d7:(q.drop (5+n)).drop 2=q.drop (7+n):=by rw[Gj];congr 1;omega
   have b6:(q.drop (7+n)).drop 4=q.drop (11+n):=by rw[Gj];congr 1;omega
   have ld:∀j,Alz (q.drop j)<=1000000000000:=fun j=>by rw[CA];omega
   have cf:Alz (q.drop 1)=Alz q-1:=CA;have b2:=fun t:Bg=>Vm t 2 X;have b4:=fun t:Bg=>Vm t 4 X;have i2:=fun t:Bg=>Vq (t.take 2) (by rw[BW];omega);have i4:=fun t:Bg=>Vq (t.take 4) (by rw[BW];omega);refine(O 5∘Zc (Jg l 1 q _ wr hr X X)) ?_;rintro _ w2⟨rfl,a0,a4⟩;refine(O 9) ?_;rw[vO x,hn];have x2:Be w w2:=Bp hx a4 hx.size (fun k a=>by simp at a;omega);have p:=I.j a4 (fun k a=>by simp;exact fun z=>I.ne hr Bc k a z.symm);refine(O 6)<|Zi (fun E=>?_) fun E=>?_
   .rw[Aj X]at B;subst B;refine(O 5∘BF) ?_;exact⟨_,Z,Bn.nil _ _ _ _,x2⟩
   .rw[Ag X]at B;refine(O 7∘Zc (Re l n (q.drop 1) _ w2 a0 X (ld 1))) ?_;rintro _ w3⟨rfl,P,a3⟩;refine(O 1) ?_;rw[d1]at P;have x3:Be w w3:=Bp x2 a3 x2.size (fun k a=>by simp at a;omega);have d:=p.j a3 (fun k a=>by simp;exact fun z=>p.ne a0 Bc k a z.symm);refine(Zn) ?_;rintro W w4 b9 L D;refine(Zs L (hlt:=Bq _)) ?_;rintro w5 K V;refine(O 4) ?_;have x4:=x3.trans D;have x5:Be w w5:=Bp x4 V x4.size (fun k a=>by simp at a;have:=x3.size;omega);have b8:w.heap.size<=W:=by have:=x3.size;omega
    have N:=(P.a D).j V (by simp;exact(P.a D).ne L Bc)
    have o:=(d.a D).j V (fun k a=>by
     have a5:=(d.lt k a).2;grind)
    have ce:∀k,Pi v=J k->k≠W:=fun k a=>by have a5:=(d.lt k a).2;omega
    have cb:W≠l:=fun z=>(N.ne K Bc) z.symm;refine(Zc (Jg l 2 (q.drop (1+n)) _ w5 N X (ld _))) ?_;rintro _ w6⟨rfl,ao,bm⟩;refine(O 1) ?_;rw[d3]at ao;refine(Zc (Jg l 2 (q.drop (3+n)) _ w6 ao X (ld _))) ?_;rintro _ w7⟨rfl,al,bl⟩;refine(O 1) ?_;rw[d5]at al;refine(Zc (Jg l 2 (q.drop (5+n)) _ w7 al X (ld _))) ?_;rintro _ w8⟨rfl,aj,bj⟩;refine(O 1) ?_;rw[d7]at aj;have cg:=b4 (q.drop (7+n));have c9:=Jg l 4 (q.drop (7+n)) _ w8 aj X (ld _);rw[i4]at c9;refine(Zc c9) ?_;rintro _ w9⟨rfl,ai,bi⟩;refine(O 2) ?_;rw[b6]at ai;rw[i2,i2,i2];have A:Mo w5 w9 [l]:=((bm.trans bl).trans bj).trans bi;have a1:=K.j A Bf;have S:=o.j A (fun k a=>by simp;exact fun z=>o.ne N Bc k a z.symm);have x9:Be w w9:=Bp x5 A x5.size (fun k a=>by simp at a;omega);have hM:Je q=⟨(q.drop 1).take n,nb ((q.drop (1+n)).take 2),nb ((q.drop (3+n)).take 2),nb ((q.drop (5+n)).take 2),nb ((q.drop (7+n)).take 4)⟩:=by unfold Je;rw[hn]
    refine(Zt a1) ?_;rintro wa b5 bh;refine(O 1∘Zt b5) ?_;rintro wb b3 a2;refine(O 1∘Zt b3) ?_;rintro wc b1 bf;refine(O 1∘Zt b1) ?_;rintro wd G bd;refine(O 4) ?_;have y:Mo w9 wd [W]:=((bh.trans a2).trans bf).trans bd;replace G:Bk wd W 60 (Je q).cells:=by rw[hM];exact G
    have xd:Be w wd:=Bp x9 y x9.size (fun k a=>by simp at a;omega);have a8:=ai.j y Bf;have Q:=S.j y (fun k a=>by grind);refine(Zv (BX G)∘Zc (XH (Je q) (yL q ba) wd)) ?_;rintro _ we⟨rfl,C⟩;refine(O 7) ?_;have b0:=G.a C;have af:=a8.a C;have m:=Q.a C;have xe:=xd.trans C;by_cases h:Ds (Je q)
    .rw[XI h];rw[Aj h]at B;refine Zi (fun hz=>?_) fun hz=>?_
     .omega
     .refine(O 3∘Zv (BX b0)∘Kx xe m) ?_;rintro _ v2 wf bc xf bq;refine(O 3) ?_;have bx:Alz (q.drop (11+n))=Alz q-(11+n):=CA ..;refine Lb (f,(q.drop (11+n)),(i++[Je q]),v2,wf) ?_;have bn:Mo we wf v.ownBlock.toList:=Mo.grown bq (fun k e=>by grind);refine⟨by rw[CA];omega,by rw[CA];omega,Bf,B,af.j bn (fun z=>m.ne af Bc l Bf Z),?_,xf⟩;rw[Bx,kU];omega
    .rw[Mh h];rw[Ag h]at B;subst B;refine Zi (fun hz=>?_) fun hz=>?_
     .refine(O 6∘BF) ?_;exact⟨_,Z,Bn.nil _ _ _ _,xe⟩
     .omega
  .have bb:q=[]:=by simpa using T
   obtain⟨f,rfl⟩:∃g,f=g+1:=⟨f-1,X⟩;rw[EA,Aj bb]at B;subst B;refine(O 7∘BF) ?_;grind
end
section
open Rec
def Cf(l:Ae M):Bg:=l.flatMap Ep
def rY(l:Ae M)(m:M):Cf (l++[m])=Cf l++Ep m:=by simp[Cf]
def Vi(m:M):Alz (Ep m)=Alz m.g+11:=by
 unfold Ep;simp only[Bx,Eb];omega
def yS{m:M}(h:Ds m)(p:m.sum<=4294967295)(r:Bg):Je (Ep m++r)=m/\first (Ep m++r)=Alz m.g/\(Ep m++r).drop (11+Alz m.g)=r:=by
 obtain⟨D,_⟩:=JU h;obtain⟨_,y,x,w,v,t,q⟩:=h
 have e:Ep m++r=[BV (Alz m.g)]++(m.g++(be 2 m.start.toNat++(be 2 m.p.toNat++(be 2 m.size.toNat++(be 4 m.sum++r))))):=by
  unfold Ep;rw[sw _ X];simp
 have a:first (Ep m++r)=Alz m.g:=by
  show(BV _).toNat=_;simp;omega
 have k:(Ep m++r).drop 1=m.g++(be 2 m.start.toNat++(be 2 m.p.toNat++(be 2 m.size.toNat++(be 4 m.sum++r)))):=e▸Z;have i:=Np k Z Z;have g:=Np i (Eb 2 _) (j:=3+Alz m.g) X;have f:=Np g (Eb 2 _) (j:=5+Alz m.g) X;have d:=Np f (Eb 2 _) (j:=7+Alz m.g) X;have A:=Np d (Eb 4 _) (j:=11+Alz m.g) X;refine⟨?_,a,A⟩;obtain⟨C,B,o,l,n⟩:=m;simp only at y x w v t q p k i g f d a;unfold Je
 rw[a,k,i,g,f,d,Hy Z,Hy (Eb _ _),Hy (Eb _ _),Hy (Eb _ _),Hy (Eb _ _),
  Pb 2 _ X,Pb 2 _ X,Pb 2 _ X,Pb 4 _ X]
 simp;omega
def ZG:∀(l:Ae M) (f:Y) (out:Ae M),(∀m∈l,Ds m/\m.sum<=4294967295)->Alz (Cf l)<f->EA f (Cf l) out=(out++l,0)
 |[],f,out,_,hf=>by
  obtain⟨g,rfl⟩:∃g,f=g+1:=⟨f-1,X⟩;rw[EA,Aj (show Cf _=[]from Z),List.append_nil]
 |m::l,f,out,hl,hf=>by
  obtain⟨g,rfl⟩:∃g,f=g+1:=⟨f-1,X⟩;obtain⟨h1,h2⟩:=hl m Bh;have e:Cf (m::l)=Ep m++Cf l:=by simp[Cf]
  obtain⟨i,h,d⟩:=yS h1 h2 (Cf l);rw[e]at hf ⊢;have a:Alz (Ep m++Cf l)=Alz m.g+11+Alz (Cf l):=by rw[Bx,Vi]
  rw[EA,Ag Bf,h,Ag X,i,Aj h1,d,ZG l g _ Bf X];simp
def Xs:∀l:Ae M,(∀m∈l,Ds m)->Alz (Cf l)<=Alz l*131
 |[],_=>by simp[Cf]
 |m::l,h=>by
  have ih:=Xs l Bf;have h1:=(JU (h m Bh)).1;have e:Cf (m::l)=Ep m++Cf l:=by simp[Cf]
  rw[e,Bx,Vi,CF];omega
end
namespace Cat
open Pth Rec Srt
abbrev Xt:=H×H
def HT(cap:H)(x:Xt):Prop:=30<=x.1/\1<=x.2/\x.1<=cap/\x.2<=cap-x.1
instance(cap:H)(x:Xt):Decidable (HT cap x):=by unfold HT;infer_instance
def apart(x y:Xt):Prop:=x.1+x.2<=y.1∨y.1+y.2<=x.1
instance(x y:Xt):Decidable (apart x y):=by unfold apart;infer_instance
def Xy{x y:Xt}(h:apart x y):apart y x:=h.symm
structure OkX(l:Ae Xt)(cap:H):Prop where
 room:1<=cap/\cap<=4096
 fit:∀x∈l,HT cap x
 far:l.Pairwise apart
instance(l:Ae Xt)(cap:H):Decidable (OkX l cap):=
 decidable_of_iff ((1<=cap/\cap<=4096)/\(∀x∈l,HT cap x)/\l.Pairwise apart) ⟨fun h=>⟨h.1,h.2.1,h.2.2⟩,fun h=>⟨h.room,h.fit,h.far⟩⟩
def Jq(l:Ae Xt)(cap:H):Y:=if OkX l cap then 0 else 220
def SP{l l':Ae Xt}{cap:H}(h:l'.Perm l):OkX l' cap↔OkX l cap:=
 ⟨fun q=>⟨q.room,fun x hx=>q.fit x Bf,(h.pairwise_iff Xy).1 q.far⟩,fun q=>⟨q.room,fun x hx=>q.fit x Bf,(h.pairwise_iff Xy).2 q.far⟩⟩
def HR(a b:Xt):H:=if a=b then 0 else if a.1<b.1∨(a.1=b.1/\a.2<b.2)then -1 else 1
def Sh(a b:Xt):HR a b<0↔(a.1<b.1∨(a.1=b.1/\a.2<b.2)):=by
 unfold HR;grind
def swoX:Go.Sort.SWO (fun a b:Xt=>decide (HR a b<0)) where
 irrefl x:=by
  rw[decide_eq_false_iff_not,Sh];omega
 trans x y z h1 h2:=by
  rw[decide_eq_true_eq,Sh]at*;omega
 ntrans x y z h1 h2:=by
  rw[decide_eq_false_iff_not,Sh]at*;omega
structure Upto(l:Ae Xt)(cap at_:H):Prop where
 fit:∀x∈l,HT cap x
 chain:l.Pairwise (fun x y=>x.1+x.2<=y.1)
 below:∀x∈l,x.1+x.2<=at_
 last:at_=30∨∃x∈l,at_=x.1+x.2
 G:30<=at_/\at_<=30+4096
def Upto.nil(cap:H):Upto [] cap 30:=⟨Bh,Bh,Bh,X,X⟩
def Upto.snoc{l:Ae Xt}{cap at_:H}(i:1<=cap/\cap<=4096)(h:Upto l cap at_){x:Xt}(h1:¬x.1<at_)(h2:¬x.2<1)(k:¬x.1>cap)(j:¬x.2>cap-x.1):Upto (l++[x]) cap (x.1+x.2):=by
 have g:=h.G;refine⟨fun y d=>?_,?_,fun y d=>?_,Bh,X⟩
 .rcases CW.1 d with d|d
  .exact h.fit y d
  .simp at d;subst d;exact⟨X,X,X,X⟩
 .rw[Na];refine⟨h.chain,Bh,fun a f b e=>?_⟩;simp at e;subst e;have:=h.below a f;omega
 .rcases CW.1 d with d|d
  .have:=h.below y d;omega
  .grind
def Upto.done{l:Ae Xt}{cap at_:H}(hc:1<=cap/\cap<=4096)(h:Upto l cap at_):OkX l cap:=⟨hc,h.fit,h.chain.imp fun q=>.inl q⟩
def Upto.fail{l:Ae Xt}{cap at_:H}{x:Xt}{r:Ae Xt}(h:Upto l cap at_)(g:∀y∈l,¬HR x y<0)(d:x.1<at_∨x.2<1∨x.1>cap∨x.2>cap-x.1):¬OkX (l++x::r) cap:=fun q=>by
 have i:=q.fit x Bh;unfold HT at i;rcases d with d|d
 .rcases h.last with e|⟨y,a,e⟩
  .omega
  .have f:=(Na.1 q.far).2.2 y a x Bh;have j:=g y a;rw[Sh]at j;have k:=h.fit y a;rcases f with f|f
   .omega
   .omega
 .omega
def BY(l:Ae M):Ae Xt:=l.map fun m=>(m.start,m.p)
abbrev Mw(m:M):Bg:=m.g
structure OkC(l:Ae M)(cap:H):Prop where
 len:Alz l<=16
 may:∀m∈l,Ds m
 P:De Mw l
 a:OkX (BY l) cap
def fo(m:M):Mg m=0↔Ds m:=by
 unfold Mg;simp
noncomputable def Lp(l:Ae M)(cap:H):Y:=open Classical in if OkC l cap then 0 else 230
def Si{l:Ae M}{cap:H}(h:OkC l cap):Lp l cap=0:=by unfold Lp;grind
def OB{l:Ae M}{cap:H}(h:¬OkC l cap):Lp l cap=230:=by unfold Lp;grind
def Acz{l:Ae M}{m:M}(h:De Mw l)(hl:∀p,l.getLast? =J p->Gd p.g m.g=-1):De Mw (l++[m]):=by
 unfold De at*;rw[Na];refine⟨h,Bh,fun a d b f=>?_⟩;simp at f;subst f;rcases TO l with e|⟨q,p,e⟩
 .grind
 .rw[List.concat_eq_append]at e;subst e;have i:Cg Mw p b=-1:=hl p Bh;rcases CW.1 d with d|d
  .have g:=(Na.1 h).2.2 a d p Bh;exact Sn _ g X
  .grind
end Cat
section
attribute [local irreducible] EX
open Pth Rec Srt Cat
def _root_.Go.Proofs.YtkmlafmjaeeanaaGreatDoor.Cat.xcells(x:Xt):Bl:=[Bb x.1,Bb x.2]
abbrev Ei(l:Ae Xt):Bl:=l.flatMap xcells
def PG(l:Ae Xt)(x:Xt):Ei (l++[x])=Ei l++xcells x:=Bh
def Wm(l:Ae Xt):∀u∈Ei l,u.oneCell'=Af:=by
 intro u a;obtain⟨p,_,h⟩:=Oi.1 a;simp only[xcells,List.mem_cons,List.not_mem_nil,or_false]at h;rcases h with rfl|rfl<;>rfl
def tD(l:Ae Xt)(hl:Alz l<=1000000)(A:Av AB)(c B:Y)(w:Ad)(m:Sl w B A (Ei l)):
 Bm eD 122 [.slice A (Alz l) c] w fun v w'=>Bn w' w.heap.size 121 2 v (Alz l) (Ei l)/\Be w w':=by
 have i:=KE (cells:=xcells) (k:=2) (fun _=>rfl) l;refine Bw func122 Z ntmps122 (by rfl) Z ?_;rcases A with _|⟨b,o,D⟩
 .have g:l=[]:=by
   rcases m with h|⟨_,_,h,_⟩
   .cases l with
    |nil=>rfl
    |cons x l=>
     grind
   .cases h
  subst g;refine(O 15∘Bu) ?_;exact⟨Bn.nil _ _ _ _,Be.refl _⟩
 .refine(O 14) ?_;refine Mc 0 ([]) Z Z iv LK Z Bc Z Z Z Bh Bc ?_;rintro t n e j d;refine(O 1) ?_;have a:Bn n w.heap.size 121 2 (.slice (J ⟨t,0,Aa⟩) 0 0) 0 []:=Bn.Akk (cap:=0) j e Z Bc;refine HM Z Z iv LK Z Bc Z Z (d) (a) (Src.Akm iv (m.a d) i (Wm l) Bc) CB X ?_;rintro C y f p r q;refine(O 2∘Bu) ?_;grind
def xt_eq(a b:Xt):([decide (a.1=b.1),decide (a.2=b.2)].all id)=decide (a=b):=by
 grind
def tM(x y:Xt)(W:Ad):Bm eD 124 [.agg (xcells x).toArray,.agg (xcells y).toArray] W fun r W'=>r=Bb (HR x y)/\Gr W W':=by
 refine Bw func124 Z ntmps124 Bi Z ?_;refine(O 2∘Zv (by exact EX.box (l:=xcells x) Z Z)) ?_;have g:=Bk.new W 121 (xcells x);have k:=Gr.alloc W (.cells (xcells x).toArray 121);generalize n:W.alloc (.cells (xcells x).toArray 121)=w1 at g k;refine(Zv (by exact EX.box (l:=xcells y) Z Z)∘O 5) ?_;have f:=Bk.new w1 121 (xcells y);have i:=Gr.alloc w1 (.cells (xcells y).toArray 121);have a:=g.a i.1;generalize m:w1.alloc (.cells (xcells y).toArray 121)=w2 at f i a;have j:=k.trans i;refine(Zv (BX a)∘Zv (BX f)∘Zv (by exact TD nz Bi Bi Z Z (.cons Bc io Z Z Z (KC io) (.cons Bc io Z Z Z (KC io) .nil)) Z)∘O 1∘Ct 7 (.bool (decide (x=y))) (e:=by exact AF Value.bool (xt_eq x y)))<|Zi (fun h=>?_) fun h=>?_
 .have e:HR x y=0:=by unfold HR;rw[Aj h]
  refine(O 4∘Bu) ?_;grind
 .refine(O 3)<|Lc (fun(p:Unit)=>(True,[(26,.bool (decide (x.1<y.1∨(x.1=y.1/\x.2<y.2))))],w2)) ?_ ?_
  .refine(O 7)<|Zd 13 (fun d=>?_) fun d=>?_
   .refine(O 14∘Ct 26 (.bool (decide (x.1<y.1∨(x.1=y.1/\x.2<y.2)))) (e:=by exact AF Value.bool (AM (.inl d)).symm)∘Lm ()) ?_;trivial
   .refine(O 6)<|Zd 19 (fun o=>?_) fun o=>?_
    .refine(O 8∘Ct 26 (.bool (decide (x.1<y.1∨(x.1=y.1/\x.2<y.2)))) (e:=by exact AF Value.bool (decide_eq_decide.2 X))∘Lm ()) ?_;trivial
    .refine(O 8∘Ct 26 (.bool (decide (x.1<y.1∨(x.1=y.1/\x.2<y.2)))) (e:=by exact AF Value.bool (AN X).symm)∘Lm ()) ?_;trivial
  .rintro _ _;refine Zi (fun d=>?_) fun d=>?_
   .have e:HR x y=-1:=by unfold HR;rw[Ag h,Aj d]
    refine(O 4∘Bu) ?_;rw[e];exact⟨Z,j⟩
   .have e:HR x y=1:=by unfold HR;rw[Ag h,Ag d]
    refine(O 5∘Bu) ?_;rw[e];exact⟨Z,j⟩
def nZ(l:Ae Xt)(hl:Alz l<=1000000)(A:Av AB)(c B:Y)(w:Ad)(r:Sl w B A (Ei l)):
 Bm eD 96 [.slice A (Alz l) c] w fun v w'=>(∃l':Ae Xt,l'.Perm l/\(∀i j (hi:i<Alz l') (hj:j<Alz l'),i<j->¬HR l'[j] l'[i]<0)/\Bn w' w.heap.size 121 2 v (Alz l) (Ei l'))/\Be w w':=by
 refine Bw func96 Z ntmps96 Bi Z ?_;refine(O 7∘Zc (tD l hl A c B w r)) ?_;rintro _ p⟨a,m⟩;refine(O 5) ?_;rename_i q;have C:=VQ Afr (f:=123) Z func123 Bi (e:=121) Z nz Z LK Bh (cells:=xcells) (fun _=>rfl) (fun x v o=>by simp[xcells]at o;rcases o with rfl|rfl<;>rfl) HR swoX func124 Bi w.heap.size l X q p a (fun W x y _=>tM x y W);refine(Zc C) ?_;rintro _ D⟨rfl,l',g,d,h,n⟩;refine(O 6∘Bu) ?_;exact⟨⟨l',g,d,h⟩,Bp m n m.size (fun k t=>(a.lt k (FG.1 t)).1)⟩
def Tk(l:Ae Xt)(hl:Alz l<=1000000)(cap:H)(A:Av AB)(c B:Y)(w:Ad)(hs:Sl w B A (Ei l)):
 Bm eD 65 [.slice A (Alz l) c,Bb cap] w fun v w'=>v=Bb ((Jq l cap:Y):H)/\Be w w':=by
 have L:¬OkX l cap->Jq l cap=220:=fun h=>by unfold Jq;grind
 refine Bw func65 Z ntmps65 (by rfl) Z ?_;refine(O 10)<|Zd 10 (fun h1=>?_) fun h1=>?_
 .refine(O 9∘Bu) ?_;rw[L (fun h=>by have:=h.room;omega)];exact⟨Z,Be.refl _⟩
 .refine(O 4)<|Zi (fun h2=>?_) fun h2=>?_
  .refine(O 4∘Bu) ?_;rw[L (fun h=>by have:=h.room;omega)];exact⟨Z,Be.refl _⟩
  .have hc:1<=cap/\cap<=4096:=X;refine(O 9∘Zc (nZ l hl A c B w hs)) ?_;rintro v1 w1⟨⟨a,d,Q,E⟩,C⟩;obtain⟨A1,c1,rfl,_,S⟩:=E.slice;refine(O 4) ?_;rw[<-SP d]at L;have af:=d.length_eq;have P:OkX a cap->Jq l cap=0:=fun h=>by unfold Jq;rw[Aj ((SP d).1 h)]
   refine Lo (fun((i,at_,wr):Y×H×Ad)=>(i<=Alz a/\Upto (a.take i) cap at_/\Be w1 wr,[(1,Bb cap),(5,Bb (at_:H)),(15,.slice A1 (Alz l) c1),(16,Bb ((Alz l:Y):H)),(17,Bb i)],wr,Alz a-i)) (0,30,w1) ?_ ?_
   .exact⟨BC _,Upto.nil cap,Be.refl _⟩
   .rintro⟨i,at_,wr⟩⟨hi,g,N⟩;have ab:=g.G;refine(O 5)<|Zi (fun G=>?_) fun G=>?_
    .have m:i<Alz a:=X;obtain⟨b,o,rfl,_,p⟩:=(S.a N).flat (l:=a) (i:=i) (c:=2) (fun _=>rfl) Bc m;have D:a.take (i+1)=a.take i++[a[i]]:=(CX m).symm;have r:a=a.take i++a[i]::a.drop (i+1):=by rw[<-DD m,Hx]
     have n:∀y∈a.take i,¬HR a[i] y<0:=fun y hy=>by
      obtain⟨j,hj,rfl⟩:=Hw.1 hy;grind
     generalize a[i]=x at p D r n;refine(O 6∘Zv (Dj (xcells x) p)∘Zn) ?_;rintro W w2 ai V t;refine(Zs V (hlt:=Bq _)) ?_;rintro K I T;refine(O 3) ?_;replace I:Bk K W 121 (xcells x):=I;have x3:Be wr K:=Bp t T t.size (fun k hk=>by grind);refine Lc (fun(_u:Unit)=>(True,[(1,Bb cap),(5,Bb (at_:H)),(7,.pointer (J ⟨W,0,Aa⟩)),(15,.slice (J ⟨b,o,Aa⟩) (Alz l) c1),(16,Bb ((Alz l:Y):H)),(17,Bb i),(44,.bool (decide ((x.1<at_∨x.2<1∨x.1>cap∨x.2>cap-x.1))))],K)) ?_ ?_
     .refine(O 6)<|Zd 25 (fun q1=>?_) fun q1=>?_
      .refine(O 20∘Ct 44 (.bool (decide ((x.1<at_∨x.2<1∨x.1>cap∨x.2>cap-x.1)))) (e:=by exact AF Value.bool (AM (.inl q1)).symm)∘Lm ()) ?_;trivial
      .refine(O 5)<|Zd 30 (fun q2=>?_) fun q2=>?_
       .refine(O 15∘Ct 44 (.bool (decide ((x.1<at_∨x.2<1∨x.1>cap∨x.2>cap-x.1)))) (e:=by exact AF Value.bool (AM (.inr (.inl q2))).symm)∘Lm ()) ?_;trivial
       .refine(O 6)<|Zd 36 (fun q3=>?_) fun q3=>?_
        .refine(O 9∘Ct 44 (.bool (decide ((x.1<at_∨x.2<1∨x.1>cap∨x.2>cap-x.1)))) (e:=by exact AF Value.bool (AM (.inr (.inr (.inl q3)))).symm)∘Lm ()) ?_;trivial
        .refine(O 9∘Ct 44 (.bool (decide ((x.1<at_∨x.2<1∨x.1>cap∨x.2>cap-x.1)))) (e:=by exact AF Value.bool (decide_eq_decide.2 X))∘Lm ()) ?_;trivial
     .rintro _ _;refine Zi (fun q=>?_) fun q=>?_
      .refine(O 4∘Bu) ?_;rw[L (by rw[r];exact g.fail n q)];exact⟨Z,(C.trans N).trans x3⟩
      .have f:=g.snoc hc (x:=x) X X X X;have aj:=f.G;rw[<-D]at f;refine(O 14)<|Lb ((i+1),(x.1+x.2),K) ?_;exact⟨X,f,N.trans x3⟩
    .obtain rfl:i=Alz a:=X;rw[DY]at g;refine(O 5∘Bu) ?_;rw[P (g.done hc)];exact⟨Z,C.trans N⟩
end

section
attribute [local irreducible] EX
open Pth
def DE(w:Ad):Prop:=∃m:H,w.cell? ⟨0,0,Aa⟩=J (Bb m)
def DE.a{w w':Ad}(h:DE w)(hx:Be w w'):DE w':=by
 obtain⟨m,d⟩:=h;refine⟨m,?_⟩;have a:0<w.heap.size:=World.block_lt_of_cell? w _ d;have:=hx.block _ a;unfold World.cell? at d ⊢;grind
def Agr(s:Bg)(l:Alz s<=2000000)(w:Ad)(k:DE w):
 Bm eD 139 [str s,str [47]] w fun v w'=>∃b,v=.slice (J ⟨b,0,Aa⟩) (Alz (BN s)) (Alz (BN s))/\w.heap.size<=b/\Bk w' b 9 (Da (BN s))/\Be w w':=by
 have g:(!(f139.name== "runtime.NumGoroutine") && f139.body.isSome)=Af:=Bi;obtain⟨m,i⟩:=k;have h:=nO ⟨s.toArray⟩ ⟨#[47]⟩ m w (by show Alz s<_;omega) i (by show 1<=1;omega);have j:=Go.Lib.splitB_data ⟨#[47]⟩ 0 (Go.Lib.countB ⟨s.toArray⟩ ⟨#[47]⟩) ⟨s.toArray⟩;have d:(Go.Lib.splitB ⟨#[47]⟩ 0 (Go.Lib.countB ⟨s.toArray⟩ ⟨#[47]⟩) ⟨s.toArray⟩).map (·.data.toList)=BN s:=j.trans (bu _ s Z);have a:=AF DQ d;rw[Dl,Go.Lib.splitB_all ⟨#[47]⟩ (by show 1<=1;omega) 0 _ ⟨s.toArray⟩ Z]at a
 have f:(Go.Lib.splitB ⟨#[47]⟩ 0 (Go.Lib.countB ⟨s.toArray⟩ ⟨#[47]⟩) ⟨s.toArray⟩).map Value.string=Da (BN s):=by
  rw[<-d,Da,EV];rfl
 rw[f,a]at h;refine(Hj func139 g (h.mono (fun e w' q=>q))).mono ?_;rintro v w'⟨rfl,rfl⟩;exact⟨w.heap.size,Z,Bq _,Bk.new w _ _,Be.alloc w _⟩
def lS(s:Bg)(a:Alz s<=2000000)(w:Ad)(d:DE w):
 Bm eD 102 [str s] w fun v w'=>∃b,v=.slice (J ⟨b,0,Aa⟩) (Alz (BN s)) (Alz (BN s))/\w.heap.size<=b/\Bk w' b 9 (Da (BN s))/\Be w w':=by
 refine Bw func102 Z ntmps102 (by rfl) Z ?_;refine(O 7∘Zc (Agr s a w d)) ?_;rintro _ e⟨b,rfl,f⟩;refine(O 2∘Bu) ?_;grind
def Vu(s:Bg):Alz (BN s)<=Alz s+1:=by
 have a:=Wl (BN s);rwa[Tx]at a
def fO(x y:Bg)(w:Ad):Bm eD 103 [str x,str y] w fun v w'=>v=Bb (Go.Lib.compareBytes x y)/\w=w':=by
 have a:(!(f103.name== "runtime.NumGoroutine") && f103.body.isSome)=Af:=Bi;refine(Hj func103 a ((Afx ⟨x.toArray⟩ ⟨y.toArray⟩ w).mono (fun e w' q=>q))).mono ?_;simp
def dW{P:AC}{f:FuncId}{args:Bl}{w:Ad}{v:Ah}(h:Bm P f args w fun v' w'=>v'=v/\w=w'):Xm P f args w v:=
 h.mono fun _ _⟨h1,h2⟩=>⟨h1,0,by subst h2;rfl⟩
def XP:∀(i:Y) (x y:Cl),(∀j,j<i->x[j]? =y[j]?)->i<=Alz x->i<=Alz y->DG x y=DG (x.drop i) (y.drop i)
 |0,x,y,_,_,_=>rfl
 |i+1,[],y,_,h,_=>by simp at h
 |i+1,x,[],_,_,h=>by simp at h
 |i+1,a::x,b::y,h,h1,h2=>by
  have h0:=h 0 X;simp only[List.getElem?_cons_zero,Qf.injEq]at h0;subst h0;rw[DG,Aj Z];simp only[TN];exact XP i x y (fun j hj=>by grind) Bf Bf
def fB{x y:Cl}{i:Y}(d:∀j,j<i->x[j]? =y[j]?)(h1:i<Alz x)(h2:i<Alz y)(a:x[i]≠y[i]):DG x y=Go.Lib.compareBytes x[i] y[i]:=by
 rw[XP i x y d X X,DD h1,DD h2,DG,Ag a]
def fC{x y:Cl}{i:Y}(g:∀j,j<i->x[j]? =y[j]?)(hi:i=min (Alz x) (Alz y)):DG x y=if Alz x<Alz y then -1 else if Alz y<Alz x then 1 else 0:=by
 rw[XP i x y g X X];rcases hx:x.drop i with _|⟨a,h⟩
 .rcases hy:y.drop i with _|⟨b,f⟩
  .have e:=AF DQ hx;have d:=AF DQ hy;simp only[CA,ET]at e d;rw[Ag X,Ag X];rfl
  .have e:=AF DQ hx;have d:=AF DQ hy;simp only[CA,ET,CF]at e d;rw[Aj X];rfl
 .rcases hy:y.drop i with _|⟨b,f⟩
  .have e:=AF DQ hx;have d:=AF DQ hy;simp only[CA,ET,CF]at e d;rw[Ag X,Aj X];rfl
  .grind
def Aei{x y:Cl}{i:Y}(a:∀j,j<i->x[j]? =y[j]?)(h1:i<Alz x)(h2:i<Alz y)(h:x[i]=y[i]):∀j,j<i+1->x[j]? =y[j]?:=fun j d=>by
 grind
def fI(a b:Bg)(ha:Alz a<=2000000)(hb:Alz b<=2000000)(w:Ad)(I:DE w):
 Bm eD 73 [str a,str b] w fun v w'=>v=Bb (Gd a b)/\Be w w':=by
 have S:=Vu a;have Q:=Vu b;refine Bw func73 Z ntmps73 Bi Z ?_;refine(O 7∘Zc (lS a ha w I)) ?_;rintro _ P⟨ba,rfl,W,C,k⟩;refine(O 1∘Zc (lS b hb P (I.a k))) ?_;rintro _ G⟨bb,rfl,V,o,h⟩;refine(O 14) ?_;have N:=k.trans h;have f:=C.a h;unfold Gd;generalize hX:BN a=j0 at f S;generalize hY:BN b=k7 at o Q;refine Lo (fun((i,wr):Y×Ad)=>(i<=min (Alz j0) (Alz k7)/\(∀j,j<i->j0[j]? =k7[j]?)/\Be G wr,[(5,.slice (J ⟨ba,0,Aa⟩) (Alz j0) (Alz j0)),(6,.slice (J ⟨bb,0,Aa⟩) (Alz k7) (Alz k7)),(16,Bb (((min (Alz j0) (Alz k7)):Y):H)),(17,Bb i)],wr,min (Alz j0) (Alz k7)-i)) (0,G) ?_ ?_
 .exact⟨X,fun j hj=>by omega,Be.refl _⟩
 .rintro⟨i,wr⟩⟨p,t,e⟩;have q:=N.trans e;have n:=f.a e;have m:=o.a e;refine(O 5)<|Zi (fun x=>?_) fun x=>?_
  .have E:i<Alz j0:=X;have D:i<Alz k7:=X;have L:=Tv E;have K:=Tv D;refine(O 13∘Zq (by exact fun _=>Bo (n.drewN _) (hi:=L))∘O 3∘Zq (by exact fun _=>Bo (m.drewN _) (hi:=K))∘O 1∘QW.nil) fun g=>Zi (fun l=>?_) fun l=>?_
   .have y:=fB t E D l;have B:=n.drewN g;have A:=m.drewN g;refine(O 5∘Zq (by exact fun _=>Bo (B.drewN _) (hi:=L))∘O 3∘Zq (by exact fun _=>Bo (A.drewN _) (hi:=K))) ?_;refine QW.call Z Z Z (fun _=>dW (fO j0[i] k7[i] _))<|(O 1∘QW.nil) fun g=>(Bu) ?_;rw[y];exact⟨Z,(q.trans (Be.drewN _ _)).trans (Be.drewN _ _)⟩
   .refine(O 6)<|Lb ((i+1),(wr.drewN g)) ?_;exact⟨X,Aei t E D Bf,e.trans (Be.drewN wr g)⟩
  .have d:=fC t X;refine(O 12)<|Zi (fun r=>?_) fun r=>?_
   .rw[Aj r]at d;refine(O 4∘Bu) ?_;grind
   .rw[Ag r]at d;refine(O 9)<|Zi (fun T=>?_) fun T=>?_
    .rw[Aj X]at d;refine(O 4∘Bu) ?_;rw[d];exact⟨Z,q⟩
    .rw[Ag X]at d;refine(O 6∘Bu) ?_;rw[d];exact⟨Z,q⟩
def Agq(s:Bg)(k:Alz s<=2000000)(w:Ad)(j:DE w):
 Bm eD 139 [str s,str [47]] w fun v w'=>∃b,v=.slice (J ⟨b,0,Aa⟩) (Alz (BN s)) (Alz (BN s))/\w.heap.size<=b/\Bk w' b 9 (Da (BN s))/\Gr w w':=by
 have f:(!(f139.name== "runtime.NumGoroutine") && f139.body.isSome)=Af:=Bi;obtain⟨m,g⟩:=j;have h:=nO ⟨s.toArray⟩ ⟨#[47]⟩ m w (by show Alz s<_;omega) g (by show 1<=1;omega);have i:=Go.Lib.splitB_data ⟨#[47]⟩ 0 (Go.Lib.countB ⟨s.toArray⟩ ⟨#[47]⟩) ⟨s.toArray⟩;have d:=i.trans (bu _ s Z);have a:=AF DQ d;rw[Dl,Go.Lib.splitB_all _ (by show 1<=1;omega) 0 _ _ Z]at a
 have e:(Go.Lib.splitB ⟨#[47]⟩ 0 (Go.Lib.countB ⟨s.toArray⟩ ⟨#[47]⟩) ⟨s.toArray⟩).map Value.string=Da (BN s):=by
  rw[<-d,Da,EV];rfl
 rw[e,a]at h;refine(Hj Bh f X).mono ?_;rintro v w'⟨rfl,rfl⟩;exact⟨_,Z,X,Bk.new w _ _,Gr.alloc w _⟩
def lR(s:Bg)(a:Alz s<=2000000)(w:Ad)(d:DE w):
 Bm eD 102 [str s] w fun v w'=>∃b,v=.slice (J ⟨b,0,Aa⟩) (Alz (BN s)) (Alz (BN s))/\w.heap.size<=b/\Bk w' b 9 (Da (BN s))/\Gr w w':=by
 refine Bw Bh Z ntmps102 (by rfl) Z ?_;refine(O 7∘Zc (Agq s a w d)) ?_;rintro _ e⟨b,rfl,f⟩;refine(O 2∘Bu) ?_;grind
def tH(a b:Bg)(V:Alz a<=2000000)(T:Alz b<=2000000)(w:Ad)(B:DE w):
 Bm eD 73 [str a,str b] w fun v w'=>v=Bb (Gd a b)/\Gr w w':=by
 have K:=Vu a;have I:=Vu b;refine Bw Bh Z ntmps73 Bi Z ?_;refine(O 7∘Zc (lR a V w B)) ?_;rintro _ w1⟨ba,rfl,P,t,k⟩;refine(O 1) ?_;have p:=k.1;refine(Zc (lR b T _ (B.a p))) ?_;rintro _ x⟨bb,rfl,N,l,h⟩;refine(O 14) ?_;have o:=h.1;have E:=k.trans h;have f:=t.a o;unfold Gd;generalize hX:BN a=j0 at f K;generalize hY:BN b=k7 at l I;refine Lo (fun((i,wr))=>(i<=min (Alz j0) (Alz k7)/\(∀j,j<i->j0[j]? =k7[j]?)/\Gr x wr,[(5,.slice (J ⟨ba,0,Aa⟩) (Alz j0) (Alz j0)),(6,.slice (J ⟨bb,0,Aa⟩) (Alz k7) (Alz k7)),(16,Bb (((min (Alz j0) (Alz k7)):Y))),(17,Bb i)],wr,min (Alz j0) (Alz k7)-i)) (0,x) ?_ ?_
 .exact⟨X,X,Gr.refl _⟩
 .rintro⟨i,wr⟩⟨m,A,e⟩;have n:=E.trans e;have S:=f.a e.1;have Q:=l.a e.1;refine(O 5)<|Zi (fun q=>?_) fun q=>?_
  .have h1:i<Alz j0:=X;have W:i<Alz k7:=X;have D:=Tv h1;have C:=Tv W;refine(O 13∘Zq (by exact fun _=>Bo Ck (hi:=D))∘O 3∘Zq (by exact fun _=>Bo Ck (hi:=C))∘O 1∘QW.nil) fun G=>Zi (fun g=>?_) fun g=>?_
   .have r:=fB A _ _ g;refine(O 5∘Zq (by exact fun _=>Bo Ck (hi:=D))∘O 3∘Zq (by exact fun _=>Bo Ck (hi:=C))) ?_;refine QW.call Z Z Z (fun _=>dW (fO _ _ _))<|(O 1∘QW.nil) fun G=>(Bu) ?_;rw[r];exact⟨Z,(n.trans (Gr.drewN _ _)).trans (Gr.drewN _ _)⟩
   .refine(O 6)<|Lb ((i+1),(wr.drewN _)) ?_;exact⟨X,Bf,e.trans (Gr.drewN _ _)⟩
  .have d:=fC A X;refine(O 12)<|Zi (fun y=>?_) fun y=>?_
   .refine(O 4∘Bu) ?_;grind
   .rw[Ag y]at d;refine(O 9)<|Zi (fun L=>?_) fun L=>?_
    .rw[Aj X]at d;refine(O 4∘Bu) ?_;rw[d];exact⟨Z,n⟩
    .rw[Ag X]at d;refine(O 6∘Bu) ?_;rw[d];exact⟨Z,n⟩
end
section
attribute [local irreducible] EX
open Pth Rec Srt Cat
def JL(l:Ae M)(i:Y)(m:M):H:=match (l.take i).getLast? with|some p=>Gd p.g m.g|none=>-1
structure PreC(l:Ae M):Prop where
 may:∀m∈l,Ds m
 P:De Mw l
def PreC.nil:PreC []:=⟨Bh,HK.nil⟩
def fH{l:Ae M}{i:Y}{m:M}(h0:0<i)(hi:i<=Alz l):JL l i m=Gd (l[i-1]'X).g m.g:=by
 unfold JL;grind
def PreC.snoc{l:Ae M}{i:Y}(h:PreC (l.take i)){m:M}(hm:Ds m)(d:¬0<=JL l i m):PreC (l.take i++[m]):=by
 refine⟨fun x a=>?_,Acz h.P fun p e=>?_⟩
 .rcases CW.1 a with a|a
  .exact h.may x a
  .grind
 .unfold JL at d;rw[e]at d;simp only at d;have:=OC Mw p m;simp only[Cg,Mw]at this;omega
def zy{l:Ae M}{cap:H}{i:Y}(hi:i<Alz l)(h:¬Ds l[i]∨0<=JL l i l[i]):¬OkC l cap:=fun q=>by
 rcases h with h|h
 .exact h (q.may _ (BL hi))
 .rcases JF i with a|a
  .subst a;simp[JL]at h
  .rw[fH a X]at h;have d:Cg Mw (l[i-1]'X) l[i]=-1:=Ir.1 q.P (i-1) i X hi X;simp only[Cg,Mw]at d;omega
def XG{w w':Ad}(h:Be w w'){a:AB}{u:Ah}(e:w.cell? a=J u):w'.cell? a=J u:=by
 have d:=World.block_lt_of_cell? w _ e;have:=h.block _ d;unfold World.cell? at e ⊢;grind
def Mq(l:Ae M):Alz (BY l)=Alz l:=by simp[BY]
def UF(l:Ae M)(ao:∀m∈l,m.q)(hl:Alz l<=140737488355328)(cap:H)(A:Av AB)(c B:Y)(w:Ad)(hG:DE w)(hs:Sl w B A (Dz l)):
 Bm eD 43 [.slice A (Alz l) c,Bb cap] w fun v w'=>v=Bb ((Lp l cap:Y):H)/\Be w w':=by
 refine Bw func43 Z ntmps43 Bi Z ?_;refine(O 11)<|Zi (fun ai=>?_) fun ai=>?_
 .refine(O 4∘Bu) ?_;rw[OB (fun h=>by have:=h.len;omega)];exact⟨Z,Be.refl _⟩
 .refine(O 13)<|Lo (fun((i,v,wr):Y×Ah×Ad)=>(i<=Alz l/\PreC (l.take i)/\Bn wr w.heap.size 121 2 v i (Ei (BY (l.take i)))/\Be w wr,[(0,.slice A (Alz l) c),(1,Bb cap),(5,v),(11,.slice A (Alz l) c),(12,Bb ((Alz l:Y):H)),(13,Bb i)],wr,Alz l-i)) (0,(.slice Aa 0 0),w) ?_ ?_
  .exact⟨BC _,PreC.nil,Bn.nil _ _ _ _,Be.refl _⟩
  .rintro⟨i,v,wr⟩⟨hi,f,D,hx⟩;refine(O 5)<|Zi (fun t=>?_) fun t=>?_
   .obtain⟨b,o,rfl,_,E⟩:=(hs.a hx).flat (i:=i) (c:=5) (fun _=>rfl) Bc t;have N:l.take (i+1)=l.take i++[l[i]]:=(CX t).symm;have I:=zy (cap:=cap) t;have af:=ao l[i] (BL t);have y:∀h:0<i,JL l i l[i]=Gd (l[i-1]'X).g (l[i]).g:=fun h=>fH h hi;have x:i=0->JL l i l[i]=-1:=fun h=>by subst h;rfl
    have al:∀h:0<i,Ds (l[i-1]'X):=fun h=>f.may _ (List.mem_take_iff_getElem.2 ⟨i-1,X,Z⟩)
    have a1:∀h:0<i,∀j u,(l[i-1]'X).cells[j]? =J u->wr.cell? ⟨b,o+(i-1)*5+j,Aa⟩=J u:=fun h=>by
     obtain⟨b2,o2,e2,_,h2⟩:=(hs.a hx).flat (i:=i-1) (c:=5) (fun _=>rfl) Bc X;grind
    generalize a5:l[i]=m at E N I af y x;refine(O 7∘Zv (Dj m.cells E)∘Zn) ?_;rintro mb w2 a3 a2 W;refine(O 1∘Zs a2 (hlt:=Bq _)) ?_;rintro G g a0;refine(O 3) ?_;replace g:Bk G mb 60 m.cells:=g;have x3:Be wr G:=Bp W a0 W.size (fun k hk=>by grind);have S:=hx.trans x3;have ck:=fun w=>XH m af w;refine Lc (fun(K:Ad)=>(Be G K,[(0,.slice (J ⟨b,o,Aa⟩) (Alz l) c),(1,Bb cap),(5,v),(7,.pointer (J ⟨mb,0,Aa⟩)),(11,.slice (J ⟨b,o,Aa⟩) (Alz l) c),(12,Bb ((Alz l:Y):H)),(13,Bb i),(36,.bool (decide ((¬Ds m∨0<=JL l i m))))],K)) ?_ ?_
    .skip
     rcases Decidable.em (Ds m)with hm|hm
     .have e0:Mg m=0:=(fo m).2 hm;have a4:=(JU hm).1;rw[e0]at ck;rcases JF i with h0|h0
      .refine(Yr 19 (fun w'=>Be G w') (Be.drew G)) fun r=>(Yw 0 (he:=by exact fun _ d=>BX (g.a d))∘Yc 1 (ck _)) ?_;rintro _ K⟨rfl,a⟩;refine⟨r.trans a,fun r=>?_⟩;refine(Gv [2,3]∘Ng 21∘Gv [4,5,6]∘Ng 24∘Gv [7,8,9,10,11,12,13,14,15,16,17,18]∘Yd∘Ct 36 (.bool (decide ((¬Ds m∨0<=JL l i m)))) (e:=by exact AF Value.bool (AN (fun q=>q.elim (fun z=>z hm) (fun z=>by have:=x h0;omega))).symm)∘Lm K) ?_;exact r
      .have e1:=y h0;have e2:(l[i-1]'X).g.length<=120:=(JU (al h0)).1;have e3:=a1 h0;generalize(l[i-1]'X)=p at e1 e2 e3;have cc:=fun w hG=>fI p.g m.g X X w hG;rw[<-e1]at cc;refine(Yr 19 (fun w'=>Be G w') (Be.drew G)) fun r=>(Yw 0 (he:=by exact fun _ d=>BX (g.a d))∘Yc 1 (ck _)) ?_;rintro _ K⟨rfl,a⟩;refine⟨r.trans a,fun r=>?_⟩;refine(Gv [2,3]∘Ng 21∘Gv [4,5,6]∘Zga 24∘Gv [7,8,9,10,11]∘Yw 12 (he:=by exact fun _ d=>BR (XG (x3.trans d) (e3 0 _ Z)))∘Gv [13]∘Yw 14 (he:=by exact fun _ d=>Bo (g.a d))∘Yc 15 (cc _ ((hG.a S).a r))) ?_;rintro _ wp⟨rfl,aj⟩;refine⟨r.trans aj,fun r=>?_⟩;refine(Gv [16,17,18]∘Yd∘Ct 36 (.bool (decide ((¬Ds m∨0<=JL l i m)))) (e:=by exact AF Value.bool (decide_eq_decide.2 ⟨fun h=>.inr h,fun h=>h.elim (fun q=>absurd hm q) id⟩))∘Lm wp) ?_;exact r
     .have e0:Mg m≠0:=fun q=>hm ((fo m).1 q);refine(Yr 19 (fun w'=>Be G w') (Be.drew G)) fun r=>(Yw 0 (he:=by exact fun _ d=>BX (g.a d))∘Yc 1 (ck _)) ?_;rintro _ K⟨rfl,a⟩;refine⟨r.trans a,fun r=>?_⟩;refine(Gv [2,3]∘Zga 21 (e:=by exact fun h=>e0 h)∘Gv [4,5,6,7,8,9,10,11,12,13,14,15,16,17,18]∘Yd∘Ct 36 (.bool (decide ((¬Ds m∨0<=JL l i m)))) (e:=by exact AF Value.bool (AM (.inl hm)).symm)∘Lm K) ?_;exact r
    .rintro K a;have xq:=S.trans a;have a7:=g.a a;have P:=(D.a x3).a a;refine Zi (fun n=>?_) fun n=>?_
     .refine(O 4∘Bu) ?_;rw[OB (I n)];grind
     .have C:=f.snoc (m:=m) (Decidable.of_not_not fun q=>n (.inl q)) (fun q=>n (.inr q));rw[<-N]at C;refine(O 8∘Kx xq P) ?_;rintro _ v4 w4 Q x4 a6;refine(O 7)<|Lb ((i+1),v4,w4) ?_;refine⟨X,C,?_,x4⟩;rw[N,show BY (l.take i++[m])=BY (l.take i)++[(m.start,m.p)] by simp[BY],PG];exact Q
   .obtain rfl:i=Alz l:=X;rw[DY]at f D;obtain⟨A4,c4,rfl,_,ab⟩:=D.slice;have cs:=Tk (BY l) (by rw[Mq];omega) cap A4 c4 _ wr ab;rw[Mq]at cs;refine(O 6∘Zc cs) ?_;rintro _ w5⟨rfl,V⟩;refine(O 2)<|Zi (fun L=>?_) fun L=>?_
    .have I:¬OkX (BY l) cap:=fun q=>L (by unfold Jq;grind);refine(O 4∘Bu) ?_;rw[OB (fun h=>I h.a)];exact⟨Z,hx.trans V⟩
    .have T:OkX (BY l) cap:=Decidable.byContradiction fun q=>L (by unfold Jq;grind);refine(O 5∘Bu) ?_;rw[Si ⟨X,f.may,f.P,T⟩];exact⟨Z,hx.trans V⟩
end
end Go.Proofs.YtkmlafmjaeeanaaGreatDoor
